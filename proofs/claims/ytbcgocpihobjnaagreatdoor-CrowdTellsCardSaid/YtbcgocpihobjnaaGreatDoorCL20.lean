import Derived.Shelf.SlSortCmp.NoneTotal
import Derived.Test.YtbcgocpihobjnaaGreatDoorCL19
import Derived.Test.YtbcgocpihobjnaaGreatDoorShelf
import Derived.Test.YtbcgocpihobjnaaGreatDoorCL16
set_option linter.all false
set_option maxHeartbeats 8000000
set_option maxRecDepth 100000
namespace Go.Proofs.YtbcgocpihobjnaaGreatDoor
section
open Go.RowKit Go.Shelf Go.Sort Go.Maps
abbrev KO:={k:Ky // KyOk k}
instance:Inhabited KO:=⟨⟨⟨[],[],0⟩,⟨by simp,by simp,by simp,by simp,by decide,by decide⟩⟩⟩
def ek(x:KO):List Value:=kyC x.1
def cfO(x y:KO):Int:=Vn x.1 y.1
theorem Z5d:SWO (ltOf cfO) where
 irrefl x:=ld x.1
 trans x y z h1 h2:=lf x.1 y.1 z.1 h1 h2
 ntrans x y z h1 h2:=z_ x.1 y.1 z.1 h1 h2
theorem TX(l:List KO):l.flatMap ek=(l.map (·.1)).flatMap kyC:=by
 induction l with
 | nil=>rfl
 | cons x l ih=>rw[List.flatMap_cons,List.map_cons,List.flatMap_cons,ih];rfl
theorem Zmk{d d':Array KO}(fz:(d.toList.map (·.1)).Nodup)(hp:PermIn 0 d.size d d')(hs:SortedIn (ltOf cfO) 0 d.size d'):wV (d'.toList.map (·.1))/\(∀ x,x∈d'.toList.map (·.1)↔x∈d.toList.map (·.1))/\d'.size=d.size:=by
 obtain⟨h1,_,h3⟩:=hp
 have i8:d'.toList.Perm d.toList:=by
  have e1:d'.extract 0 d.size=d':=by rw[<- h1];exact Array.extract_size
  have e2:d.extract 0 d.size=d:=Array.extract_size
  rwa [e1,e2] at h3
 have hm:=i8.map (fun x:KO=>x.1);have rn:(d'.toList.map (·.1)).Nodup:=hm.nodup_iff.2 fz;refine⟨?_,fun x=>hm.mem_iff,h1⟩;unfold wV;rw[List.pairwise_iff_getElem];intro i j hi hj fs;rw[eB,Array.length_toList] at hi hj
 have cT:(d'.toList.map (·.1))[i]'(by simpa using hi)≠(d'.toList.map (·.1))[j]'(by simpa using hj):=fun e=>by
  have:=(List.pairwise_iff_getElem.1 rn) i j (by simpa using hi) (by simpa using hj) fs;exact this e
 have Wu:=hs i j (Nat.zero_le _) fs (by omega);rw[getElem!_pos d' i hi,getElem!_pos d' j hj] at Wu;simp only[List.getElem_map,Array.getElem_toList] at cT ⊢;rcases BT d'[i].1 d'[j].1 with h | h | h
 ·exact h
 ·exact absurd h cT
 ·have:ltOf cfO d'[j] d'[i]=true:=h
  rw[this] at Wu;cases Wu
theorem TY:∀ (l m:List Ky),l.Nodup->(∀ x∈l,x∈m)->l.length<=m.length
 | [],m,_,_=>Nat.zero_le _
 | x::l,m,h,hs=>by
  rw[List.nodup_cons] at h;have hx:=hs x (List.mem_cons_self ..);have:=TY l (m.erase x) h.2 (fun y hy=>(List.mem_erase_of_ne (by rintro rfl;exact h.1 hy)).2 (hs y (List.mem_cons_of_mem _ hy)));rw[List.length_erase_of_mem hx] at this;have hp:0<m.length:=List.length_pos_of_mem hx;rw[List.length_cons];omega
theorem Zvp(l:List Ky)(h:∀ k∈l,KyOk k):∃ d:List KO,d.map (·.1)=l:=by
 induction l with
 | nil=>exact⟨[],rfl⟩
 | cons x l ih =>
  obtain⟨d,hd⟩:=ih (fun k hk=>h k (List.mem_cons_of_mem _ hk));exact⟨⟨x,h x (List.mem_cons_self ..)⟩::d,by rw[List.map_cons,hd]⟩
theorem Zvq(w:World)(B cap:Nat)(ao:Option Addr)(ss:List Ky)(i9:∀ k∈ss,KyOk k)(fz:ss.Nodup)(hO:OwnK w B 3 ss.length cap (ss.flatMap kyC) ao)(aQ:ss.length<=1000000) :
  Calls Tryz.prog 182 #[.slice ao ss.length cap,.func (.func 149) #[] #[]] w fun e w'=>e = .returned (.tuple #[])/\∃ ss',ss'.length=ss.length/\wV ss'/\(∀ x,x∈ss'↔x∈ss)/\OwnK w' B 3 ss.length cap (ss'.flatMap kyC) ao/\Only w w' (fun g=>blk ao=some g):=by
 cases ao with
 | none =>
  have hz:ss=[]:=by
   cases hO with
   | nil h hn hc=>exact List.eq_nil_of_length_eq_zero hn
  subst hz;refine(AnyF.slices_SortFunc_none Tryz.sortKey none cap _ w).mono ?_;rintro e w' ⟨rfl,rfl⟩;exact⟨rfl,[],rfl,.nil,fun x=>Iff.rfl,hO,Only.refl _ _⟩
 | some a =>
  obtain⟨d,hd⟩:=Zvp ss i9
  have Pq:d.length=ss.length:=by rw[<- hd,eB]
  have j0:ss.flatMap kyC=d.flatMap ek:=by rw[TX,hd]
  have hO':=hO;rw[j0] at hO';obtain⟨g,off,si⟩:=a
  have j1:si=none:=by cases hO;rfl
  subst j1;have hH:=OwnK.holds ek 3 (fun _=>rfl) hO';have aE:g<w.heap.size:=(hO.blk_lt rfl).2;have eg:∀ args w,(callFunc 149 args).run Tryz.prog w = .ok (.enter 149 args) w:=enters_of Tryz.func149 (by kernel_rfl) rfl
  have hc:=AnyQ.slices_SortFunc Tryz.sortKey 3 Tryz.isAgg121 Tryz.sizeOf121 ek (fun _=>rfl) (fun x v hv=>TS x.1 v hv) cfO Z5d 149 #[] g off cap d.toArray w eg
   (fun m os dk hs x y=>Zzi x.1 y.1 _ x.2.bytes y.2.bytes) hH aE (by simp;omega)
  rw[List.size_toArray,Pq] at hc;refine hc.mono ?_;rintro e w' ⟨rfl,d',n,os,hp,hs,rfl⟩;have hA:=Zmk (d:=d.toArray) (d':=d') (by simpa [hd] using fz) (by simpa [Pq] using hp) (by simpa [Pq] using hs);obtain⟨hS,hOn⟩:=OwnK.sorted ek 3 (fun _=>rfl) (m:=n) (os:=os) (d:=d') hO' (by simpa using hA.2.2);refine⟨rfl,d'.toList.map (·.1),by rw[eB,Array.length_toList,hA.2.2];simpa using Pq,hA.1,fun x=>by rw[hA.2.1 x];simp[hd],by rw[<- TX];exact hS,?_⟩;exact hOn.mono (fun x _ hx=>by rw[hx];rfl)
theorem Zp4(Bm b:Nat)(S0:List Ky)(hS0:∀ k∈S0,KyOk k)(aQ:S0.length<=1000000)(w:World)(hBm:Bm<w.heap.size)(hm:w.cell? ⟨Bm,0,none⟩=some (.map (some b)))(h:lX w b S0) :
  Calls Tryz.prog 147 #[.func (.func 183) #[] #[.pointer (some ⟨Bm,0,none⟩)],.func (.func 149) #[] #[]] w fun e w' =>
   ∃ (ao:Option Addr) (cap:Nat) (ss:List Ky),e = .returned (.slice ao ss.length cap)/\wV ss/\(∀ x,x∈ss↔x∈S0)/\OwnK w' w.heap.size 3 ss.length cap (ss.flatMap kyC) ao/\RowKit.Below w.heap.size w w':=by
 have HC:=I (callsIn_wide.1 (Zzo Bm b S0 hS0 aQ w hBm hm h));have Fz:=I hS0;have qW:=I aQ;clear hS0 aQ hBm hm h
 go_enter Tryz.func147,Tryz.ntmps147
 go_wp2_with fail
 refine HC.o.mono ?_;rintro e w1 ⟨ao,cap,ss,rfl,⟨h1,kM⟩,h2,h3⟩;have Wz:ss.length<=1000000:=dQ (TY ss S0 h1 (fun x hx=>(kM x).1 hx)) qW.o;have HS:=I (Zvq w1 w.heap.size cap ao ss (fun k hk=>Fz.o k ((kM k).1 hk)) h1 h2 Wz);have H1:=I kM;have H3:=I h3;have H2:=I h2;clear h1 kM h2 h3 Wz;generalize hn:ss.length=n at *
 go_wp2_with fail
 refine HS.o.mono ?_;rintro e w2 ⟨rfl,ss',hl,ha,hx,ho,xF⟩;have H4:=I (And.intro hl (And.intro ha (And.intro hx (And.intro ho xF))));clear hl ha hx ho xF
 go_wp2
 go_ret;obtain⟨hl,ha,hx,ho,xF⟩:=H4.o;refine⟨ao,cap,ss',by rw[hl];rfl,ha,fun x=>by rw[hx,H1.o],by rw[hl];exact ho,Only.later H3.o xF (fun g hg=>(H2.o.blk_lt hg).1)⟩
theorem Zvr(w:World)(P:Nat->Prop)(p:Prd)(vs:List Value)(h:cK w P p vs)(hf:dV p=true)(hc:cO p<=1000000) :
  Calls Tryz.prog 93 #[.agg vs.toArray] w fun e w'=>∃ (ao:Option Addr) (cap:Nat),e = .returned (.slice ao (sB p).length cap)/\OwnK w' w.heap.size 3 (sB p).length cap ((sB p).flatMap kyC) ao/\RowKit.Below w.heap.size w w':=by
 obtain⟨a,n,c,rfl,-⟩:=h.form;have h2:=h.mono (P':=fun g=>g<w.heap.size) (fun g _ hl=>hl);have b1:=((aG w.heap.size w).alloc (aO _) (.cells #[.int .i64 p.k,.string (aB p.l),.string (aB p.r),.int .i64 p.c,.slice a n c] 54)).alloc (by simp) (.map #[] 0);have PX:=I (h2.below b1);have X0:Hid (aC ((w.alloc (.cells #[.int .i64 p.k,.string (aB p.l),.string (aB p.r),.int .i64 p.c,.slice a n c] 54)).alloc (.map #[] 0)) w.heap.size 54 [.int .i64 p.k,.string (aB p.l),.string (aB p.r),.int .i64 p.c,.slice a n c]):=I (lr _ _ _);have QX:Hid (lX ((w.alloc (.cells #[.int .i64 p.k,.string (aB p.l),.string (aB p.r),.int .i64 p.c,.slice a n c] 54)).alloc (.map #[] 0)) (w.heap.size+1) []):=I (by have:=lX.nil (w.alloc (.cells #[.int .i64 p.k,.string (aB p.l),.string (aB p.r),.int .i64 p.c,.slice a n c] 54));rwa [eH] at this);have BX:=I b1;have HF:=I hf;have lQ:=I hc;clear h h2 b1 hf hc;generalize p.k=q0 at *;generalize aB p.l=q1 at *;generalize aB p.r=q2 at *;generalize p.c=q3 at *;have qG:=@run_makeMap Tryz.prog
 go_enter Tryz.func93,Tryz.ntmps93
 have pG:=I (Vs p HF.o);have Lt:=I (CC p);have XX:=I (fun(w':World) (hb:Only ((w.alloc (.cells #[.int .i64 q0,.string q1,.string q2,.int .i64 q3,.slice a n c] 54)).alloc (.map #[] 0)) w' (· = w.heap.size+1))=>Only.later (aG w.heap.size w) (Only.trans (Only.of_below (p:=fun g=>w.heap.size<=g) BX.o) (hb.mono (fun g _ hg=>by rw[hg];exact Nat.le_succ _))) (fun g hg=>hg))
 go_wp2_with (refine wpList_load_row rfl 54 (.tmp 1) rfl w.heap.size ?x1 54 (lw q0 q1 q2 q3 a n c).toArray (0,0) _ X0.o Tryz.underlying54 rfl (oT _ rfl) ?_;(case x1=>rfl))
 refine(TP (cO p) p _ _ _ (w.heap.size+1) [] (aO _) HF.o (by simpa using lQ.o) (fun k hk=>absurd hk List.not_mem_nil) PX.o QX.o (fun g hg=>by omega)).mono ?_;rintro e w2 ⟨rfl,s2,o2⟩;have S2:=I (show lX w2 (w.heap.size+1) (oI p) by simpa using s2);have B2:=I (XX.o w2 o2);clear s2 o2 XX PX X0 QX BX;generalize (w.alloc (.cells #[.int .i64 q0,.string q1,.string q2,.int .i64 q3,.slice a n c] 54)).alloc (.map #[] 0)=wx at *;have A3:=(aG w2.heap.size w2).alloc (aO _) (.cells #[.map (some (w.heap.size+1))] 166);have S3:=I (S2.o.step A3);have B3:=B2.tr A3;have C3:Hid ((w2.alloc (.cells #[.map (some (w.heap.size+1))] 166)).cell? ⟨w2.heap.size,0,none⟩=some (.map (some (w.heap.size+1)))):=I ((show aC _ w2.heap.size 166 [.map (some (w.heap.size+1))] from heap_alloc_new w2 _).cell 0 _ rfl);have L3:Hid (w2.heap.size<(w2.alloc (.cells #[.map (some (w.heap.size+1))] 166)).heap.size):=I (by simp);clear A3;have j2:=I (callsIn_wide.1 (Zzm Fence.wide 5 trivial rfl (w.heap.size+1) w2))
 go_wp2_with fail
 refine j2.o.mono ?_;rintro e w3 ⟨rfl,rfl⟩;generalize w2.alloc (.cells #[.map (some (w.heap.size+1))] 166)=w3 at *
 go_wp2_with fail
 refine(Zp4 w2.heap.size (w.heap.size+1) (oI p) pG.o (dQ Lt.o lQ.o) w3 L3.o C3.o S3.o).mono ?_;rintro e w4 ⟨ao,cap,ss,rfl,ha,hx,ho,hb⟩;have HE:ss=sB p:=A_ ha (QC p) (fun x=>by rw[hx,CH]);subst HE;have B4:=B3.tr hb;have O4:=I (ho.lower (B':=w.heap.size) B3.o.size);clear ha hx ho hb
 go_wp2
 go_ret;exact⟨ao,cap,rfl,O4.o,B4.o⟩
end
section
open Go.RowKit Go.Sort
structure IsF (C:World->Prop) (g:Nat) (cb:Array Value) (f:Ky->Bool) (S:Ky->Prop):Prop where
 enters:∀ args w,(callFunc g args).run Tryz.prog w = .ok (.enter g args) w
 step:∀ w w',C w->Below w.heap.size w w'->C w'
 calls:∀ k w,S k->C w->Calls Tryz.prog g (#[.agg (kyC k).toArray]++cb) w fun e w'=>e = .returned (.bool (f k))/\Below w.heap.size w w'
theorem Zzp(w:World)(l r:List Nat)(c:Int)(x:Value)(hx:x.oneCell'=true)(C:World->Prop)(g:Nat)(cb:Array Value)(f:Ky->Bool)(S:Ky->Prop)(hf:IsF C g cb f S)(hS:S ⟨l,r,c⟩)(hC:C w) :
  Calls Tryz.prog 95 #[.agg #[.int .i64 0,.string (aB l),.string (aB r),.int .i64 c,x],.func (.func g) #[] cb] w fun e w'=>e = .returned (.bool (f ⟨l,r,c⟩))/\Below w.heap.size w w':=by
 have bx:=bwA w (.cells #[.int .i64 0,.string (aB l),.string (aB r),.int .i64 c,x] 54);have B1:=I bx;have C1:=I (hf.step _ _ hC bx);have X1:=hnw w 54 [.int .i64 0,.string (aB l),.string (aB r),.int .i64 c,x];have HK:=I (fun w=>RP 0 l r c x hx w);have Pk:(lu l r c).toArray=(kyC ⟨l,r,c⟩).toArray:=rfl;rw[Pk] at HK;have yW:=I (hf.calls ⟨l,r,c⟩);have bQ:=I hf.step;have eg:=hf.enters;have HS:=I hS;clear bx hS hC Pk hf;generalize hKY:(⟨l,r,c⟩:Ky)=K at *;clear hKY;generalize aB l=y at *;generalize aB r=z at *;generalize (kyC K).toArray=kv at *
 go_enter Tryz.func95,Tryz.ntmps95
 go_upto_region 1 with(fail)
 generalize w.alloc (.cells #[.int .i64 0,.string y,.string z,.int .i64 c,x] 54)=w1 at *;have x0:=X1.o.cell 0 _ rfl
 go_wp2_with (refine wpList_load_row rfl 54 (.tmp 2) rfl w.heap.size ?x1 54 #[.int .i64 0,.string y,.string z,.int .i64 c,x] (0,0) _ X1.o Tryz.underlying54 rfl (oT _ rfl) ?_;(case x1=>rfl))
 refine(HK.o w1).mono ?_;rintro e w2 ⟨rfl,b2⟩;have C2:=I (bQ.o _ _ C1.o b2);have B2:=B1.tr b2;clear b2
 go_wp2_with fail
 refine(yW.o w2 HS.o C2.o).mono ?_;rintro e w3 ⟨rfl,b3⟩;have B3:=B2.tr b3;clear b3
 go_wp2
 go_ret;exact⟨rfl,B3.o⟩
theorem Zzq (w:World) (P:Nat->Prop) (κ:Int) (l r:List Nat) (c:Int) (ks:List Prd) (ao:Option Addr) (n cap:Nat) (hκ:κ≠0) (hn:n=ks.length) (bN:n<=1000000)
  (hk:ks=[]\/∃ g off,ao=some ⟨g,off,none⟩/\P g/\g<w.heap.size/\gE w P ks g off)
  (C:World->Prop) (fv:Value) (f:Ky->Bool) (aV:∀ w w',C w->Below w.heap.size w w'->C w') (hC:C w)
  (ih:∀ (q:Prd) (w:World) (vs:List Value),q∈ks->cK w P q vs->C w->Calls Tryz.prog 95 #[.agg vs.toArray,fv] w fun e w'=>e = .returned (.bool (lW f q))/\Below w.heap.size w w') :
  Calls Tryz.prog 95 #[.agg #[.int .i64 κ,.string (aB l),.string (aB r),.int .i64 c,.slice ao n cap],fv] w fun e w'=>e = .returned (.bool (lW f (.mk κ l r c ks)))/\Below w.heap.size w w':=by
 have HK:=I hk;have IH:=I ih;have HN:=I hn;have bQ:=I aV;have hκb:(κ==0)=false:=beq_eq_false_iff_ne.mpr hκ;have HV:Hid (lW f (.mk κ l r c ks)=if κ=1 then kS f ks==ks.length else if κ=2 then decide (0<kS f ks) else decide (c<=(kS f ks:Int))):=I (by rw[lW,if_neg hκ]);obtain⟨V,hV⟩:=exq (lW f (.mk κ l r c ks));rw[hV] at HV ⊢;clear hV;have bx:=bwA w (.cells #[.int .i64 κ,.string (aB l),.string (aB r),.int .i64 c,.slice ao n cap] 54);have C1:=I (aV _ _ hC bx);have B1:=I bx;have X1:=hnw w 54 [.int .i64 κ,.string (aB l),.string (aB r),.int .i64 c,.slice ao n cap];clear bx hk ih hn hC aV;generalize aB l=y at *;generalize aB r=z at *
 go_enter Tryz.func95,Tryz.ntmps95
 go_upto_region 1 with(fail)
 generalize w.alloc (.cells #[.int .i64 κ,.string y,.string z,.int .i64 c,.slice ao n cap] 54)=w1 at *;have x0:=X1.o.cell 0 _ rfl;have x4:=X1.o.cell 4 _ rfl
 go_wp2_with fail
 clear x4 x0
 go_loopw [18,5] (fun cc nn wr=>∃ (i m:Nat),cc = .int .i64 i/\nn = .int .i64 m/\i<=n/\m<=i/\Hid (m=kS f (ks.take i))/\Hid (C wr)/\Hid (Below w.heap.size w wr)/\Hid (aC wr w.heap.size 54 [.int .i64 κ,.string y,.string z,.int .i64 c,.slice ao n cap])) (fun c _ _=>(n-intOf c).toNat)
 case atStart=>exact⟨0,0,rfl,rfl,by omega,by omega,I rfl,C1,B1,X1⟩
 case round =>
  clear C1 B1 X1;obtain⟨i,m,rfl,rfl,hi,GO,hm,hc,hw,hx⟩:=hrel;have e2:=w1i i (by omega);have e3:=w1i m (by omega);by_cases aE:i<n
  ·have ii:(i:Int)<n:=by omega
   have HQ:Hid (∃ q,ks[i]?=some q/\∃ g off,ao=some ⟨g,off,none⟩/\g<w.heap.size/\∃ vs,cK wr P q vs/\dD wr g (off+i*5) vs):=I (by
    have hl:i<ks.length:=by rw[<- HN.o];exact aE
    refine⟨ks[i],aL hl,?_⟩;rcases HK.o with h | ⟨g,off,h1,h2,h3,h4⟩
    ·rw[h] at hl;exact absurd hl (jU _)
    ·obtain⟨vs,nU,qD⟩:=gE.at ks g off i _ (aL hl) h4
     exact⟨g,off,h1,h3,vs,nU.below hw.o,qD.of_block (hw.o.block g h3)⟩)
   obtain⟨q,bX,g,off,bI,hg,vs,bH,aH⟩:=HQ.o;clear HQ;have gZ:=I bX;obtain⟨xa,xn,xc,mS,-⟩:=bH.form;rw[mS] at aH bH;have PC:=I bH;have s0:=aH 0 _ rfl;have s1:=aH 1 _ rfl;have s2:=aH 2 _ rfl;have s3:=aH 3 _ rfl;have s4:=aH 4 _ rfl;clear aH bH mS vs bX;rw[Nat.add_zero] at s0;have mT:=I bI;subst bI;generalize q.k=q0 at *;generalize aB q.l=q1 at *;generalize aB q.r=q2 at *;generalize q.c=q3 at *
   go_wp2_with fail
   have bx:=bwA wr (.cells #[.int .i64 q0,.string q1,.string q2,.int .i64 q3,.slice xa xn xc] 54);have uL:=I (bQ.o _ _ hc.o bx);have yX:=hw.tr bx;have Fx:=I (hx.o.step bx);have PX:=I (PC.o.below bx);clear s0 s1 s2 s3 s4 bx hc hw hx PC;generalize wr.alloc (.cells #[.int .i64 q0,.string q1,.string q2,.int .i64 q3,.slice xa xn xc] 54)=wx at *;refine(IH.o q wx _ (bU gZ.o) PX.o uL.o).mono ?_;rintro e w3 ⟨rfl,b3⟩;have qE:=I (bQ.o _ _ uL.o b3);have kA:=yX.tr b3;have xK:=I (Fx.o.step b3);have sL:=I (Zvm f ks i q gZ.o);clear b3 uL yX Fx PX
   cases hq:lW f q with
   | true =>
    rw[hq,if_pos rfl] at sL;clear hq
    go_wp2
    go_roundw
    case rel=>exact⟨i+1,m+1,by go_num,by go_num,by omega,by omega,I (by rw[sL.o,<- hm.o]),qE,kA,xK⟩
    case measure=>simp only[intOf];omega
   | false =>
    rw[hq,if_neg (by simp)] at sL;clear hq
    go_wp2
    go_roundw
    case rel=>exact⟨i+1,m,by go_num,rfl,by omega,by omega,I (by rw[sL.o,<- hm.o];rfl),qE,kA,xK⟩
    case measure=>simp only[intOf];omega
  ·have ii:¬ ((i:Int)<n):=by omega
   have HT:Hid (m=kS f ks):=I (by rw[hm.o,show i=ks.length by rw[<- HN.o];omega,List.take_length]);have x0:=hx.o.cell 0 _ rfl;have x3:=hx.o.cell 3 _ rfl;have x4:=hx.o.cell 4 _ rfl
   have tQ:m<=n:=by omega
   by_cases k1:κ=1
   ·have k1b:(κ==1)=true:=beq_iff_eq.mpr k1
    have HX:Hid (V=decide (m=n)):=I (by rw[HV.o,if_pos k1,<- HT.o,HN.o,Bool.eq_iff_iff];simp);clear k1 hκ
    go_wp2
    go_ret;exact⟨aF (by rw[HX.o,Bool.eq_iff_iff];simp;omega),hw.o⟩
   ·have k1b:(κ==1)=false:=beq_eq_false_iff_ne.mpr k1
    by_cases k2:κ=2
    ·have k2b:(κ==2)=true:=beq_iff_eq.mpr k2
     have HX:Hid (V=decide (0<m)):=I (by rw[HV.o,if_neg k1,if_pos k2,<- HT.o]);clear k1 k2 hκ
     go_wp2
     go_ret;exact⟨aF (by rw[HX.o];try simp),hw.o⟩
    ·have k2b:(κ==2)=false:=beq_eq_false_iff_ne.mpr k2
     have HX:Hid (V=decide (c<=(m:Int))):=I (by rw[HV.o,if_neg k1,if_neg k2,<- HT.o]);clear k1 k2 hκ
     go_wp2
     go_ret;exact⟨aF (by rw[HX.o];try simp),hw.o⟩
theorem TZ:∀ (N:Nat) (p:Prd) (w:World) (P:Nat->Prop) (vs:List Value) (C:World->Prop) (g:Nat) (cb:Array Value) (f:Ky->Bool) (S:Ky->Prop),cO p<=N->N<=1000000->IsF C g cb f S->(∀ k∈oI p,S k)->cK w P p vs->C w ->
  Calls Tryz.prog 95 #[.agg vs.toArray,.func (.func g) #[] cb] w fun e w'=>e = .returned (.bool (lW f p))/\Below w.heap.size w w'
 | 0,p,w,P,vs,C,g,cb,f,S,hN,_,_,_,_,_=>by have:=Hl p;omega
 | N+1,.mk κ l r c ks,w,P,vs,C,g,cb,f,S,hN,hM,hf,hS,h,hC=>by
  have uL:cR ks<=N:=by unfold cO at hN;omega
  have hl:=Hm ks;unfold cK at h;obtain⟨ao,cap,rfl,hk⟩:=h;by_cases hκ:κ=0
  ·subst hκ
   have:=Zzp w l r c (.slice ao ks.length cap) rfl C g cb f S hf (hS _ (by unfold oI;simp)) hC;simpa [lW] using this
  ·exact Zzq w P κ l r c ks ao ks.length cap hκ rfl (by omega) hk C (.func (.func g) #[] cb) f hf.step hC (fun q w' us hq bH hC'=>TZ N q w' P us C g cb f S (by
    obtain⟨i,hi⟩:=pV.1 hq;have:=Hn ks i q hi
    omega) (by omega) hf (fun k kZ=>hS k (by
     unfold oI;rw[if_neg hκ,List.nil_append]
     exact(CA k ks).2 ⟨q,hq,kZ⟩)) bH hC')
end
section
open Go.RowKit Go.Sort
theorem Zp5{w:World}{g off:Nat}{l:List Ky}(h:dD w g off (l.flatMap kyC))(i:Nat)(k:Ky)(hk:l[i]?=some k) :
  w.cell? ⟨g,off+i*3,none⟩=some (.string (aB k.l))/\w.cell? ⟨g,off+i*3+1,none⟩=some (.string (aB k.r))/\w.cell? ⟨g,off+i*3+2,none⟩=some (.int .i64 k.c):=by
 have hl:∀ x,(kyC x).length=3:=fun _=>rfl
 refine⟨?_,?_,?_⟩
 ·exact h (i*3+0) _ (by rw[Ho kyC 3 hl l i 0 k hk (by omega)];rfl)
 ·exact h (i*3+1) _ (by rw[Ho kyC 3 hl l i 1 k hk (by omega)];rfl)
 ·exact h (i*3+2) _ (by rw[Ho kyC 3 hl l i 2 k hk (by omega)];rfl)
end
end Go.Proofs.YtbcgocpihobjnaaGreatDoor
