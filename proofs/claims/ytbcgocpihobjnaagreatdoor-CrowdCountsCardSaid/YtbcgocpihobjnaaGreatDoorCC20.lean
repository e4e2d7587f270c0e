import Derived.Shelf.SlSortCmp.NoneTotal
import Derived.Test.YtbcgocpihobjnaaGreatDoorCC19
import Derived.Test.YtbcgocpihobjnaaGreatDoorShelf
import Derived.Test.YtbcgocpihobjnaaGreatDoorCC16
set_option linter.all false
set_option maxHeartbeats 8000000
set_option maxRecDepth 100000
namespace Go.Proofs.YtbcgocpihobjnaaGreatDoor
section
open Go.RowKit Go.Shelf Go.Sort Go.Maps
abbrev KO:={k:Ky // KyOk k}
instance:Inhabited KO:=⟨⟨⟨[],[],0⟩,⟨by simp,by simp,by simp,by simp,by decide,by decide⟩⟩⟩
def Z3e(x:KO):List Value:=kyC x.1
def cfO(x y:KO):Int:=Z20 x.1 y.1
theorem Z46:SWO (ltOf cfO) where
 irrefl x:=Zfw x.1
 trans x y z h1 h2:=Zgr x.1 y.1 z.1 h1 h2
 ntrans x y z h1 h2:=Zss x.1 y.1 z.1 h1 h2
theorem Zrj(l:List KO):l.flatMap Z3e=(l.map (·.1)).flatMap kyC:=by
 induction l with
 | nil=>rfl
 | cons x l ih=>rw[List.flatMap_cons,List.map_cons,List.flatMap_cons,ih];rfl
theorem Zmz{d d':Array KO}(hnd:(d.toList.map (·.1)).Nodup)(hp:PermIn 0 d.size d d')(hs:SortedIn (ltOf cfO) 0 d.size d'):Zq2 (d'.toList.map (·.1))/\(∀ x,x∈d'.toList.map (·.1)↔x∈d.toList.map (·.1))/\d'.size=d.size:=by
 obtain⟨h1,_,h3⟩:=hp
 have hpp:d'.toList.Perm d.toList:=by
  have e1:d'.extract 0 d.size=d':=by rw[<- h1];exact Array.extract_size
  have e2:d.extract 0 d.size=d:=Array.extract_size
  rwa [e1,e2] at h3
 have hm:=hpp.map (fun x:KO=>x.1);have hnd':(d'.toList.map (·.1)).Nodup:=hm.nodup_iff.2 hnd;refine⟨?_,fun x=>hm.mem_iff,h1⟩;unfold Zq2;rw[List.pairwise_iff_getElem];intro i j hi hj hij;rw[đr,Array.length_toList] at hi hj
 have hne:(d'.toList.map (·.1))[i]'(by simpa using hi)≠(d'.toList.map (·.1))[j]'(by simpa using hj):=fun e=>by
  have:=(List.pairwise_iff_getElem.1 hnd') i j (by simpa using hi) (by simpa using hj) hij;exact this e
 have hs':=hs i j (Nat.zero_le _) hij (by omega);rw[getElem!_pos d' i hi,getElem!_pos d' j hj] at hs';simp only[List.getElem_map,Array.getElem_toList] at hne ⊢;rcases Zi3 d'[i].1 d'[j].1 with h | h | h
 ·exact h
 ·exact absurd h hne
 ·have:ltOf cfO d'[j] d'[i]=true:=h
  rw[this] at hs';cases hs'
theorem Zoi:∀ (l m:List Ky),l.Nodup->(∀ x∈l,x∈m)->l.length<=m.length
 | [],m,_,_=>Nat.zero_le _
 | x::l,m,h,hs=>by
  rw[List.nodup_cons] at h;have hx:=hs x (List.mem_cons_self ..);have:=Zoi l (m.erase x) h.2 (fun y hy=>(List.mem_erase_of_ne (by rintro rfl;exact h.1 hy)).2 (hs y (List.mem_cons_of_mem _ hy)));rw[List.length_erase_of_mem hx] at this;have hp:0<m.length:=List.length_pos_of_mem hx;rw[List.length_cons];omega
theorem Zvp(l:List Ky)(h:∀ k∈l,KyOk k):∃ d:List KO,d.map (·.1)=l:=by
 induction l with
 | nil=>exact⟨[],rfl⟩
 | cons x l ih =>
  obtain⟨d,hd⟩:=ih (fun k hk=>h k (List.mem_cons_of_mem _ hk));exact⟨⟨x,h x (List.mem_cons_self ..)⟩::d,by rw[List.map_cons,hd]⟩
theorem Zvq(w:World)(B cap:Nat)(ao:Option Addr)(ss:List Ky)(hss:∀ k∈ss,KyOk k)(hnd:ss.Nodup)(hO:OwnK w B 3 ss.length cap (ss.flatMap kyC) ao)(hlen:ss.length<=1000000) :
  Calls Tryz.prog 182 #[.slice ao ss.length cap,.func (.func 149) #[] #[]] w fun e w'=>e = .returned (.tuple #[])/\∃ ss',ss'.length=ss.length/\Zq2 ss'/\(∀ x,x∈ss'↔x∈ss)/\OwnK w' B 3 ss.length cap (ss'.flatMap kyC) ao/\Only w w' (fun g=>blk ao=some g):=by
 cases ao with
 | none =>
  have hz:ss=[]:=by
   cases hO with
   | nil h hn hc=>exact List.eq_nil_of_length_eq_zero hn
  subst hz;refine(AnyF.slices_SortFunc_none Tryz.sortKey none cap _ w).mono ?_;rintro e w' ⟨rfl,rfl⟩;exact⟨rfl,[],rfl,.nil,fun x=>Iff.rfl,hO,Only.refl _ _⟩
 | some a =>
  obtain⟨d,hd⟩:=Zvp ss hss
  have hdl:d.length=ss.length:=by rw[<- hd,đr]
  have hfm:ss.flatMap kyC=d.flatMap Z3e:=by rw[Zrj,hd]
  have hO':=hO;rw[hfm] at hO';obtain⟨g,off,si⟩:=a
  have hsi:si=none:=by cases hO;rfl
  subst hsi;have hH:=OwnK.holds Z3e 3 (fun _=>rfl) hO';have hlt:g<w.heap.size:=(hO.blk_lt rfl).2;have eg:∀ args w,(callFunc 149 args).run Tryz.prog w = .ok (.enter 149 args) w:=enters_of Tryz.func149 (by kernel_rfl) rfl
  have hc:=AnyQ.slices_SortFunc Tryz.sortKey 3 Tryz.isAgg121 Tryz.sizeOf121 Z3e (fun _=>rfl) (fun x v hv=>Zvo x.1 v hv) cfO Z46 149 #[] g off cap d.toArray w eg
   (fun m os dk hs x y=>Zzo x.1 y.1 _ x.2.bytes y.2.bytes) hH hlt (by simp;omega)
  rw[List.size_toArray,hdl] at hc;refine hc.mono ?_;rintro e w' ⟨rfl,d',n,os,hp,hs,rfl⟩;have hA:=Zmz (d:=d.toArray) (d':=d') (by simpa [hd] using hnd) (by simpa [hdl] using hp) (by simpa [hdl] using hs);obtain⟨hS,hOn⟩:=OwnK.sorted Z3e 3 (fun _=>rfl) (m:=n) (os:=os) (d:=d') hO' (by simpa using hA.2.2);refine⟨rfl,d'.toList.map (·.1),by rw[đr,Array.length_toList,hA.2.2];simpa using hdl,hA.1,fun x=>by rw[hA.2.1 x];simp[hd],by rw[<- Zrj];exact hS,?_⟩;exact hOn.mono (fun x _ hx=>by rw[hx];rfl)
theorem Zpy(Bm b:Nat)(S0:List Ky)(hS0:∀ k∈S0,KyOk k)(hlen:S0.length<=1000000)(w:World)(hBm:Bm<w.heap.size)(hm:w.cell? ⟨Bm,0,none⟩=some (.map (some b)))(h:Zgo w b S0) :
  Calls Tryz.prog 147 #[.func (.func 183) #[] #[.pointer (some ⟨Bm,0,none⟩)],.func (.func 149) #[] #[]] w fun e w' =>
   ∃ (ao:Option Addr) (cap:Nat) (ss:List Ky),e = .returned (.slice ao ss.length cap)/\Zq2 ss/\(∀ x,x∈ss↔x∈S0)/\OwnK w' w.heap.size 3 ss.length cap (ss.flatMap kyC) ao/\RowKit.Below w.heap.size w w':=by
 have HC:=ħ (callsIn_wide.1 (Zzv Bm b S0 hS0 hlen w hBm hm h));have HS0:=ħ hS0;have HLEN:=ħ hlen;clear hS0 hlen hBm hm h
 go_enter Tryz.func147,Tryz.ntmps147
 go_wp2_with fail
 refine HC.o.mono ?_;rintro e w1 ⟨ao,cap,ss,rfl,⟨h1,h1'⟩,h2,h3⟩;have hssl:ss.length<=1000000:=đo (Zoi ss S0 h1 (fun x hx=>(h1' x).1 hx)) HLEN.o;have HS:=ħ (Zvq w1 w.heap.size cap ao ss (fun k hk=>HS0.o k ((h1' k).1 hk)) h1 h2 hssl);have H1:=ħ h1';have H3:=ħ h3;have H2:=ħ h2;clear h1 h1' h2 h3 hssl;generalize hn:ss.length=n at *
 go_wp2_with fail
 refine HS.o.mono ?_;rintro e w2 ⟨rfl,ss',hl,ha,hx,ho,hon⟩;have H4:=ħ (And.intro hl (And.intro ha (And.intro hx (And.intro ho hon))));clear hl ha hx ho hon
 go_wp2
 go_ret;obtain⟨hl,ha,hx,ho,hon⟩:=H4.o;refine⟨ao,cap,ss',by rw[hl];rfl,ha,fun x=>by rw[hx,H1.o],by rw[hl];exact ho,Only.later H3.o hon (fun g hg=>(H2.o.blk_lt hg).1)⟩
theorem Zvr(w:World)(P:Nat->Prop)(p:Prd)(vs:List Value)(h:Zao w P p vs)(hf:Zay p=true)(hc:Zb0 p<=1000000) :
  Calls Tryz.prog 93 #[.agg vs.toArray] w fun e w'=>∃ (ao:Option Addr) (cap:Nat),e = .returned (.slice ao (Zc7 p).length cap)/\OwnK w' w.heap.size 3 (Zc7 p).length cap ((Zc7 p).flatMap kyC) ao/\RowKit.Below w.heap.size w w':=by
 obtain⟨a,n,c,rfl,-⟩:=h.form;have h2:=h.mono (P':=fun g=>g<w.heap.size) (fun g _ hl=>hl);have b1:=((đc w.heap.size w).alloc (đd _) (.cells #[.int .i64 p.k,.string (Zad p.l),.string (Zad p.r),.int .i64 p.c,.slice a n c] 54)).alloc (by simp) (.map #[] 0);have PX:=ħ (h2.below b1);have X0:Hid (Zae ((w.alloc (.cells #[.int .i64 p.k,.string (Zad p.l),.string (Zad p.r),.int .i64 p.c,.slice a n c] 54)).alloc (.map #[] 0)) w.heap.size 54 [.int .i64 p.k,.string (Zad p.l),.string (Zad p.r),.int .i64 p.c,.slice a n c]):=ħ (Zc0 _ _ _);have QX:Hid (Zgo ((w.alloc (.cells #[.int .i64 p.k,.string (Zad p.l),.string (Zad p.r),.int .i64 p.c,.slice a n c] 54)).alloc (.map #[] 0)) (w.heap.size+1) []):=ħ (by have:=Zgo.nil (w.alloc (.cells #[.int .i64 p.k,.string (Zad p.l),.string (Zad p.r),.int .i64 p.c,.slice a n c] 54));rwa [đl] at this);have BX:=ħ b1;have HF:=ħ hf;have HCN:=ħ hc;clear h h2 b1 hf hc;generalize p.k=q0 at *;generalize Zad p.l=q1 at *;generalize Zad p.r=q2 at *;generalize p.c=q3 at *;have hmm:=@run_makeMap Tryz.prog
 go_enter Tryz.func93,Tryz.ntmps93
 have HFK:=ħ (Zev p HF.o);have HKL:=ħ (Zi5 p);have XX:=ħ (fun(w':World) (hb:Only ((w.alloc (.cells #[.int .i64 q0,.string q1,.string q2,.int .i64 q3,.slice a n c] 54)).alloc (.map #[] 0)) w' (· = w.heap.size+1))=>Only.later (đc w.heap.size w) (Only.trans (Only.of_below (p:=fun g=>w.heap.size<=g) BX.o) (hb.mono (fun g _ hg=>by rw[hg];exact Nat.le_succ _))) (fun g hg=>hg))
 go_wp2_with (refine wpList_load_row rfl 54 (.tmp 1) rfl w.heap.size ?x1 54 (Z31 q0 q1 q2 q3 a n c).toArray (0,0) _ X0.o Tryz.underlying54 rfl (Za4 _ rfl) ?_;(case x1=>rfl))
 refine(Zjo (Zb0 p) p _ _ _ (w.heap.size+1) [] (đd _) HF.o (by simpa using HCN.o) (fun k hk=>absurd hk List.not_mem_nil) PX.o QX.o (fun g hg=>by omega)).mono ?_;rintro e w2 ⟨rfl,s2,o2⟩;have S2:=ħ (show Zgo w2 (w.heap.size+1) (Zdy p) by simpa using s2);have B2:=ħ (XX.o w2 o2);clear s2 o2 XX PX X0 QX BX;generalize (w.alloc (.cells #[.int .i64 q0,.string q1,.string q2,.int .i64 q3,.slice a n c] 54)).alloc (.map #[] 0)=wx at *;have A3:=(đc w2.heap.size w2).alloc (đd _) (.cells #[.map (some (w.heap.size+1))] 166);have S3:=ħ (S2.o.step A3);have B3:=ħ (B2.o.trans (A3.mono B2.o.size));have C3:Hid ((w2.alloc (.cells #[.map (some (w.heap.size+1))] 166)).cell? ⟨w2.heap.size,0,none⟩=some (.map (some (w.heap.size+1)))):=ħ ((show Zae _ w2.heap.size 166 [.map (some (w.heap.size+1))] from heap_alloc_new w2 _).cell 0 _ rfl);have L3:Hid (w2.heap.size<(w2.alloc (.cells #[.map (some (w.heap.size+1))] 166)).heap.size):=ħ (by simp);clear A3;have HKE:=ħ (callsIn_wide.1 (Zzt Fence.wide 5 trivial rfl (w.heap.size+1) w2))
 go_wp2_with fail
 refine HKE.o.mono ?_;rintro e w3 ⟨rfl,rfl⟩;generalize w2.alloc (.cells #[.map (some (w.heap.size+1))] 166)=w3 at *
 go_wp2_with fail
 refine(Zpy w2.heap.size (w.heap.size+1) (Zdy p) HFK.o (đo HKL.o HCN.o) w3 L3.o C3.o S3.o).mono ?_;rintro e w4 ⟨ao,cap,ss,rfl,ha,hx,ho,hb⟩;have HE:ss=Zc7 p:=Z24 ha (Zlk p) (fun x=>by rw[hx,Zhk]);subst HE;have B4:=ħ (B3.o.trans (hb.mono B3.o.size));have O4:=ħ (ho.lower (B':=w.heap.size) B3.o.size);clear ha hx ho hb
 go_wp2
 go_ret;exact⟨ao,cap,rfl,O4.o,B4.o⟩
end
section
open Go.RowKit Go.Sort
structure IsF (C:World->Prop) (g:Nat) (cb:Array Value) (f:Ky->Bool) (S:Ky->Prop):Prop where
 enters:∀ args w,(callFunc g args).run Tryz.prog w = .ok (.enter g args) w
 step:∀ w w',C w->Below w.heap.size w w'->C w'
 calls:∀ k w,S k->C w->Calls Tryz.prog g (#[.agg (kyC k).toArray]++cb) w fun e w'=>e = .returned (.bool (f k))/\Below w.heap.size w w'
theorem Zzw(w:World)(l r:List Nat)(c:Int)(x:Value)(hx:x.oneCell'=true)(C:World->Prop)(g:Nat)(cb:Array Value)(f:Ky->Bool)(S:Ky->Prop)(hf:IsF C g cb f S)(hS:S ⟨l,r,c⟩)(hC:C w) :
  Calls Tryz.prog 95 #[.agg #[.int .i64 0,.string (Zad l),.string (Zad r),.int .i64 c,x],.func (.func g) #[] cb] w fun e w'=>e = .returned (.bool (f ⟨l,r,c⟩))/\Below w.heap.size w w':=by
 have bx:=(đc w.heap.size w).alloc (đd _) (.cells #[.int .i64 0,.string (Zad l),.string (Zad r),.int .i64 c,x] 54);have B1:=ħ bx;have C1:=ħ (hf.step _ _ hC bx);have X1:Hid (Zae (w.alloc (.cells #[.int .i64 0,.string (Zad l),.string (Zad r),.int .i64 c,x] 54)) w.heap.size 54 [.int .i64 0,.string (Zad l),.string (Zad r),.int .i64 c,x]):=ħ (heap_alloc_new w _);have HK:=ħ (fun w=>Zn3 0 l r c x hx w);have hkc:(Z30 l r c).toArray=(kyC ⟨l,r,c⟩).toArray:=rfl;rw[hkc] at HK;have HCA:=ħ (hf.calls ⟨l,r,c⟩);have HST:=ħ hf.step;have eg:=hf.enters;have HS:=ħ hS;clear bx hS hC hkc hf;generalize hKY:(⟨l,r,c⟩:Ky)=K at *;clear hKY;generalize Zad l=y at *;generalize Zad r=z at *;generalize (kyC K).toArray=kv at *
 go_enter Tryz.func95,Tryz.ntmps95
 go_upto_region 1 with(fail)
 generalize w.alloc (.cells #[.int .i64 0,.string y,.string z,.int .i64 c,x] 54)=w1 at *;have x0:=X1.o.cell 0 _ rfl
 go_wp2_with (refine wpList_load_row rfl 54 (.tmp 2) rfl w.heap.size ?x1 54 #[.int .i64 0,.string y,.string z,.int .i64 c,x] (0,0) _ X1.o Tryz.underlying54 rfl (Za4 _ rfl) ?_;(case x1=>rfl))
 refine(HK.o w1).mono ?_;rintro e w2 ⟨rfl,b2⟩;have C2:=ħ (HST.o _ _ C1.o b2);have B2:=ħ (B1.o.trans (b2.mono B1.o.size));clear b2
 go_wp2_with fail
 refine(HCA.o w2 HS.o C2.o).mono ?_;rintro e w3 ⟨rfl,b3⟩;have B3:=ħ (B2.o.trans (b3.mono B2.o.size));clear b3
 go_wp2
 go_ret;exact⟨rfl,B3.o⟩
theorem Zzx (w:World) (P:Nat->Prop) (κ:Int) (l r:List Nat) (c:Int) (ks:List Prd) (ao:Option Addr) (n cap:Nat) (hκ:κ≠0) (hn:n=ks.length) (hbig:n<=1000000)
  (hk:ks=[]\/∃ g off,ao=some ⟨g,off,none⟩/\P g/\g<w.heap.size/\Zbe w P ks g off)
  (C:World->Prop) (fv:Value) (f:Ky->Bool) (hst:∀ w w',C w->Below w.heap.size w w'->C w') (hC:C w)
  (ih:∀ (q:Prd) (w:World) (vs:List Value),q∈ks->Zao w P q vs->C w->Calls Tryz.prog 95 #[.agg vs.toArray,fv] w fun e w'=>e = .returned (.bool (Zbs f q))/\Below w.heap.size w w') :
  Calls Tryz.prog 95 #[.agg #[.int .i64 κ,.string (Zad l),.string (Zad r),.int .i64 c,.slice ao n cap],fv] w fun e w'=>e = .returned (.bool (Zbs f (.mk κ l r c ks)))/\Below w.heap.size w w':=by
 have HK:=ħ hk;have IH:=ħ ih;have HN:=ħ hn;have HST:=ħ hst;have hκb:(κ==0)=false:=beq_eq_false_iff_ne.mpr hκ;have HV:Hid (Zbs f (.mk κ l r c ks)=if κ=1 then Zgn f ks==ks.length else if κ=2 then decide (0<Zgn f ks) else decide (c<=(Zgn f ks:Int))):=ħ (by rw[Zbs,if_neg hκ]);obtain⟨V,hV⟩:∃ V,Zbs f (.mk κ l r c ks)=V:=⟨_,rfl⟩;rw[hV] at HV ⊢;clear hV;have bx:=(đc w.heap.size w).alloc (đd _) (.cells #[.int .i64 κ,.string (Zad l),.string (Zad r),.int .i64 c,.slice ao n cap] 54);have C1:=ħ (hst _ _ hC bx);have B1:=ħ bx;have X1:Hid (Zae (w.alloc (.cells #[.int .i64 κ,.string (Zad l),.string (Zad r),.int .i64 c,.slice ao n cap] 54)) w.heap.size 54 [.int .i64 κ,.string (Zad l),.string (Zad r),.int .i64 c,.slice ao n cap]):=ħ (heap_alloc_new w _);clear bx hk ih hn hC hst;generalize Zad l=y at *;generalize Zad r=z at *
 go_enter Tryz.func95,Tryz.ntmps95
 go_upto_region 1 with(fail)
 generalize w.alloc (.cells #[.int .i64 κ,.string y,.string z,.int .i64 c,.slice ao n cap] 54)=w1 at *;have x0:=X1.o.cell 0 _ rfl;have x4:=X1.o.cell 4 _ rfl
 go_wp2_with fail
 clear x4 x0
 go_loopw [18,5] (fun cc nn wr=>∃ (i m:Nat),cc = .int .i64 i/\nn = .int .i64 m/\i<=n/\m<=i/\Hid (m=Zgn f (ks.take i))/\Hid (C wr)/\Hid (Below w.heap.size w wr)/\Hid (Zae wr w.heap.size 54 [.int .i64 κ,.string y,.string z,.int .i64 c,.slice ao n cap])) (fun c _ _=>(n-intOf c).toNat)
 case atStart=>exact⟨0,0,rfl,rfl,by omega,by omega,ħ rfl,C1,B1,X1⟩
 case round =>
  clear C1 B1 X1;obtain⟨i,m,rfl,rfl,hi,hmi,hm,hc,hw,hx⟩:=hrel;have e2:IntKind.i64.wrap ((i:Int)+1)=((i+1:Nat):Int):=đh _ (by omega);have e3:IntKind.i64.wrap ((m:Int)+1)=((m+1:Nat):Int):=đh _ (by omega);by_cases hlt:i<n
  ·have ii:(i:Int)<n:=by omega
   have HQ:Hid (∃ q,ks[i]?=some q/\∃ g off,ao=some ⟨g,off,none⟩/\g<w.heap.size/\∃ vs,Zao wr P q vs/\Zav wr g (off+i*5) vs):=ħ (by
    have hl:i<ks.length:=by rw[<- HN.o];exact hlt
    refine⟨ks[i],đb hl,?_⟩;rcases HK.o with h | ⟨g,off,h1,h2,h3,h4⟩
    ·rw[h] at hl;exact absurd hl (đu _)
    ·obtain⟨vs,hv1,hv2⟩:=Zbe.at ks g off i _ (đb hl) h4
     exact⟨g,off,h1,h3,vs,hv1.below hw.o,hv2.of_block (hw.o.block g h3)⟩)
   obtain⟨q,hqi,g,off,hao,hg,vs,hpc,hrd⟩:=HQ.o;clear HQ;have HQI:=ħ hqi;obtain⟨xa,xn,xc,hvf,-⟩:=hpc.form;rw[hvf] at hrd hpc;have PC:=ħ hpc;have s0:=hrd 0 _ rfl;have s1:=hrd 1 _ rfl;have s2:=hrd 2 _ rfl;have s3:=hrd 3 _ rfl;have s4:=hrd 4 _ rfl;clear hrd hpc hvf vs hqi;rw[Nat.add_zero] at s0;have HAO:=ħ hao;subst hao;generalize q.k=q0 at *;generalize Zad q.l=q1 at *;generalize Zad q.r=q2 at *;generalize q.c=q3 at *
   go_wp2_with fail
   have bx:=(đc wr.heap.size wr).alloc (đd _) (.cells #[.int .i64 q0,.string q1,.string q2,.int .i64 q3,.slice xa xn xc] 54);have hc2:=ħ (HST.o _ _ hc.o bx);have hw2:=ħ (hw.o.trans (bx.mono hw.o.size));have hx2:=ħ (hx.o.step bx);have PX:=ħ (PC.o.below bx);clear s0 s1 s2 s3 s4 bx hc hw hx PC;generalize wr.alloc (.cells #[.int .i64 q0,.string q1,.string q2,.int .i64 q3,.slice xa xn xc] 54)=wx at *;refine(IH.o q wx _ (đe HQI.o) PX.o hc2.o).mono ?_;rintro e w3 ⟨rfl,b3⟩;have hc3:=ħ (HST.o _ _ hc2.o b3);have hw3:=ħ (hw2.o.trans (b3.mono hw2.o.size));have hx3:=ħ (hx2.o.step b3);have HCT:=ħ (Zvm f ks i q HQI.o);clear b3 hc2 hw2 hx2 PX
   cases hq:Zbs f q with
   | true =>
    rw[hq,if_pos rfl] at HCT;clear hq
    go_wp2
    go_roundw
    case rel=>exact⟨i+1,m+1,by go_num,by go_num,by omega,by omega,ħ (by rw[HCT.o,<- hm.o]),hc3,hw3,hx3⟩
    case measure=>simp only[intOf];omega
   | false =>
    rw[hq,if_neg (by simp)] at HCT;clear hq
    go_wp2
    go_roundw
    case rel=>exact⟨i+1,m,by go_num,rfl,by omega,by omega,ħ (by rw[HCT.o,<- hm.o];rfl),hc3,hw3,hx3⟩
    case measure=>simp only[intOf];omega
  ·have ii:¬ ((i:Int)<n):=by omega
   have HT:Hid (m=Zgn f ks):=ħ (by rw[hm.o,show i=ks.length by rw[<- HN.o];omega,List.take_length]);have x0:=hx.o.cell 0 _ rfl;have x3:=hx.o.cell 3 _ rfl;have x4:=hx.o.cell 4 _ rfl
   have HLE:m<=n:=by omega
   by_cases k1:κ=1
   ·have k1b:(κ==1)=true:=beq_iff_eq.mpr k1
    have HX:Hid (V=decide (m=n)):=ħ (by rw[HV.o,if_pos k1,<- HT.o,HN.o,Bool.eq_iff_iff];simp);clear k1 hκ
    go_wp2
    go_ret;exact⟨Zac (by rw[HX.o,Bool.eq_iff_iff];simp;omega),hw.o⟩
   ·have k1b:(κ==1)=false:=beq_eq_false_iff_ne.mpr k1
    by_cases k2:κ=2
    ·have k2b:(κ==2)=true:=beq_iff_eq.mpr k2
     have HX:Hid (V=decide (0<m)):=ħ (by rw[HV.o,if_neg k1,if_pos k2,<- HT.o]);clear k1 k2 hκ
     go_wp2
     go_ret;exact⟨Zac (by rw[HX.o];try simp),hw.o⟩
    ·have k2b:(κ==2)=false:=beq_eq_false_iff_ne.mpr k2
     have HX:Hid (V=decide (c<=(m:Int))):=ħ (by rw[HV.o,if_neg k1,if_neg k2,<- HT.o]);clear k1 k2 hκ
     go_wp2
     go_ret;exact⟨Zac (by rw[HX.o];try simp),hw.o⟩
theorem Zoj:∀ (N:Nat) (p:Prd) (w:World) (P:Nat->Prop) (vs:List Value) (C:World->Prop) (g:Nat) (cb:Array Value) (f:Ky->Bool) (S:Ky->Prop),Zb0 p<=N->N<=1000000->IsF C g cb f S->(∀ k∈Zdy p,S k)->Zao w P p vs->C w ->
  Calls Tryz.prog 95 #[.agg vs.toArray,.func (.func g) #[] cb] w fun e w'=>e = .returned (.bool (Zbs f p))/\Below w.heap.size w w'
 | 0,p,w,P,vs,C,g,cb,f,S,hN,_,_,_,_,_=>by have:=Zek p;omega
 | N+1,.mk κ l r c ks,w,P,vs,C,g,cb,f,S,hN,hM,hf,hS,h,hC=>by
  have hc2:Zb2 ks<=N:=by unfold Zb0 at hN;omega
  have hl:=Zbq ks;unfold Zao at h;obtain⟨ao,cap,rfl,hk⟩:=h;by_cases hκ:κ=0
  ·subst hκ
   have:=Zzw w l r c (.slice ao ks.length cap) rfl C g cb f S hf (hS _ (by unfold Zdy;simp)) hC;simpa [Zbs] using this
  ·exact Zzx w P κ l r c ks ao ks.length cap hκ rfl (by omega) hk C (.func (.func g) #[] cb) f hf.step hC (fun q w' us hq hpc hC'=>Zoj N q w' P us C g cb f S (by
    obtain⟨i,hi⟩:=đs.1 hq;have:=Zel ks i q hi
    omega) (by omega) hf (fun k hk'=>hS k (by
     unfold Zdy;rw[if_neg hκ,List.nil_append]
     exact(Zi4 k ks).2 ⟨q,hq,hk'⟩)) hpc hC')
end
section
open Go.RowKit Go.Sort
theorem Zpz{w:World}{g off:Nat}{l:List Ky}(h:Zav w g off (l.flatMap kyC))(i:Nat)(k:Ky)(hk:l[i]?=some k) :
  w.cell? ⟨g,off+i*3,none⟩=some (.string (Zad k.l))/\w.cell? ⟨g,off+i*3+1,none⟩=some (.string (Zad k.r))/\w.cell? ⟨g,off+i*3+2,none⟩=some (.int .i64 k.c):=by
 have hl:∀ x,(kyC x).length=3:=fun _=>rfl
 refine⟨?_,?_,?_⟩
 ·exact h (i*3+0) _ (by rw[Zdg kyC 3 hl l i 0 k hk (by omega)];rfl)
 ·exact h (i*3+1) _ (by rw[Zdg kyC 3 hl l i 1 k hk (by omega)];rfl)
 ·exact h (i*3+2) _ (by rw[Zdg kyC 3 hl l i 2 k hk (by omega)];rfl)
end
end Go.Proofs.YtbcgocpihobjnaaGreatDoor
