import Derived.Deep.Cut
import Derived.Test.YtbcgocpihobjnaaGreatDoorCL10
import Derived.Test.YtbcgocpihobjnaaGreatDoorCL0
set_option linter.all false
set_option maxHeartbeats 8000000
set_option maxRecDepth 100000
namespace Go.Proofs.YtbcgocpihobjnaaGreatDoor
section
open Go.RowKit
theorem lr(w:World)(a b:Obj):((w.alloc a).alloc b).heap[w.heap.size]?=some a:=by
 rw[Below.heap_alloc (w.alloc a) b w.heap.size (by simp)];exact heap_alloc_new w a
end
section
open Go.RowKit
def lu(l r:List Nat)(c:Int):List Value:=[.string (aB l),.string (aB r),.int .i64 c]
theorem RO(vs:List Value)(h:vs.length=3):(Tryz.prog.info? 121).map (·.size)=some vs.toArray.size:=by
 rw[List.size_toArray,h]
 kernel_rfl
theorem RP(κ:Int)(l r:List Nat)(c:Int)(x:Value)(hx:x.oneCell'=true)(w:World) :
  Calls Tryz.prog 150 #[.agg #[.int .i64 κ,.string (aB l),.string (aB r),.int .i64 c,x]] w fun e w'=>e = .returned (.agg (lu l r c).toArray)/\Below w.heap.size w w':=by
 unfold lu;generalize aB l=y at *;generalize aB r=z at *
 go_enter Tryz.func150,Tryz.ntmps150
 go_wp2
 exact bodyPost_ret (results_cell_row (p:=2) (by kernel_rfl) _ _ (w.heap.size+1) 121 _ (0,0) _ rfl (heap_alloc2_new _ _ _) Tryz.underlying121 rfl (RO _ rfl)) rfl ⟨rfl,((aG _ w).alloc (aO _) _).alloc (by simp) _⟩
end
section
open Go.RowKit
theorem aC.grownBy{w w':World}{g:Nat}{t:TypeId}{cs:List Value}{row:Option Nat}(h:aC w g t cs)(hg:w.grownBy w' row)(hr:row≠some g):aC w' g t cs:=by
 unfold aC;rw[hg.block g h.lt (fun e=>hr e.symm)];exact h
theorem Hl(p:Prd):1<=cO p:=by
 cases p;unfold cO;omega
theorem Hm:∀ ks:List Prd,ks.length<=cR ks
 | []=>Nat.zero_le _
 | p::ps=>by
  unfold cR;have:=Hm ps;have:=Hl p;simp only[List.length_cons];omega
theorem Hn:∀ (ks:List Prd) (i:Nat) (p:Prd),ks[i]?=some p->cO p<=cR ks
 | [],_,_,h=>by simp at h
 | q::ps,0,p,h=>by
  obtain rfl:q=p:=by simpa using h
  unfold cR;omega
 | q::ps,i+1,p,h=>by
  unfold cR;have:=Hn ps i p (by simpa using h);omega
end
section
open Go.RowKit
def lw(κ:Int)(y z:ByteArray)(c:Int)(ao:Option Addr)(n cap:Nat):List Value:=[.int .i64 κ,.string y,.string z,.int .i64 c,.slice ao n cap]
end
section
open Go.RowKit
theorem DA{L:Nat}:∀ ks:List Prd,yK ks<=L↔∀ q∈ks,oH q<=L
 | []=>by simp[yK]
 | p::ps=>by
  unfold yK;rw[Nat.max_le,DA ps];simp
theorem Q_(ks:List Prd)(i:Nat)(q:Prd)(h:ks[i]?=some q):cR (ks.take (i+1))=cR (ks.take i)+cO q:=by
 obtain⟨hi,rfl⟩:=fD.1 h;rw[lN,aL hi,dr];simp[cR]
theorem R_(ks:List Prd)(i:Nat):cR (ks.take i)<=cR ks:=by
 have:cR ks=cR (ks.take i)+cR (ks.drop i):=by rw[<- dr,List.take_append_drop]
 omega
def DB(w:World)(Q:Nat)(p:Prd)(r L:Nat)(e:Ending)(w':World):Prop :=
 Only w w' (· = Q)/\((cO p<=r/\oH p<=L->e = .returned (.bool true)/\aC w' Q 3 [.int .i64 ((r-cO p:Nat):Int)])/\(¬ (cO p<=r/\oH p<=L)->e = .returned (.bool false)))
theorem RQ(w:World)(κ:Int)(l r0:List Nat)(c:Int)(x:Value)(hx:x.oneCell'=true)(Q r Λ:Nat)(hQ:aC w Q 3 [.int .i64 (r:Int)])(hr:r<=100)(hz:r=0\/Λ=0)(hΛ:Λ<=12) :
  Calls Tryz.prog 176 #[.agg #[.int .i64 κ,.string (aB l),.string (aB r0),.int .i64 c,x],.pointer (some ⟨Q,0,none⟩),.int .i64 (Λ:Int)] w fun e w'=>e = .returned (.bool false)/\Only w w' (· = Q):=by
 have bx:=bwA w (.cells #[.int .i64 κ,.string (aB l),.string (aB r0),.int .i64 c,x] 54);have Q1:=I (hQ.step bx);have O1:=I (Only.of_below (p:=(· = Q)) bx);have c0:=Q1.o.cell 0 _ rfl;have f0:=Q1.o.warm 0;have e1:IntKind.i64.wrap ((r:Int)-1)=(r:Int)-1:=fU _ (by omega);clear bx hQ;generalize aB l=y at *;generalize aB r0=z at *
 go_enter Tryz.func176,Tryz.ntmps176
 go_upto_region 1 with(fail)
 generalize w.alloc (.cells #[.int .i64 κ,.string y,.string z,.int .i64 c,x] 54)=w1 at *;have S2:=I (Q1.o.set 0 (.int .i64 ((r:Int)-1)));have O2:=I (O1.o.setCell (a:=⟨Q,0,none⟩) (.int .i64 ((r:Int)-1)) rfl);have d0:(w1.setCell ⟨Q,0,none⟩ (.int .i64 ((r:Int)-1))).cell? ⟨Q,0,none⟩=some (.int .i64 ((r:Int)-1)):=S2.o.cell 0 _ rfl;by_cases h0:r=0
 ·have g1:(r:Int)-1<0:=by omega
  clear h0 hz
  go_wp2
  go_ret;exact⟨rfl,O2.o⟩
 ·have g1:¬ ((r:Int)-1<0):=by omega
  have g2:(Λ:Int)<1:=by omega
  go_wp2
  go_ret;exact⟨rfl,O2.o⟩
theorem S_ (w:World) (P:Nat->Prop) (κ:Int) (l r0:List Nat) (c:Int) (ks:List Prd) (ao:Option Addr) (n cap:Nat) (hn:n=ks.length) (bN:n<=1000000)
  (hk:ks=[]\/∃ g off,ao=some ⟨g,off,none⟩/\P g/\g<w.heap.size/\gE w P ks g off)
  (Q r L:Nat) (hQ:aC w Q 3 [.int .i64 (r:Int)]) (hr:r<=100) (rO:0<r) (hL:L+1<=12) (hPQ:∀ g,P g->g≠Q)
  (ih:∀ (q:Prd) (w:World) (vs:List Value) (r:Nat),q∈ks->r<=100->cK w P q vs->aC w Q 3 [.int .i64 (r:Int)]->Calls Tryz.prog 176 #[.agg vs.toArray,.pointer (some ⟨Q,0,none⟩),.int .i64 (L:Int)] w fun e w'=>DB w Q q r L e w') :
  Calls Tryz.prog 176 #[.agg #[.int .i64 κ,.string (aB l),.string (aB r0),.int .i64 c,.slice ao n cap],.pointer (some ⟨Q,0,none⟩),.int .i64 ((L+1:Nat):Int)] w fun e w'=>DB w Q (.mk κ l r0 c ks) r (L+1) e w':=by
 have HK:=I hk;have IH:=I ih;have HN:=I hn;have GN:=I hPQ;have bx:=bwA w (.cells #[.int .i64 κ,.string (aB l),.string (aB r0),.int .i64 c,.slice ao n cap] 54);have Q1:=I (hQ.step bx);have O1:=I (Only.of_below (p:=(· = Q)) bx);have X1:=hnw w 54 [.int .i64 κ,.string (aB l),.string (aB r0),.int .i64 c,.slice ao n cap];have QL:Hid (Q<w.heap.size):=I hQ.lt;have c0:=Q1.o.cell 0 _ rfl;have f0:=Q1.o.warm 0
 have e1:IntKind.i64.wrap ((r:Int)-1)=((r-1:Nat):Int):=by rw[fU _ (by omega)];omega
 have fw:Hid (cO (.mk κ l r0 c ks)=1+cR ks/\oH (.mk κ l r0 c ks)=1+yK ks):=I (by unfold cO oH;exact⟨rfl,rfl⟩);clear bx hQ hk ih hn hPQ;generalize Prd.mk κ l r0 c ks=p at *;generalize aB l=y at *;generalize aB r0=z at *
 go_enter Tryz.func176,Tryz.ntmps176
 go_upto_region 1 with(fail)
 generalize w.alloc (.cells #[.int .i64 κ,.string y,.string z,.int .i64 c,.slice ao n cap] 54)=w1 at *;have S2:Hid (aC (w1.setCell ⟨Q,0,none⟩ (.int .i64 ((r-1:Nat):Int))) Q 3 [.int .i64 ((r-1:Nat):Int)]):=I (Q1.o.set 0 _);have O2:=I (O1.o.setCell (a:=⟨Q,0,none⟩) (.int .i64 ((r-1:Nat):Int)) rfl);have X2:=I (X1.o.upd (T_ w1 ⟨Q,0,none⟩ (.int .i64 ((r-1:Nat):Int))) (by show w.heap.size≠Q;have:=QL.o;omega))
 have g1:¬ (((r-1:Nat):Int)<0):=by omega
 have g2:¬ (((L+1:Nat):Int)<1):=by omega
 have g3:¬ ((L:Int)+1<1):=by omega
 have e5:IntKind.i64.wrap ((L:Int)+1-1)=(L:Int):=by rw[fU _ (by omega)];omega
 generalize hR1:r-1=r1 at *;have d0:=S2.o.cell 0 _ rfl;have x4:=X2.o.cell 4 _ rfl
 go_upto_region 4 with(fail)
 generalize w1.setCell ⟨Q,0,none⟩ (.int .i64 (r1:Int))=w2 at *;clear d0 c0 f0 e1
 go_wp2_with fail
 clear x4 g1 g2 g3
 go_loopw [25] (fun cc wr=>∃ (i ρ:Nat),cc = .int .i64 i/\i<=n/\Hid (aC wr Q 3 [.int .i64 (ρ:Int)])/\Hid (ρ+cR (ks.take i)=r1)/\Hid (Only w wr (· = Q))/\Hid (∀ j q,j<i->ks[j]?=some q->oH q<=L)) (fun c _=>(n-intOf c).toNat)
 case atStart=>exact⟨0,r1,rfl,by omega,S2,I (by simp[cR]),O2,I (fun j q hj=>absurd hj (jU j))⟩
 case round =>
  clear S2 O2 X2 Q1 O1 X1;obtain⟨i,ρ,rfl,hi,hq,hρ,ho,hd⟩:=hrel;have e2:=w1i i (by omega);by_cases aE:i<n
  ·have ii:(i:Int)<n:=by omega
   have HQ:Hid (∃ q,ks[i]?=some q/\∃ g off,ao=some ⟨g,off,none⟩/\g<w.heap.size/\∃ vs,cK wr P q vs/\dD wr g (off+i*5) vs):=I (by
    have hl:i<ks.length:=by rw[<- HN.o];exact aE
    refine⟨ks[i],aL hl,?_⟩;rcases HK.o with h | ⟨g,off,h1,h2,h3,h4⟩
    ·rw[h] at hl;exact absurd hl (jU _)
    ·obtain⟨vs,nU,qD⟩:=gE.at ks g off i _ (aL hl) h4
     exact⟨g,off,h1,h3,vs,cK.keep (fun x hx hl=>ho.o.block x hl (GN.o x hx)) ho.o.size (fun x hx _=>hx) _ _ nU,qD.of_block (ho.o.block g h3 (GN.o g h2))⟩)
   obtain⟨q,bX,g,off,bI,hg,vs,bH,aH⟩:=HQ.o;clear HQ;have gZ:=I bX;obtain⟨xa,xn,xc,mS,-⟩:=bH.form;rw[mS] at aH bH;have PC:=I bH;have s0:=aH 0 _ rfl;have s1:=aH 1 _ rfl;have s2:=aH 2 _ rfl;have s3:=aH 3 _ rfl;have s4:=aH 4 _ rfl;clear aH bH mS vs bX;rw[Nat.add_zero] at s0;have mT:=I bI;subst bI;generalize q.k=q0 at *;generalize aB q.l=q1 at *;generalize aB q.r=q2 at *;generalize q.c=q3 at *
   go_wp2_with fail
   have bx:=bwA wr (.cells #[.int .i64 q0,.string q1,.string q2,.int .i64 q3,.slice xa xn xc] 54);have qU:=I (hq.o.step bx);have iX:=I (ho.o.step bx);have PX:=I (PC.o.below bx);clear s0 s1 s2 s3 s4 bx hq ho PC;generalize wr.alloc (.cells #[.int .i64 q0,.string q1,.string q2,.int .i64 q3,.slice xa xn xc] 54)=wx at *;refine(IH.o q wx _ ρ (bU gZ.o) (by have:=hρ.o;omega) PX.o qU.o).mono ?_;rintro e w3 ⟨o3,Wp,qx⟩;have Wq:=I (iX.o.trans o3);have sL:=I (Q_ ks i q gZ.o);have cA:=I (R_ ks (i+1));have g7:Hid (oH q<=yK ks):=I ((DA ks).1 (aO _) q (bU gZ.o));by_cases xH:cO q<=ρ/\oH q<=L
   ·obtain⟨rfl,Lp⟩:=Wp xH
    have g8:=I Lp;have Wr:=I xH;clear Wp qx o3 xH Lp qU iX PX
    go_wp2
    go_roundw
    case rel=>exact⟨i+1,ρ-cO q,by go_num,by omega,g8,I (by have:=hρ.o;have:=sL.o;have:=Wr.o;omega),Wq,I (fun j q' hj Bp=>by
     rcases gQ j i with h | h
     ·exact hd.o j q' h Bp
     ·obtain rfl:j=i:=by omega
      rw[gZ.o] at Bp;obtain rfl:=bF Bp
      exact Wr.o.2)⟩
    case measure=>simp only[intOf];omega
   ·obtain rfl:=qx xH
    have tP:Hid (¬ (cO p<=r/\oH p<=L+1)):=I (by
     have h1:=fw.o;have h2:=hρ.o;have h3:=sL.o;have h4:=cA.o;have h5:=g7.o;intro h;apply xH
     omega)
    clear Wp qx o3 xH
    go_wp2
    go_ret;exact⟨Wq.o,fun h=>absurd h tP.o,fun _=>rfl⟩
  ·have ii:¬ ((i:Int)<n):=by omega
   have Ws:Hid ((cO p<=r/\oH p<=L+1)/\r-cO p=ρ):=I (by
    have h1:=fw.o;have h2:=hρ.o
    have h3:ks.take i=ks:=by rw[show i=ks.length by rw[<- HN.o];omega,List.take_length]
    rw[h3] at h2
    have h4:yK ks<=L:=(DA ks).2 (fun q hq=>by
     obtain⟨j,hj⟩:=pV.1 hq;have pF:=(fD.1 hj).1
     exact hd.o j q (by rw[<- HN.o] at pF;omega) hj)
    omega)
   go_wp2
   go_ret;exact⟨ho.o,fun _=>⟨rfl,by rw[Ws.o.2];exact hq.o⟩,fun h=>absurd Ws.o.1 h⟩
theorem RT:∀ (Λ:Nat) (p:Prd) (w:World) (P:Nat->Prop) (vs:List Value) (Q r:Nat),Λ<=12->r<=100->cO p<=1000000->cK w P p vs->aC w Q 3 [.int .i64 (r:Int)]->(∀ g,P g->g≠Q) ->
  Calls Tryz.prog 176 #[.agg vs.toArray,.pointer (some ⟨Q,0,none⟩),.int .i64 (Λ:Int)] w fun e w'=>DB w Q p r Λ e w'
 | 0,.mk κ l r0 c ks,w,P,vs,Q,r,hΛ,hr,hc,h,hQ,hPQ=>by
  unfold cK at h;obtain⟨ao,cap,rfl,hk⟩:=h;exact(RQ w κ l r0 c (.slice ao ks.length cap) rfl Q r 0 hQ hr (.inr rfl) hΛ).mono (fun e w' h=>⟨h.2,fun h2=>by unfold oH at h2;omega,fun _=>h.1⟩)
 | L+1,.mk κ l r0 c ks,w,P,vs,Q,r,hΛ,hr,hc,h,hQ,hPQ=>by
  have uL:cR ks<=1000000:=by unfold cO at hc;omega
  have hl:=Hm ks;unfold cK at h;obtain⟨ao,cap,rfl,hk⟩:=h;by_cases h0:r=0
  ·exact(RQ w κ l r0 c (.slice ao ks.length cap) rfl Q r (L+1) hQ hr (.inl h0) hΛ).mono (fun e w' h=>⟨h.2,fun h2=>by have:=Hl (.mk κ l r0 c ks);omega,fun _=>h.1⟩)
  ·exact S_ w P κ l r0 c ks ao ks.length cap rfl (by omega) hk Q r L hQ hr (by omega) hΛ hPQ (fun q w' us r' hq fx bH hQ'=>RT L q w' P us Q r' (by omega) fx (by
    obtain⟨i,hi⟩:=pV.1 hq;have:=Hn ks i q hi
    omega) bH hQ' hPQ)
end
end Go.Proofs.YtbcgocpihobjnaaGreatDoor
