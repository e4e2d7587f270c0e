import Derived.Deep.Cut
import Derived.Test.YtbcgocpihobjnaaGreatDoorCE10
import Derived.Test.YtbcgocpihobjnaaGreatDoorCE0
set_option linter.all false
set_option maxHeartbeats 8000000
set_option maxRecDepth 100000
namespace Go.Proofs.YtbcgocpihobjnaaGreatDoor
section
open Go.RowKit
theorem Zdm (w:World) (a b:Obj):((w.alloc a).alloc b).heap[w.heap.size]?=some a:=by
 rw[Below.heap_alloc (w.alloc a) b w.heap.size (by simp)];exact heap_alloc_new w a
end
section
open Go.RowKit
def Z2y (l r:List Nat) (c:Int):List Value:=[.string (Zag l),.string (Zag r),.int .i64 c]
theorem Ztv (vs:List Value) (h:vs.length=3):(Tryz.prog.info? 121).map (·.size)=some vs.toArray.size:=by
 rw[List.size_toArray,h]
 kernel_rfl
theorem Znn (κ:Int) (l r:List Nat) (c:Int) (x:Value) (hx:x.oneCell'=true) (w:World) :
  Calls Tryz.prog 150 #[.agg #[.int .i64 κ,.string (Zag l),.string (Zag r),.int .i64 c,x]] w fun e w'=>e = .returned (.agg (Z2y l r c).toArray)∧Below w.heap.size w w':=by
 unfold Z2y;generalize Zag l=y at *;generalize Zag r=z at *
 go_enter Tryz.func150,Tryz.ntmps150
 go_wp2
 exact bodyPost_ret (results_cell_row (p:=2) (by kernel_rfl) _ _ (w.heap.size+1) 121 _ (0,0) _ rfl (heap_alloc2_new _ _ _) Tryz.underlying121 rfl (Ztv _ rfl)) rfl ⟨rfl,((Below.refl _ w).alloc (Nat.le_refl _) _).alloc (by simp) _⟩
end
section
open Go.RowKit
theorem Zaf.grownBy {w w':World} {g:Nat} {t:TypeId} {cs:List Value} {row:Option Nat} (h:Zaf w g t cs) (hg:w.grownBy w' row) (hr:row≠some g):Zaf w' g t cs:=by
 unfold Zaf;rw[hg.block g h.lt (fun e=>hr e.symm)];exact h
theorem Zgz (p:Prd):1≤Zdw p:=by
 cases p;unfold Zdw;omega
theorem Zcv:∀ ks:List Prd,ks.length≤Zei ks
 | []=>Nat.zero_le _
 | p::ps=>by
  unfold Zei;have:=Zcv ps;have:=Zgz p;simp only[List.length_cons];omega
theorem Zg0:∀ (ks:List Prd) (i:Nat) (p:Prd),ks[i]?=some p→Zdw p≤Zei ks
 | [],_,_,h=>by simp at h
 | q::ps,0,p,h=>by
  obtain rfl:q=p:=by simpa using h
  unfold Zei;omega
 | q::ps,i+1,p,h=>by
  unfold Zei;have:=Zg0 ps i p (by simpa using h);omega
end
section
open Go.RowKit
def Z2z (κ:Int) (y z:ByteArray) (c:Int) (ao:Option Addr) (n cap:Nat):List Value:=[.int .i64 κ,.string y,.string z,.int .i64 c,.slice ao n cap]
end
section
open Go.RowKit
theorem Zpa {L:Nat}:∀ ks:List Prd,Zz3 ks≤L↔∀ q∈ks,Zp4 q≤L
 | []=>by simp[Zz3]
 | p::ps=>by
  unfold Zz3;rw[Nat.max_le,Zpa ps];simp
theorem Ztw (ks:List Prd) (i:Nat) (q:Prd) (h:ks[i]?=some q):Zei (ks.take (i+1))=Zei (ks.take i)+Zdw q:=by
 obtain⟨hi,rfl⟩:=List.getElem?_eq_some_iff.1 h;rw[List.take_add_one,List.getElem?_eq_getElem hi,Zdk];simp[Zei]
theorem Zno (ks:List Prd) (i:Nat):Zei (ks.take i)≤Zei ks:=by
 have:Zei ks=Zei (ks.take i)+Zei (ks.drop i):=by rw[← Zdk,List.take_append_drop]
 omega
def Z22 (w:World) (Q:Nat) (p:Prd) (r L:Nat) (e:Ending) (w':World):Prop :=
 Only w w' (· = Q)∧((Zdw p≤r∧Zp4 p≤L→e = .returned (.bool true)∧Zaf w' Q 3 [.int .i64 ((r-Zdw p:Nat):Int)])∧(¬ (Zdw p≤r∧Zp4 p≤L)→e = .returned (.bool false)))
theorem Zqh (w:World) (κ:Int) (l r0:List Nat) (c:Int) (x:Value) (hx:x.oneCell'=true) (Q r Λ:Nat) (hQ:Zaf w Q 3 [.int .i64 (r:Int)]) (hr:r≤100) (hz:r=0∨Λ=0) (hΛ:Λ≤12) :
  Calls Tryz.prog 176 #[.agg #[.int .i64 κ,.string (Zag l),.string (Zag r0),.int .i64 c,x],.pointer (some ⟨Q,0,none⟩),.int .i64 (Λ:Int)] w fun e w'=>e = .returned (.bool false)∧Only w w' (· = Q):=by
 have bx:=(Below.refl w.heap.size w).alloc (Nat.le_refl _) (.cells #[.int .i64 κ,.string (Zag l),.string (Zag r0),.int .i64 c,x] 54);have Q1:=ħ (hQ.step bx);have O1:=ħ (Only.of_below (p:=(· = Q)) bx);have c0:=Q1.o.cell 0 _ rfl;have f0:=Q1.o.warm 0;have e1:IntKind.i64.wrap ((r:Int)-1)=(r:Int)-1:=IntWalk.i64_in _ (by omega);clear bx hQ;generalize Zag l=y at *;generalize Zag r0=z at *
 go_enter Tryz.func176,Tryz.ntmps176
 go_upto_region 1 with (fail)
 generalize w.alloc (.cells #[.int .i64 κ,.string y,.string z,.int .i64 c,x] 54)=w1 at *;have S2:=ħ (Q1.o.set 0 (.int .i64 ((r:Int)-1)));have O2:=ħ (O1.o.setCell (a:=⟨Q,0,none⟩) (.int .i64 ((r:Int)-1)) rfl);have d0:(w1.setCell ⟨Q,0,none⟩ (.int .i64 ((r:Int)-1))).cell? ⟨Q,0,none⟩=some (.int .i64 ((r:Int)-1)):=S2.o.cell 0 _ rfl;by_cases h0:r=0
 ·have g1:(r:Int)-1<0:=by omega
  clear h0 hz
  go_wp2
  go_ret;exact⟨rfl,O2.o⟩
 ·have g1:¬ ((r:Int)-1<0):=by omega
  have g2:(Λ:Int)<1:=by omega
  go_wp2
  go_ret;exact⟨rfl,O2.o⟩
theorem Zxp (w:World) (P:Nat→Prop) (κ:Int) (l r0:List Nat) (c:Int) (ks:List Prd) (ao:Option Addr) (n cap:Nat) (hn:n=ks.length) (hbig:n≤1000000)
  (hk:ks=[]∨∃ g off,ao=some ⟨g,off,none⟩∧P g∧g<w.heap.size∧Zba w P ks g off)
  (Q r L:Nat) (hQ:Zaf w Q 3 [.int .i64 (r:Int)]) (hr:r≤100) (hr0:0<r) (hL:L+1≤12) (hPQ:∀ g,P g→g≠Q)
  (ih:∀ (q:Prd) (w:World) (vs:List Value) (r:Nat),q∈ks→r≤100→Zan w P q vs→Zaf w Q 3 [.int .i64 (r:Int)]→Calls Tryz.prog 176 #[.agg vs.toArray,.pointer (some ⟨Q,0,none⟩),.int .i64 (L:Int)] w fun e w'=>Z22 w Q q r L e w') :
  Calls Tryz.prog 176 #[.agg #[.int .i64 κ,.string (Zag l),.string (Zag r0),.int .i64 c,.slice ao n cap],.pointer (some ⟨Q,0,none⟩),.int .i64 ((L+1:Nat):Int)] w fun e w'=>Z22 w Q (.mk κ l r0 c ks) r (L+1) e w':=by
 have HK:=ħ hk;have IH:=ħ ih;have HN:=ħ hn;have HPQ:=ħ hPQ;have bx:=(Below.refl w.heap.size w).alloc (Nat.le_refl _) (.cells #[.int .i64 κ,.string (Zag l),.string (Zag r0),.int .i64 c,.slice ao n cap] 54);have Q1:=ħ (hQ.step bx);have O1:=ħ (Only.of_below (p:=(· = Q)) bx);have X1:Hid (Zaf (w.alloc (.cells #[.int .i64 κ,.string (Zag l),.string (Zag r0),.int .i64 c,.slice ao n cap] 54)) w.heap.size 54 [.int .i64 κ,.string (Zag l),.string (Zag r0),.int .i64 c,.slice ao n cap]):=ħ (heap_alloc_new w _);have QL:Hid (Q<w.heap.size):=ħ hQ.lt;have c0:=Q1.o.cell 0 _ rfl;have f0:=Q1.o.warm 0
 have e1:IntKind.i64.wrap ((r:Int)-1)=((r-1:Nat):Int):=by rw[IntWalk.i64_in _ (by omega)];omega
 have HCP:Hid (Zdw (.mk κ l r0 c ks)=1+Zei ks∧Zp4 (.mk κ l r0 c ks)=1+Zz3 ks):=ħ (by unfold Zdw Zp4;exact⟨rfl,rfl⟩);clear bx hQ hk ih hn hPQ;generalize Prd.mk κ l r0 c ks=p at *;generalize Zag l=y at *;generalize Zag r0=z at *
 go_enter Tryz.func176,Tryz.ntmps176
 go_upto_region 1 with (fail)
 generalize w.alloc (.cells #[.int .i64 κ,.string y,.string z,.int .i64 c,.slice ao n cap] 54)=w1 at *;have S2:Hid (Zaf (w1.setCell ⟨Q,0,none⟩ (.int .i64 ((r-1:Nat):Int))) Q 3 [.int .i64 ((r-1:Nat):Int)]):=ħ (Q1.o.set 0 _);have O2:=ħ (O1.o.setCell (a:=⟨Q,0,none⟩) (.int .i64 ((r-1:Nat):Int)) rfl);have X2:=ħ (X1.o.upd (Zp1 w1 ⟨Q,0,none⟩ (.int .i64 ((r-1:Nat):Int))) (by show w.heap.size≠Q;have:=QL.o;omega))
 have g1:¬ (((r-1:Nat):Int)<0):=by omega
 have g2:¬ (((L+1:Nat):Int)<1):=by omega
 have g3:¬ ((L:Int)+1<1):=by omega
 have e5:IntKind.i64.wrap ((L:Int)+1-1)=(L:Int):=by rw[IntWalk.i64_in _ (by omega)];omega
 generalize hR1:r-1=r1 at *;have d0:=S2.o.cell 0 _ rfl;have x4:=X2.o.cell 4 _ rfl
 go_upto_region 4 with (fail)
 generalize w1.setCell ⟨Q,0,none⟩ (.int .i64 (r1:Int))=w2 at *;clear d0 c0 f0 e1
 go_wp2_with fail
 clear x4 g1 g2 g3
 go_loopw [25] (fun cc wr=>∃ (i ρ:Nat),cc = .int .i64 i∧i≤n∧Hid (Zaf wr Q 3 [.int .i64 (ρ:Int)])∧Hid (ρ+Zei (ks.take i)=r1)∧Hid (Only w wr (· = Q))∧Hid (∀ j q,j<i→ks[j]?=some q→Zp4 q≤L)) (fun c _=>(n-intOf c).toNat)
 case atStart=>exact⟨0,r1,rfl,by omega,S2,ħ (by simp[Zei]),O2,ħ (fun j q hj=>absurd hj (Nat.not_lt_zero j))⟩
 case round =>
  clear S2 O2 X2 Q1 O1 X1;obtain⟨i,ρ,rfl,hi,hq,hρ,ho,hd⟩:=hrel;have e2:IntKind.i64.wrap ((i:Int)+1)=((i+1:Nat):Int):=IntWalk.i64_in _ (by omega);by_cases hlt:i<n
  ·have ii:(i:Int)<n:=by omega
   have HQ:Hid (∃ q,ks[i]?=some q∧∃ g off,ao=some ⟨g,off,none⟩∧g<w.heap.size∧∃ vs,Zan wr P q vs∧Zay wr g (off+i*5) vs):=ħ (by
    have hl:i<ks.length:=by rw[← HN.o];exact hlt
    refine⟨ks[i],List.getElem?_eq_getElem hl,?_⟩;rcases HK.o with h | ⟨g,off,h1,h2,h3,h4⟩
    ·rw[h] at hl;exact absurd hl (Nat.not_lt_zero _)
    ·obtain⟨vs,hv1,hv2⟩:=Zba.at ks g off i _ (List.getElem?_eq_getElem hl) h4
     exact⟨g,off,h1,h3,vs,Zan.keep (fun x hx hl=>ho.o.block x hl (HPQ.o x hx)) ho.o.size (fun x hx _=>hx) _ _ hv1,hv2.of_block (ho.o.block g h3 (HPQ.o g h2))⟩)
   obtain⟨q,hqi,g,off,hao,hg,vs,hpc,hrd⟩:=HQ.o;clear HQ;have HQI:=ħ hqi;obtain⟨xa,xn,xc,hvf,-⟩:=hpc.form;rw[hvf] at hrd hpc;have PC:=ħ hpc;have s0:=hrd 0 _ rfl;have s1:=hrd 1 _ rfl;have s2:=hrd 2 _ rfl;have s3:=hrd 3 _ rfl;have s4:=hrd 4 _ rfl;clear hrd hpc hvf vs hqi;rw[Nat.add_zero] at s0;have HAO:=ħ hao;subst hao;generalize q.k=q0 at *;generalize Zag q.l=q1 at *;generalize Zag q.r=q2 at *;generalize q.c=q3 at *
   go_wp2_with fail
   have bx:=(Below.refl wr.heap.size wr).alloc (Nat.le_refl _) (.cells #[.int .i64 q0,.string q1,.string q2,.int .i64 q3,.slice xa xn xc] 54);have hq2:=ħ (hq.o.step bx);have ho2:=ħ (ho.o.step bx);have PX:=ħ (PC.o.below bx);clear s0 s1 s2 s3 s4 bx hq ho PC;generalize wr.alloc (.cells #[.int .i64 q0,.string q1,.string q2,.int .i64 q3,.slice xa xn xc] 54)=wx at *;refine (IH.o q wx _ ρ (List.mem_of_getElem? HQI.o) (by have:=hρ.o;omega) PX.o hq2.o).mono ?_;rintro e w3 ⟨o3,he1,he0⟩;have ho3:=ħ (ho2.o.trans o3);have HCT:=ħ (Ztw ks i q HQI.o);have HCL:=ħ (Zno ks (i+1));have HDK:Hid (Zp4 q≤Zz3 ks):=ħ ((Zpa ks).1 (Nat.le_refl _) q (List.mem_of_getElem? HQI.o));by_cases hfit:Zdw q≤ρ∧Zp4 q≤L
   ·obtain⟨rfl,hq3⟩:=he1 hfit
    have HQ3:=ħ hq3;have HFIT:=ħ hfit;clear he1 he0 o3 hfit hq3 hq2 ho2 PX
    go_wp2
    go_roundw
    case rel=>exact⟨i+1,ρ-Zdw q,by go_num,by omega,HQ3,ħ (by have:=hρ.o;have:=HCT.o;have:=HFIT.o;omega),ho3,ħ (fun j q' hj hq'=>by
     rcases Nat.lt_or_ge j i with h | h
     ·exact hd.o j q' h hq'
     ·obtain rfl:j=i:=by omega
      rw[HQI.o] at hq';obtain rfl:=Option.some.inj hq'
      exact HFIT.o.2)⟩
    case measure=>simp only[intOf];omega
   ·obtain rfl:=he0 hfit
    have HNO:Hid (¬ (Zdw p≤r∧Zp4 p≤L+1)):=ħ (by
     have h1:=HCP.o;have h2:=hρ.o;have h3:=HCT.o;have h4:=HCL.o;have h5:=HDK.o;intro h;apply hfit
     omega)
    clear he1 he0 o3 hfit
    go_wp2
    go_ret;exact⟨ho3.o,fun h=>absurd h HNO.o,fun _=>rfl⟩
  ·have ii:¬ ((i:Int)<n):=by omega
   have HYES:Hid ((Zdw p≤r∧Zp4 p≤L+1)∧r-Zdw p=ρ):=ħ (by
    have h1:=HCP.o;have h2:=hρ.o
    have h3:ks.take i=ks:=by rw[show i=ks.length by rw[← HN.o];omega,List.take_length]
    rw[h3] at h2
    have h4:Zz3 ks≤L:=(Zpa ks).2 (fun q hq=>by
     obtain⟨j,hj⟩:=List.mem_iff_getElem?.1 hq;have hjl:=(List.getElem?_eq_some_iff.1 hj).1
     exact hd.o j q (by rw[← HN.o] at hjl;omega) hj)
    omega)
   go_wp2
   go_ret;exact⟨ho.o,fun _=>⟨rfl,by rw[HYES.o.2];exact hq.o⟩,fun h=>absurd HYES.o.1 h⟩
theorem Znp:∀ (Λ:Nat) (p:Prd) (w:World) (P:Nat→Prop) (vs:List Value) (Q r:Nat),Λ≤12→r≤100→Zdw p≤1000000→Zan w P p vs→Zaf w Q 3 [.int .i64 (r:Int)]→(∀ g,P g→g≠Q) →
  Calls Tryz.prog 176 #[.agg vs.toArray,.pointer (some ⟨Q,0,none⟩),.int .i64 (Λ:Int)] w fun e w'=>Z22 w Q p r Λ e w'
 | 0,.mk κ l r0 c ks,w,P,vs,Q,r,hΛ,hr,hc,h,hQ,hPQ=>by
  unfold Zan at h;obtain⟨ao,cap,rfl,hk⟩:=h;exact (Zqh w κ l r0 c (.slice ao ks.length cap) rfl Q r 0 hQ hr (.inr rfl) hΛ).mono (fun e w' h=>⟨h.2,fun h2=>by unfold Zp4 at h2;omega,fun _=>h.1⟩)
 | L+1,.mk κ l r0 c ks,w,P,vs,Q,r,hΛ,hr,hc,h,hQ,hPQ=>by
  have hc2:Zei ks≤1000000:=by unfold Zdw at hc;omega
  have hl:=Zcv ks;unfold Zan at h;obtain⟨ao,cap,rfl,hk⟩:=h;by_cases h0:r=0
  ·exact (Zqh w κ l r0 c (.slice ao ks.length cap) rfl Q r (L+1) hQ hr (.inl h0) hΛ).mono (fun e w' h=>⟨h.2,fun h2=>by have:=Zgz (.mk κ l r0 c ks);omega,fun _=>h.1⟩)
  ·exact Zxp w P κ l r0 c ks ao ks.length cap rfl (by omega) hk Q r L hQ hr (by omega) hΛ hPQ (fun q w' us r' hq hr' hpc hQ'=>Znp L q w' P us Q r' (by omega) hr' (by
    obtain⟨i,hi⟩:=List.mem_iff_getElem?.1 hq;have:=Zg0 ks i q hi
    omega) hpc hQ' hPQ)
end
end Go.Proofs.YtbcgocpihobjnaaGreatDoor
