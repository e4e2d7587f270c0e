import Derived.Deep.Cut
import Derived.Test.YtbcgocpihobjnaaGreatDoorCC10
import Derived.Test.YtbcgocpihobjnaaGreatDoorCC0
set_option linter.all false
set_option maxHeartbeats 8000000
set_option maxRecDepth 100000
namespace Go.Proofs.YtbcgocpihobjnaaGreatDoor
section
open Go.RowKit
theorem Zc0(w:World)(a b:Obj):((w.alloc a).alloc b).heap[w.heap.size]?=some a:=by
 rw[Below.heap_alloc (w.alloc a) b w.heap.size (by simp)];exact heap_alloc_new w a
end
section
open Go.RowKit
def Z30(l r:List Nat)(c:Int):List Value:=[.string (Zad l),.string (Zad r),.int .i64 c]
theorem Zvb(vs:List Value)(h:vs.length=3):(Tryz.prog.info? 121).map (·.size)=some vs.toArray.size:=by
 rw[List.size_toArray,h]
 kernel_rfl
theorem Zn3(κ:Int)(l r:List Nat)(c:Int)(x:Value)(hx:x.oneCell'=true)(w:World) :
  Calls Tryz.prog 150 #[.agg #[.int .i64 κ,.string (Zad l),.string (Zad r),.int .i64 c,x]] w fun e w'=>e = .returned (.agg (Z30 l r c).toArray)/\Below w.heap.size w w':=by
 unfold Z30;generalize Zad l=y at *;generalize Zad r=z at *
 go_enter Tryz.func150,Tryz.ntmps150
 go_wp2
 exact bodyPost_ret (results_cell_row (p:=2) (by kernel_rfl) _ _ (w.heap.size+1) 121 _ (0,0) _ rfl (heap_alloc2_new _ _ _) Tryz.underlying121 rfl (Zvb _ rfl)) rfl ⟨rfl,((đc _ w).alloc (đd _) _).alloc (by simp) _⟩
end
section
open Go.RowKit
theorem Zae.grownBy{w w':World}{g:Nat}{t:TypeId}{cs:List Value}{row:Option Nat}(h:Zae w g t cs)(hg:w.grownBy w' row)(hr:row≠some g):Zae w' g t cs:=by
 unfold Zae;rw[hg.block g h.lt (fun e=>hr e.symm)];exact h
theorem Zek(p:Prd):1<=Zb0 p:=by
 cases p;unfold Zb0;omega
theorem Zbq:∀ ks:List Prd,ks.length<=Zb2 ks
 | []=>Nat.zero_le _
 | p::ps=>by
  unfold Zb2;have:=Zbq ps;have:=Zek p;simp only[List.length_cons];omega
theorem Zel:∀ (ks:List Prd) (i:Nat) (p:Prd),ks[i]?=some p->Zb0 p<=Zb2 ks
 | [],_,_,h=>by simp at h
 | q::ps,0,p,h=>by
  obtain rfl:q=p:=by simpa using h
  unfold Zb2;omega
 | q::ps,i+1,p,h=>by
  unfold Zb2;have:=Zel ps i p (by simpa using h);omega
end
section
open Go.RowKit
def Z31(κ:Int)(y z:ByteArray)(c:Int)(ao:Option Addr)(n cap:Nat):List Value:=[.int .i64 κ,.string y,.string z,.int .i64 c,.slice ao n cap]
end
section
open Go.RowKit
theorem Zpt{L:Nat}:∀ ks:List Prd,Zsr ks<=L↔∀ q∈ks,Zi1 q<=L
 | []=>by simp[Zsr]
 | p::ps=>by
  unfold Zsr;rw[Nat.max_le,Zpt ps];simp
theorem Zvc(ks:List Prd)(i:Nat)(q:Prd)(h:ks[i]?=some q):Zb2 (ks.take (i+1))=Zb2 (ks.take i)+Zb0 q:=by
 obtain⟨hi,rfl⟩:=đg.1 h;rw[đv,đb hi,Zdx];simp[Zb2]
theorem Zn4(ks:List Prd)(i:Nat):Zb2 (ks.take i)<=Zb2 ks:=by
 have:Zb2 ks=Zb2 (ks.take i)+Zb2 (ks.drop i):=by rw[<- Zdx,List.take_append_drop]
 omega
def Z4b(w:World)(Q:Nat)(p:Prd)(r L:Nat)(e:Ending)(w':World):Prop :=
 Only w w' (· = Q)/\((Zb0 p<=r/\Zi1 p<=L->e = .returned (.bool true)/\Zae w' Q 3 [.int .i64 ((r-Zb0 p:Nat):Int)])/\(¬ (Zb0 p<=r/\Zi1 p<=L)->e = .returned (.bool false)))
theorem Zq9(w:World)(κ:Int)(l r0:List Nat)(c:Int)(x:Value)(hx:x.oneCell'=true)(Q r Λ:Nat)(hQ:Zae w Q 3 [.int .i64 (r:Int)])(hr:r<=100)(hz:r=0\/Λ=0)(hΛ:Λ<=12) :
  Calls Tryz.prog 176 #[.agg #[.int .i64 κ,.string (Zad l),.string (Zad r0),.int .i64 c,x],.pointer (some ⟨Q,0,none⟩),.int .i64 (Λ:Int)] w fun e w'=>e = .returned (.bool false)/\Only w w' (· = Q):=by
 have bx:=(đc w.heap.size w).alloc (đd _) (.cells #[.int .i64 κ,.string (Zad l),.string (Zad r0),.int .i64 c,x] 54);have Q1:=ħ (hQ.step bx);have O1:=ħ (Only.of_below (p:=(· = Q)) bx);have c0:=Q1.o.cell 0 _ rfl;have f0:=Q1.o.warm 0;have e1:IntKind.i64.wrap ((r:Int)-1)=(r:Int)-1:=đh _ (by omega);clear bx hQ;generalize Zad l=y at *;generalize Zad r0=z at *
 go_enter Tryz.func176,Tryz.ntmps176
 go_upto_region 1 with(fail)
 generalize w.alloc (.cells #[.int .i64 κ,.string y,.string z,.int .i64 c,x] 54)=w1 at *;have S2:=ħ (Q1.o.set 0 (.int .i64 ((r:Int)-1)));have O2:=ħ (O1.o.setCell (a:=⟨Q,0,none⟩) (.int .i64 ((r:Int)-1)) rfl);have d0:(w1.setCell ⟨Q,0,none⟩ (.int .i64 ((r:Int)-1))).cell? ⟨Q,0,none⟩=some (.int .i64 ((r:Int)-1)):=S2.o.cell 0 _ rfl;by_cases h0:r=0
 ·have g1:(r:Int)-1<0:=by omega
  clear h0 hz
  go_wp2
  go_ret;exact⟨rfl,O2.o⟩
 ·have g1:¬ ((r:Int)-1<0):=by omega
  have g2:(Λ:Int)<1:=by omega
  go_wp2
  go_ret;exact⟨rfl,O2.o⟩
theorem Zza (w:World) (P:Nat->Prop) (κ:Int) (l r0:List Nat) (c:Int) (ks:List Prd) (ao:Option Addr) (n cap:Nat) (hn:n=ks.length) (hbig:n<=1000000)
  (hk:ks=[]\/∃ g off,ao=some ⟨g,off,none⟩/\P g/\g<w.heap.size/\Zbe w P ks g off)
  (Q r L:Nat) (hQ:Zae w Q 3 [.int .i64 (r:Int)]) (hr:r<=100) (hr0:0<r) (hL:L+1<=12) (hPQ:∀ g,P g->g≠Q)
  (ih:∀ (q:Prd) (w:World) (vs:List Value) (r:Nat),q∈ks->r<=100->Zao w P q vs->Zae w Q 3 [.int .i64 (r:Int)]->Calls Tryz.prog 176 #[.agg vs.toArray,.pointer (some ⟨Q,0,none⟩),.int .i64 (L:Int)] w fun e w'=>Z4b w Q q r L e w') :
  Calls Tryz.prog 176 #[.agg #[.int .i64 κ,.string (Zad l),.string (Zad r0),.int .i64 c,.slice ao n cap],.pointer (some ⟨Q,0,none⟩),.int .i64 ((L+1:Nat):Int)] w fun e w'=>Z4b w Q (.mk κ l r0 c ks) r (L+1) e w':=by
 have HK:=ħ hk;have IH:=ħ ih;have HN:=ħ hn;have HPQ:=ħ hPQ;have bx:=(đc w.heap.size w).alloc (đd _) (.cells #[.int .i64 κ,.string (Zad l),.string (Zad r0),.int .i64 c,.slice ao n cap] 54);have Q1:=ħ (hQ.step bx);have O1:=ħ (Only.of_below (p:=(· = Q)) bx);have X1:Hid (Zae (w.alloc (.cells #[.int .i64 κ,.string (Zad l),.string (Zad r0),.int .i64 c,.slice ao n cap] 54)) w.heap.size 54 [.int .i64 κ,.string (Zad l),.string (Zad r0),.int .i64 c,.slice ao n cap]):=ħ (heap_alloc_new w _);have QL:Hid (Q<w.heap.size):=ħ hQ.lt;have c0:=Q1.o.cell 0 _ rfl;have f0:=Q1.o.warm 0
 have e1:IntKind.i64.wrap ((r:Int)-1)=((r-1:Nat):Int):=by rw[đh _ (by omega)];omega
 have HCP:Hid (Zb0 (.mk κ l r0 c ks)=1+Zb2 ks/\Zi1 (.mk κ l r0 c ks)=1+Zsr ks):=ħ (by unfold Zb0 Zi1;exact⟨rfl,rfl⟩);clear bx hQ hk ih hn hPQ;generalize Prd.mk κ l r0 c ks=p at *;generalize Zad l=y at *;generalize Zad r0=z at *
 go_enter Tryz.func176,Tryz.ntmps176
 go_upto_region 1 with(fail)
 generalize w.alloc (.cells #[.int .i64 κ,.string y,.string z,.int .i64 c,.slice ao n cap] 54)=w1 at *;have S2:Hid (Zae (w1.setCell ⟨Q,0,none⟩ (.int .i64 ((r-1:Nat):Int))) Q 3 [.int .i64 ((r-1:Nat):Int)]):=ħ (Q1.o.set 0 _);have O2:=ħ (O1.o.setCell (a:=⟨Q,0,none⟩) (.int .i64 ((r-1:Nat):Int)) rfl);have X2:=ħ (X1.o.upd (Zqy w1 ⟨Q,0,none⟩ (.int .i64 ((r-1:Nat):Int))) (by show w.heap.size≠Q;have:=QL.o;omega))
 have g1:¬ (((r-1:Nat):Int)<0):=by omega
 have g2:¬ (((L+1:Nat):Int)<1):=by omega
 have g3:¬ ((L:Int)+1<1):=by omega
 have e5:IntKind.i64.wrap ((L:Int)+1-1)=(L:Int):=by rw[đh _ (by omega)];omega
 generalize hR1:r-1=r1 at *;have d0:=S2.o.cell 0 _ rfl;have x4:=X2.o.cell 4 _ rfl
 go_upto_region 4 with(fail)
 generalize w1.setCell ⟨Q,0,none⟩ (.int .i64 (r1:Int))=w2 at *;clear d0 c0 f0 e1
 go_wp2_with fail
 clear x4 g1 g2 g3
 go_loopw [25] (fun cc wr=>∃ (i ρ:Nat),cc = .int .i64 i/\i<=n/\Hid (Zae wr Q 3 [.int .i64 (ρ:Int)])/\Hid (ρ+Zb2 (ks.take i)=r1)/\Hid (Only w wr (· = Q))/\Hid (∀ j q,j<i->ks[j]?=some q->Zi1 q<=L)) (fun c _=>(n-intOf c).toNat)
 case atStart=>exact⟨0,r1,rfl,by omega,S2,ħ (by simp[Zb2]),O2,ħ (fun j q hj=>absurd hj (đu j))⟩
 case round =>
  clear S2 O2 X2 Q1 O1 X1;obtain⟨i,ρ,rfl,hi,hq,hρ,ho,hd⟩:=hrel;have e2:IntKind.i64.wrap ((i:Int)+1)=((i+1:Nat):Int):=đh _ (by omega);by_cases hlt:i<n
  ·have ii:(i:Int)<n:=by omega
   have HQ:Hid (∃ q,ks[i]?=some q/\∃ g off,ao=some ⟨g,off,none⟩/\g<w.heap.size/\∃ vs,Zao wr P q vs/\Zav wr g (off+i*5) vs):=ħ (by
    have hl:i<ks.length:=by rw[<- HN.o];exact hlt
    refine⟨ks[i],đb hl,?_⟩;rcases HK.o with h | ⟨g,off,h1,h2,h3,h4⟩
    ·rw[h] at hl;exact absurd hl (đu _)
    ·obtain⟨vs,hv1,hv2⟩:=Zbe.at ks g off i _ (đb hl) h4
     exact⟨g,off,h1,h3,vs,Zao.keep (fun x hx hl=>ho.o.block x hl (HPQ.o x hx)) ho.o.size (fun x hx _=>hx) _ _ hv1,hv2.of_block (ho.o.block g h3 (HPQ.o g h2))⟩)
   obtain⟨q,hqi,g,off,hao,hg,vs,hpc,hrd⟩:=HQ.o;clear HQ;have HQI:=ħ hqi;obtain⟨xa,xn,xc,hvf,-⟩:=hpc.form;rw[hvf] at hrd hpc;have PC:=ħ hpc;have s0:=hrd 0 _ rfl;have s1:=hrd 1 _ rfl;have s2:=hrd 2 _ rfl;have s3:=hrd 3 _ rfl;have s4:=hrd 4 _ rfl;clear hrd hpc hvf vs hqi;rw[Nat.add_zero] at s0;have HAO:=ħ hao;subst hao;generalize q.k=q0 at *;generalize Zad q.l=q1 at *;generalize Zad q.r=q2 at *;generalize q.c=q3 at *
   go_wp2_with fail
   have bx:=(đc wr.heap.size wr).alloc (đd _) (.cells #[.int .i64 q0,.string q1,.string q2,.int .i64 q3,.slice xa xn xc] 54);have hq2:=ħ (hq.o.step bx);have ho2:=ħ (ho.o.step bx);have PX:=ħ (PC.o.below bx);clear s0 s1 s2 s3 s4 bx hq ho PC;generalize wr.alloc (.cells #[.int .i64 q0,.string q1,.string q2,.int .i64 q3,.slice xa xn xc] 54)=wx at *;refine(IH.o q wx _ ρ (đe HQI.o) (by have:=hρ.o;omega) PX.o hq2.o).mono ?_;rintro e w3 ⟨o3,he1,he0⟩;have ho3:=ħ (ho2.o.trans o3);have HCT:=ħ (Zvc ks i q HQI.o);have HCL:=ħ (Zn4 ks (i+1));have HDK:Hid (Zi1 q<=Zsr ks):=ħ ((Zpt ks).1 (đd _) q (đe HQI.o));by_cases hfit:Zb0 q<=ρ/\Zi1 q<=L
   ·obtain⟨rfl,hq3⟩:=he1 hfit
    have HQ3:=ħ hq3;have HFIT:=ħ hfit;clear he1 he0 o3 hfit hq3 hq2 ho2 PX
    go_wp2
    go_roundw
    case rel=>exact⟨i+1,ρ-Zb0 q,by go_num,by omega,HQ3,ħ (by have:=hρ.o;have:=HCT.o;have:=HFIT.o;omega),ho3,ħ (fun j q' hj hq'=>by
     rcases đw j i with h | h
     ·exact hd.o j q' h hq'
     ·obtain rfl:j=i:=by omega
      rw[HQI.o] at hq';obtain rfl:=đa hq'
      exact HFIT.o.2)⟩
    case measure=>simp only[intOf];omega
   ·obtain rfl:=he0 hfit
    have HNO:Hid (¬ (Zb0 p<=r/\Zi1 p<=L+1)):=ħ (by
     have h1:=HCP.o;have h2:=hρ.o;have h3:=HCT.o;have h4:=HCL.o;have h5:=HDK.o;intro h;apply hfit
     omega)
    clear he1 he0 o3 hfit
    go_wp2
    go_ret;exact⟨ho3.o,fun h=>absurd h HNO.o,fun _=>rfl⟩
  ·have ii:¬ ((i:Int)<n):=by omega
   have HYES:Hid ((Zb0 p<=r/\Zi1 p<=L+1)/\r-Zb0 p=ρ):=ħ (by
    have h1:=HCP.o;have h2:=hρ.o
    have h3:ks.take i=ks:=by rw[show i=ks.length by rw[<- HN.o];omega,List.take_length]
    rw[h3] at h2
    have h4:Zsr ks<=L:=(Zpt ks).2 (fun q hq=>by
     obtain⟨j,hj⟩:=đs.1 hq;have hjl:=(đg.1 hj).1
     exact hd.o j q (by rw[<- HN.o] at hjl;omega) hj)
    omega)
   go_wp2
   go_ret;exact⟨ho.o,fun _=>⟨rfl,by rw[HYES.o.2];exact hq.o⟩,fun h=>absurd HYES.o.1 h⟩
theorem Zn5:∀ (Λ:Nat) (p:Prd) (w:World) (P:Nat->Prop) (vs:List Value) (Q r:Nat),Λ<=12->r<=100->Zb0 p<=1000000->Zao w P p vs->Zae w Q 3 [.int .i64 (r:Int)]->(∀ g,P g->g≠Q) ->
  Calls Tryz.prog 176 #[.agg vs.toArray,.pointer (some ⟨Q,0,none⟩),.int .i64 (Λ:Int)] w fun e w'=>Z4b w Q p r Λ e w'
 | 0,.mk κ l r0 c ks,w,P,vs,Q,r,hΛ,hr,hc,h,hQ,hPQ=>by
  unfold Zao at h;obtain⟨ao,cap,rfl,hk⟩:=h;exact(Zq9 w κ l r0 c (.slice ao ks.length cap) rfl Q r 0 hQ hr (.inr rfl) hΛ).mono (fun e w' h=>⟨h.2,fun h2=>by unfold Zi1 at h2;omega,fun _=>h.1⟩)
 | L+1,.mk κ l r0 c ks,w,P,vs,Q,r,hΛ,hr,hc,h,hQ,hPQ=>by
  have hc2:Zb2 ks<=1000000:=by unfold Zb0 at hc;omega
  have hl:=Zbq ks;unfold Zao at h;obtain⟨ao,cap,rfl,hk⟩:=h;by_cases h0:r=0
  ·exact(Zq9 w κ l r0 c (.slice ao ks.length cap) rfl Q r (L+1) hQ hr (.inl h0) hΛ).mono (fun e w' h=>⟨h.2,fun h2=>by have:=Zek (.mk κ l r0 c ks);omega,fun _=>h.1⟩)
  ·exact Zza w P κ l r0 c ks ao ks.length cap rfl (by omega) hk Q r L hQ hr (by omega) hΛ hPQ (fun q w' us r' hq hr' hpc hQ'=>Zn5 L q w' P us Q r' (by omega) hr' (by
    obtain⟨i,hi⟩:=đs.1 hq;have:=Zel ks i q hi
    omega) hpc hQ' hPQ)
end
end Go.Proofs.YtbcgocpihobjnaaGreatDoor
