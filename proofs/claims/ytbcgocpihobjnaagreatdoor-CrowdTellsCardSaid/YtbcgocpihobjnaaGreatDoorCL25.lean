import Derived.Sort.KeysCollected
import Derived.Shelf.SlIter.Nil
import Derived.Shelf.SortM.Plain
import Derived.Shelf.SortM.SortNone
import Derived.Ground.GgzProg
import Derived.Ground.SlgmProg
import Derived.Test.YtbcgocpihobjnaaGreatDoorProg
import Derived.Test.YtbcgocpihobjnaaGreatDoorCL24
import Derived.Test.YtbcgocpihobjnaaGreatDoorCL0
import Derived.Test.YtbcgocpihobjnaaGreatDoorCL22
import Derived.Test.YtbcgocpihobjnaaGreatDoorCL16
import Derived.Test.YtbcgocpihobjnaaGreatDoorCL23
set_option linter.all false
set_option maxHeartbeats 16000000
set_option maxRecDepth 100000
namespace Go.Proofs.YtbcgocpihobjnaaGreatDoor
section
open Go.RowKit Go.Sort Go.Maps
def tK(w:World)(P:Nat->Prop)(l:List Prd)(ao:Option Addr):Prop:=l=[]\/∃ g off,ao=some ⟨g,off,none⟩/\P g/\g<w.heap.size/\gE w P l g off
def oY(s:List Nat):Value:=.string (aB s)
end
section
open Go.RowKit Go.Sort Go.Maps
def pW(w:World)(ao:Option Addr)(l:List (List Nat)):Prop:=l=[]\/∃ g off,ao=some ⟨g,off,none⟩/\g<w.heap.size/\dD w g off (l.map oY)
theorem pW.below{w w':World}{ao:Option Addr}{l:List (List Nat)}(h:pW w ao l)(hb:RowKit.Below w.heap.size w w'):pW w' ao l:=by
 rcases h with h | ⟨g,off,h1,h2,h3⟩
 ·exact .inl h
 ·exact .inr ⟨g,off,h1,gR h2 hb.size,h3.of_block (hb.block g h2)⟩
theorem OwnK.strsR{w:World}{B n cap:Nat}{ao:Option Addr}{l:List (List Nat)}(h:OwnK w B 1 n cap (l.map oY) ao)(hn:n=l.length):pW w ao l:=by
 cases h with
 | nil h h1 h2=>exact .inl (List.eq_nil_of_length_eq_zero (by omega))
 | «at» g off h h1 h2 h3=>exact .inr ⟨g,off,rfl,h.lt,h.cells⟩
theorem pW.at{w:World}{ao:Option Addr}{l:List (List Nat)}(h:pW w ao l)(i:Nat)(s:List Nat)(hs:l[i]?=some s):∃ g off,ao=some ⟨g,off,none⟩/\g<w.heap.size/\w.cell? ⟨g,off+i,none⟩=some (.string (aB s)):=by
 rcases h with h | ⟨g,off,h1,h2,h3⟩
 ·rw[h] at hs;simp at hs
 ·exact⟨g,off,h1,h2,h3 i _ (by rw[dK,hs];rfl)⟩
end
section
theorem DZ(M L:Nat):∀ (ks:List Prd) (n:Nat),n<=mL M L n ks
 | [],n=>by rw[mL];exact aO _
 | q::qs,n=>by
  rw[mL];split
  ·exact dQ (Nat.le_add_right _ _) (DZ M L qs _)
  ·exact aO _
theorem VH(M L:Nat)(h:∀ q,kJ M L q<=M->cO q<=kJ M L q):∀ (ks:List Prd) (n:Nat),mL M L n ks<=M->n+cR ks<=mL M L n ks
 | [],n,_=>by rw[mL,cR];exact aO _
 | q::qs,n,hn=>by
  rw[mL] at hn ⊢;rw[cR];by_cases hm:n<=M
  ·rw[if_pos hm] at hn ⊢
   have h1:=DZ M L qs (n+kJ M L q);have h2:=h q (by omega);have h3:=VH M L h qs _ hn;omega
  ·rw[if_neg hm] at hn
   exact absurd hn hm
theorem VI(M:Nat):∀ (L:Nat) (p:Prd),kJ M L p<=M->cO p<=kJ M L p
 | 0,p,h=>by rw[kJ] at h;omega
 | L+1,.mk k l r c ks,h=>by
  rw[kJ] at h ⊢;rw[cO];exact VH M L (VI M L) ks 1 h
theorem VJ{p:Prd}{M L:Nat}(h:vP p M L=true):cO p<=M:=by
 have h1:=of_decide_eq_true h;exact dQ (VI M L p h1) h1
theorem VK(M L:Nat)(h:∀ q,cO q<=M->oH q<=L->kJ M L q=cO q):∀ (ks:List Prd) (n:Nat),n+cR ks<=M->yK ks<=L->mL M L n ks=n+cR ks
 | [],n,_,_=>by rw[mL,cR];rfl
 | q::qs,n,hn,hd=>by
  rw[cR] at hn ⊢;rw[yK] at hd;rw[mL,if_pos (by omega),h q (by omega) (by omega),VK M L h qs _ (by omega) (by omega)];omega
theorem VL(M:Nat):∀ (L:Nat) (p:Prd),cO p<=M->oH p<=L->kJ M L p=cO p
 | 0,.mk k l r c ks,_,hd=>by rw[oH] at hd;omega
 | L+1,.mk k l r c ks,hn,hd=>by
  rw[kJ];rw[cO] at hn ⊢;rw[oH] at hd;exact VK M L (VL M L) ks 1 hn (by omega)
theorem Z3b{p:Prd}{M L:Nat}(hc:cO p<=M)(hd:oH p<=L):vP p M L=true:=by
 unfold vP;rw[VL M L p hc hd];exact decide_eq_true hc
theorem VM{l:List Nat}(h:nF l=true):NmB l:=⟨(mw h).1,by have:=(mw h).2;omega⟩
mutual
theorem EA:∀ p,dV p=true->tI p
 | .mk k l r c ks,h=>by
  unfold dV at h;unfold tI;by_cases hk:k=0
  ·rw[if_pos hk] at h
   simp only[dB] at h;obtain⟨⟨⟨h1,h2⟩,h3⟩,h4⟩:=h
   have bT:ks=[]:=by simpa using h1
   subst bT;exact⟨VM h2,VM h3,by unfold zZ;trivial⟩
  ·rw[if_neg hk] at h
   simp only[dB,beq_iff_eq] at h;obtain⟨⟨⟨h1,rfl⟩,rfl⟩,h2⟩:=h;exact⟨⟨by simp,by simp⟩,⟨by simp,by simp⟩,VO ks h2⟩
theorem VO:∀ ks,zX ks=true->zZ ks
 | [],_=>by unfold zZ;trivial
 | p::ps,h=>by
  unfold zX at h;rw[dB] at h;unfold zZ;exact⟨EA p h.1,VO ps h.2⟩
end
end
section
open Go.RowKit Go.Sort
def aY{α:Type}(f:α->List Value)(w:World)(ao:Option Addr)(l:List α):Prop:=l=[]\/∃ g off,ao=some ⟨g,off,none⟩/\g<w.heap.size/\dD w g off (l.flatMap f)
theorem aY.below{α:Type}{f:α->List Value}{w w':World}{ao:Option Addr}{l:List α}(h:aY f w ao l)(hb:Below w.heap.size w w'):aY f w' ao l:=by
 rcases h with h | ⟨g,off,h1,h2,h3⟩
 ·exact .inl h
 ·exact .inr ⟨g,off,h1,gR h2 hb.size,h3.of_block (hb.block g h2)⟩
theorem aY.at{α:Type}{f:α->List Value}{k:Nat}(hf:∀ x,(f x).length=k){w:World}{ao:Option Addr}{l:List α}(h:aY f w ao l)(i:Nat)(x:α)(hx:l[i]?=some x) :
  ∃ g off,ao=some ⟨g,off,none⟩/\g<w.heap.size/\∀ j u,(f x)[j]?=some u->w.cell? ⟨g,off+i*k+j,none⟩=some u:=by
 rcases h with h | ⟨g,off,h1,h2,h3⟩
 ·rw[h] at hx;simp at hx
 ·refine⟨g,off,h1,h2,fun j u hj=>?_⟩
  have hl:j<k:=by rw[<- hf x];exact(fD.1 hj).1
  have:=h3 (i*k+j) u (by rw[Ho f k hf l i j x hx hl];exact hj)
  rwa [show off+(i*k+j)=off+i*k+j by omega] at this
theorem OwnK.flatR{α:Type}{f:α->List Value}{w:World}{B k n cap:Nat}{ao:Option Addr}{l:List α}(h:OwnK w B k n cap (l.flatMap f) ao)(hk:∀ x,(f x).length=k)(hn:n=l.length):aY f w ao l:=by
 cases h with
 | nil h h1 h2=>exact .inl (List.eq_nil_of_length_eq_zero (by omega))
 | «at» g off h h1 h2 h3=>exact .inr ⟨g,off,rfl,h.lt,h.cells⟩
end
section
open Go.RowKit Go.Sort Go.Maps
theorem Zti(w:World)(l r:List Nat)(c:Int)(ao:Option Addr)(n cap:Nat)(hl:NmB l)(hr:NmB r) :
  Calls Tryz.prog 171 #[.agg #[.int .i64 0,.string (aB l),.string (aB r),.int .i64 c,.slice ao n cap]] w fun e w'=>e = .returned (.bool (oV 0 l r c n))/\RowKit.Below w.heap.size w w':=by
 have bx:=(aG w.heap.size w).alloc (aO _) (.cells #[.int .i64 0,.string (aB l),.string (aB r),.int .i64 c,.slice ao n cap] 54);have B1:=I bx;have X1:=hnw w 54 [.int .i64 0,.string (aB l),.string (aB r),.int .i64 c,.slice ao n cap];have HA:=I (fun W=>Zth 0 l r c ao n cap W hl hr);clear bx hl hr;generalize oV 0 l r c n=V at *;generalize aB l=y at *;generalize aB r=z at *
 go_enter Tryz.func171,Tryz.ntmps171
 go_upto_region 1 with(fail)
 generalize w.alloc (.cells #[.int .i64 0,.string y,.string z,.int .i64 c,.slice ao n cap] 54)=w1 at *;have x0:=X1.o.cell 0 _ rfl
 go_wp2_with (refine wpList_load_row rfl 54 (.tmp 1) rfl w.heap.size ?x1 54 #[.int .i64 0,.string y,.string z,.int .i64 c,.slice ao n cap] (0,0) _ X1.o Tryz.underlying54 rfl (oT _ rfl) ?_;(case x1=>rfl))
 refine(HA.o w1).mono ?_;rintro e w2 ⟨rfl,b2⟩;have B2:=B1.tr b2;clear b2
 go_wp2
 go_ret;exact⟨rfl,B2.o⟩
theorem VP (w:World) (P:Nat->Prop) (κ:Int) (l r:List Nat) (c:Int) (ks:List Prd) (ao:Option Addr) (n cap:Nat) (hκ:κ≠0) (hn:n=ks.length) (bN:n<=1000000) (hk:Nt w P ks ao)
  (ih:∀ (q:Prd) (w:World) (vs:List Value),q∈ks->cK w P q vs->Calls Tryz.prog 171 #[.agg vs.toArray] w fun e w'=>e = .returned (.bool (dV q))/\RowKit.Below w.heap.size w w') :
  Calls Tryz.prog 171 #[.agg #[.int .i64 κ,.string (aB l),.string (aB r),.int .i64 c,.slice ao n cap]] w fun e w'=>e = .returned (.bool (dV (.mk κ l r c ks)))/\RowKit.Below w.heap.size w w':=by
 have HV:Hid (dV (.mk κ l r c ks)=(mK κ n c&&(l==[]&&(r==[]&&ks.all dV)))):=I (by
  rw[Vy,if_neg hκ,hn]
  have:(!(ks.any (fun q=>!dV q)))=ks.all dV:=by
   rw[Bool.eq_iff_iff,Bool.not_eq_true',List.any_eq_false,List.all_eq_true];simp
  rw[this])
 obtain⟨V,hV⟩:=exq (dV (.mk κ l r c ks));rw[hV] at HV ⊢;clear hV;have HK:=I (fun W (hW:RowKit.Below w.heap.size w W)=>hk.below hW);have IH:=I ih;have HN:=I hn;have bx:=(aG w.heap.size w).alloc (aO _) (.cells #[.int .i64 κ,.string (aB l),.string (aB r),.int .i64 c,.slice ao n cap] 54);have B1:=I bx;have X1:=hnw w 54 [.int .i64 κ,.string (aB l),.string (aB r),.int .i64 c,.slice ao n cap]
 have tQ:Hid ((aB l).toList.isEmpty=(l==[])/\(aB r).toList.isEmpty=(r==[])):=I (by
  have:∀ m:List Nat,(aB m).toList.isEmpty=(m==[]):=fun m=>by
   cases m with
   | nil=>exact Kz.trans rfl
   | cons a b=>rw[Hp _ (by simp)];rfl
  exact⟨this l,this r⟩)
 have xM:=tQ.o.1;have xN:=tQ.o.2;generalize (l==[])=e1 at *;generalize (r==[])=e2 at *;have j7:=I hκ;clear bx hk ih hn tQ hκ;generalize aB l=y at *;generalize aB r=z at *
 go_enter Tryz.func171,Tryz.ntmps171
 go_upto_region 1 with(fail)
 generalize w.alloc (.cells #[.int .i64 κ,.string y,.string z,.int .i64 c,.slice ao n cap] 54)=w1 at *;by_cases k1:κ=1
 ·subst k1
  by_cases n2:2<=n
  ·have n2i:(2:Int)<=n:=by omega
   by_cases c0:c=0
   ·subst c0
    have HA:Hid (V=(e1&&(e2&&ks.all dV))):=I (by rw[HV.o,show mK 1 n 0=true from by unfold mK;simp;omega,cH]);obtain⟨x0,x1,x2,x3,x4⟩:=X1.o.c5
    cases e1 with
    | false =>
     have HX:Hid (V=false):=I (by rw[HA.o];rfl)
     go_wp2
     go_ret;exact⟨aF HX.o.symm,B1.o⟩
    | true =>
     cases e2 with
     | false =>
      have HX:Hid (V=false):=I (by rw[HA.o];rfl)
      go_wp2
      go_ret;exact⟨aF HX.o.symm,B1.o⟩
     | true =>
      have S0:Hid (V=(ks.drop 0).all dV):=I (by rw[HA.o];rfl)
      go_wp2_with fail
      clear x0 x1 x2 x3 x4
      go_loopw [6] (fun cc wr=>∃ (i:Nat),cc = .int .i64 i/\i<=n/\Hid (RowKit.Below w.heap.size w wr)/\Hid (aC wr w.heap.size 54 [.int .i64 1,.string y,.string z,.int .i64 0,.slice ao n cap])/\Hid (V=(ks.drop i).all dV)) (fun c _=>(n-intOf c).toNat)
      case atStart=>exact⟨0,rfl,by omega,B1,X1,S0⟩
      case round =>
       clear S0 B1 X1 HA HV;obtain⟨i,rfl,hi,hw,hx,hv⟩:=hrel;have ei:=w1i i (by omega);by_cases aE:i<n
       ·have ii:(i:Int)<n:=by omega
        obtain⟨q,bX,g,off,bI,hg,us,bH,aH⟩:=(HK.o wr hw.o).get (i:=i) (by rw[<- HN.o];exact aE);have bQ:=I (hv.o.trans (DV dV ks i q bX));have gN:=I (IH.o q wr us (bU bX) bH);obtain⟨xa,xn,xc,rfl,-⟩:=bH.form;have s0:=aH 0 _ rfl;have s1:=aH 1 _ rfl;have s2:=aH 2 _ rfl;have s3:=aH 3 _ rfl;have s4:=aH 4 _ rfl;rw[Nat.add_zero] at s0;have x4:=hx.o.cell 4 _ rfl;have mT:=I bI;clear aH bH bX hv;subst bI;generalize dV q=rb at *;generalize q.k=q0 at *;generalize aB q.l=q1 at *;generalize aB q.r=q2 at *;generalize q.c=q3 at *
        go_wp2_with fail
        refine gN.o.mono ?_;rintro e w3 ⟨rfl,b3⟩;have B3:=hw.tr b3;have X3:=I (hx.o.step b3);clear b3 hw hx s0 s1 s2 s3 s4 x4 gN
        cases rb with
        | false =>
         have HX:Hid (V=false):=I (by rw[bQ.o];rfl)
         go_wp2
         go_ret;exact⟨aF HX.o.symm,B3.o⟩
        | true =>
         have HX:Hid (V=(ks.drop (i+1)).all dV):=I (by rw[bQ.o,cH])
         go_wp2
         go_roundw
         case rel=>exact⟨i+1,by go_num,by omega,B3,X3,HX⟩
         case measure=>simp only[intOf];omega
       ·have ii:¬ ((i:Int)<n):=by omega
        have HX:Hid (V=true):=I (by rw[hv.o,List.drop_eq_nil_of_le (by rw[<- HN.o];omega)];rfl)
        go_wp2
        go_ret;exact⟨aF HX.o.symm,hw.o⟩
   ·have c0b:(c==0)=false:=beq_eq_false_iff_ne.mpr c0
    have HX:Hid (V=false):=I (by rw[HV.o,show mK 1 n c=false from by unfold mK;simp[c0b]];rfl);obtain⟨x0,x1,x2,x3,x4⟩:=X1.o.c5
    go_wp2
    go_ret;exact⟨aF HX.o.symm,B1.o⟩
  ·have n2i:¬ ((2:Int)<=n):=by omega
   have HX:Hid (V=false):=I (by rw[HV.o,show mK 1 n c=false from by unfold mK;simp;omega];rfl);obtain⟨x0,x1,x2,x3,x4⟩:=X1.o.c5
   go_wp2
   go_ret;exact⟨aF HX.o.symm,B1.o⟩
 ·have k1b:(κ==1)=false:=beq_eq_false_iff_ne.mpr k1
  by_cases k2:κ=2
  ·subst k2
   by_cases n2:2<=n
   ·have n2i:(2:Int)<=n:=by omega
    by_cases c0:c=0
    ·subst c0
     have HA:Hid (V=(e1&&(e2&&ks.all dV))):=I (by rw[HV.o,show mK 2 n 0=true from by unfold mK;simp;omega,cH]);obtain⟨x0,x1,x2,x3,x4⟩:=X1.o.c5
     cases e1 with
     | false =>
      have HX:Hid (V=false):=I (by rw[HA.o];rfl)
      go_wp2
      go_ret;exact⟨aF HX.o.symm,B1.o⟩
     | true =>
      cases e2 with
      | false =>
       have HX:Hid (V=false):=I (by rw[HA.o];rfl)
       go_wp2
       go_ret;exact⟨aF HX.o.symm,B1.o⟩
      | true =>
       have S0:Hid (V=(ks.drop 0).all dV):=I (by rw[HA.o];rfl)
       go_wp2_with fail
       clear x0 x1 x2 x3 x4
       go_loopw [6] (fun cc wr=>∃ (i:Nat),cc = .int .i64 i/\i<=n/\Hid (RowKit.Below w.heap.size w wr)/\Hid (aC wr w.heap.size 54 [.int .i64 2,.string y,.string z,.int .i64 0,.slice ao n cap])/\Hid (V=(ks.drop i).all dV)) (fun c _=>(n-intOf c).toNat)
       case atStart=>exact⟨0,rfl,by omega,B1,X1,S0⟩
       case round =>
        clear S0 B1 X1 HA HV;obtain⟨i,rfl,hi,hw,hx,hv⟩:=hrel;have ei:=w1i i (by omega);by_cases aE:i<n
        ·have ii:(i:Int)<n:=by omega
         obtain⟨q,bX,g,off,bI,hg,us,bH,aH⟩:=(HK.o wr hw.o).get (i:=i) (by rw[<- HN.o];exact aE);have bQ:=I (hv.o.trans (DV dV ks i q bX));have gN:=I (IH.o q wr us (bU bX) bH);obtain⟨xa,xn,xc,rfl,-⟩:=bH.form;have s0:=aH 0 _ rfl;have s1:=aH 1 _ rfl;have s2:=aH 2 _ rfl;have s3:=aH 3 _ rfl;have s4:=aH 4 _ rfl;rw[Nat.add_zero] at s0;have x4:=hx.o.cell 4 _ rfl;have mT:=I bI;clear aH bH bX hv;subst bI;generalize dV q=rb at *;generalize q.k=q0 at *;generalize aB q.l=q1 at *;generalize aB q.r=q2 at *;generalize q.c=q3 at *
         go_wp2_with fail
         refine gN.o.mono ?_;rintro e w3 ⟨rfl,b3⟩;have B3:=hw.tr b3;have X3:=I (hx.o.step b3);clear b3 hw hx s0 s1 s2 s3 s4 x4 gN
         cases rb with
         | false =>
          have HX:Hid (V=false):=I (by rw[bQ.o];rfl)
          go_wp2
          go_ret;exact⟨aF HX.o.symm,B3.o⟩
         | true =>
          have HX:Hid (V=(ks.drop (i+1)).all dV):=I (by rw[bQ.o,cH])
          go_wp2
          go_roundw
          case rel=>exact⟨i+1,by go_num,by omega,B3,X3,HX⟩
          case measure=>simp only[intOf];omega
        ·have ii:¬ ((i:Int)<n):=by omega
         have HX:Hid (V=true):=I (by rw[hv.o,List.drop_eq_nil_of_le (by rw[<- HN.o];omega)];rfl)
         go_wp2
         go_ret;exact⟨aF HX.o.symm,hw.o⟩
    ·have c0b:(c==0)=false:=beq_eq_false_iff_ne.mpr c0
     have HX:Hid (V=false):=I (by rw[HV.o,show mK 2 n c=false from by unfold mK;simp[c0b]];rfl);obtain⟨x0,x1,x2,x3,x4⟩:=X1.o.c5
     go_wp2
     go_ret;exact⟨aF HX.o.symm,B1.o⟩
   ·have n2i:¬ ((2:Int)<=n):=by omega
    have HX:Hid (V=false):=I (by rw[HV.o,show mK 2 n c=false from by unfold mK;simp;omega];rfl);obtain⟨x0,x1,x2,x3,x4⟩:=X1.o.c5
    go_wp2
    go_ret;exact⟨aF HX.o.symm,B1.o⟩
  ·have k2b:(κ==2)=false:=beq_eq_false_iff_ne.mpr k2
   by_cases k3:κ=3
   ·subst k3
    by_cases c1:1<=c
    ·by_cases cn:c<=(n:Int)
     ·skip
      have HA:Hid (V=(e1&&(e2&&ks.all dV))):=I (by rw[HV.o,show mK 3 n c=true from by unfold mK;simp[c1,cn],cH]);obtain⟨x0,x1,x2,x3,x4⟩:=X1.o.c5
      cases e1 with
      | false =>
       have HX:Hid (V=false):=I (by rw[HA.o];rfl)
       go_wp2
       go_ret;exact⟨aF HX.o.symm,B1.o⟩
      | true =>
       cases e2 with
       | false =>
        have HX:Hid (V=false):=I (by rw[HA.o];rfl)
        go_wp2
        go_ret;exact⟨aF HX.o.symm,B1.o⟩
       | true =>
        have S0:Hid (V=(ks.drop 0).all dV):=I (by rw[HA.o];rfl)
        go_wp2_with fail
        clear x0 x1 x2 x3 x4
        go_loopw [6] (fun cc wr=>∃ (i:Nat),cc = .int .i64 i/\i<=n/\Hid (RowKit.Below w.heap.size w wr)/\Hid (aC wr w.heap.size 54 [.int .i64 3,.string y,.string z,.int .i64 c,.slice ao n cap])/\Hid (V=(ks.drop i).all dV)) (fun c _=>(n-intOf c).toNat)
        case atStart=>exact⟨0,rfl,by omega,B1,X1,S0⟩
        case round =>
         clear S0 B1 X1 HA HV;obtain⟨i,rfl,hi,hw,hx,hv⟩:=hrel;have ei:=w1i i (by omega);by_cases aE:i<n
         ·have ii:(i:Int)<n:=by omega
          obtain⟨q,bX,g,off,bI,hg,us,bH,aH⟩:=(HK.o wr hw.o).get (i:=i) (by rw[<- HN.o];exact aE);have bQ:=I (hv.o.trans (DV dV ks i q bX));have gN:=I (IH.o q wr us (bU bX) bH);obtain⟨xa,xn,xc,rfl,-⟩:=bH.form;have s0:=aH 0 _ rfl;have s1:=aH 1 _ rfl;have s2:=aH 2 _ rfl;have s3:=aH 3 _ rfl;have s4:=aH 4 _ rfl;rw[Nat.add_zero] at s0;have x4:=hx.o.cell 4 _ rfl;have mT:=I bI;clear aH bH bX hv;subst bI;generalize dV q=rb at *;generalize q.k=q0 at *;generalize aB q.l=q1 at *;generalize aB q.r=q2 at *;generalize q.c=q3 at *
          go_wp2_with fail
          refine gN.o.mono ?_;rintro e w3 ⟨rfl,b3⟩;have B3:=hw.tr b3;have X3:=I (hx.o.step b3);clear b3 hw hx s0 s1 s2 s3 s4 x4 gN
          cases rb with
          | false =>
           have HX:Hid (V=false):=I (by rw[bQ.o];rfl)
           go_wp2
           go_ret;exact⟨aF HX.o.symm,B3.o⟩
          | true =>
           have HX:Hid (V=(ks.drop (i+1)).all dV):=I (by rw[bQ.o,cH])
           go_wp2
           go_roundw
           case rel=>exact⟨i+1,by go_num,by omega,B3,X3,HX⟩
           case measure=>simp only[intOf];omega
         ·have ii:¬ ((i:Int)<n):=by omega
          have HX:Hid (V=true):=I (by rw[hv.o,List.drop_eq_nil_of_le (by rw[<- HN.o];omega)];rfl)
          go_wp2
          go_ret;exact⟨aF HX.o.symm,hw.o⟩
     ·skip
      have HX:Hid (V=false):=I (by rw[HV.o,show mK 3 n c=false from by unfold mK;simp[cn]];rfl);obtain⟨x0,x1,x2,x3,x4⟩:=X1.o.c5
      go_wp2
      go_ret;exact⟨aF HX.o.symm,B1.o⟩
    ·skip
     have HX:Hid (V=false):=I (by rw[HV.o,show mK 3 n c=false from by unfold mK;simp[c1]];rfl);obtain⟨x0,x1,x2,x3,x4⟩:=X1.o.c5
     go_wp2
     go_ret;exact⟨aF HX.o.symm,B1.o⟩
   ·have k3b:(κ==3)=false:=beq_eq_false_iff_ne.mpr k3
    have k0b:(κ==0)=false:=beq_eq_false_iff_ne.mpr j7.o;have HX:Hid (V=false):=I (by rw[HV.o,show mK κ n c=false from by unfold mK;simp[k1b,k2b,k3b]];rfl);obtain⟨x0,x1,x2,x3,x4⟩:=X1.o.c5
    go_wp2
    go_ret;exact⟨aF HX.o.symm,B1.o⟩
theorem VQ:∀ (N:Nat) (p:Prd) (w:World) (P:Nat->Prop) (vs:List Value),cO p<=N->N<=1000000->tI p->cK w P p vs ->
  Calls Tryz.prog 171 #[.agg vs.toArray] w fun e w'=>e = .returned (.bool (dV p))/\RowKit.Below w.heap.size w w'
 | 0,p,w,P,vs,hN,_,_,_=>by have:=Hl p;omega
 | N+1,.mk κ l r c ks,w,P,vs,hN,hM,hb,h=>by
  have uL:cR ks<=N:=by unfold cO at hN;omega
  have hl:=Hm ks;unfold cK at h;unfold tI at hb;obtain⟨ao,cap,rfl,hk⟩:=h;by_cases hκ:κ=0
  ·subst hκ
   have:=Zti w l r c ao ks.length cap hb.1 hb.2.1;rw[Vy,if_pos rfl];exact this
  ·exact VP w P κ l r c ks ao ks.length cap hκ rfl (by omega) hk (fun q w' us hq bH=>VQ N q w' P us (by
    obtain⟨i,hi⟩:=pV.1 hq;have:=Hn ks i q hi
    omega) (by omega) ((Vw ks).1 hb.2.2 q hq) bH)
theorem VT(M L:Nat)(h:∀ q,kJ M L q<=M->oH q<=L):∀ (ks:List Prd) (n:Nat),mL M L n ks<=M->yK ks<=L
 | [],n,_=>by rw[yK];exact Nat.zero_le _
 | q::qs,n,hn=>by
  rw[mL] at hn;rw[yK];by_cases hm:n<=M
  ·rw[if_pos hm] at hn
   have h1:=DZ M L qs (n+kJ M L q);have h2:=h q (by omega);have h3:=VT M L h qs _ hn;omega
  ·rw[if_neg hm] at hn
   exact absurd hn hm
theorem VU(M:Nat):∀ (L:Nat) (p:Prd),kJ M L p<=M->oH p<=L
 | 0,p,h=>by rw[kJ] at h;omega
 | L+1,.mk k l r c ks,h=>by
  rw[kJ] at h;rw[oH];have:=VT M L (VU M L) ks 1 h;omega
theorem VV(p:Prd):vP p 100 12=sA p:=by
 rw[Bool.eq_iff_iff];constructor
 ·intro h
  have h1:=VJ h;have h2:=VU 100 12 p (of_decide_eq_true h);unfold sA;rw[dB,decide_eq_true_eq,decide_eq_true_eq];exact⟨h1,h2⟩
 ·intro h
  unfold sA at h;rw[dB,decide_eq_true_eq,decide_eq_true_eq] at h;exact Z3b h.1 h.2
theorem Ztj(p:Prd)(w:World)(P:Nat->Prop)(vs:List Value)(hN:cO p<=1000000)(hb:tI p)(aQ:vO p)(h:cK w P p vs) :
  Calls Tryz.prog 124 #[.agg vs.toArray] w fun e w'=>e = .returned (.bool (jV p))/\RowKit.Below w.heap.size w w':=by
 obtain⟨xa,xn,xc,rfl,-⟩:=h.form;have bx:=(aG w.heap.size w).alloc (aO _) (.cells #[.int .i64 p.k,.string (aB p.l),.string (aB p.r),.int .i64 p.c,.slice xa xn xc] 54);have B1:=I bx;have X1:=hnw w 54 [.int .i64 p.k,.string (aB p.l),.string (aB p.r),.int .i64 p.c,.slice xa xn xc];have HF:=I (fun W (hW:RowKit.Below w.heap.size w W)=>DP p 100 12 (by omega) (by omega) W P _ aQ (h.below hW));rw[VV p] at HF;have HG:=I (fun W (hW:RowKit.Below w.heap.size w W)=>VQ (cO p) p W P _ (aO _) hN hb (h.below hW));have HV:Hid (jV p=(sA p&&dV p)):=I rfl;obtain⟨V,hV⟩:=exq (jV p);rw[hV] at HV ⊢;clear bx h hb aQ hN hV;generalize sA p=s at *;generalize dV p=f at *;generalize p.k=q0 at *;generalize aB p.l=q1 at *;generalize aB p.r=q2 at *;generalize p.c=q3 at *
 go_enter Tryz.func124,Tryz.ntmps124
 go_upto_region 1 with(fail)
 generalize w.alloc (.cells #[.int .i64 q0,.string q1,.string q2,.int .i64 q3,.slice xa xn xc] 54)=w1 at *
 go_wp2_with (refine wpList_load_row rfl 54 (.tmp 1) rfl w.heap.size ?a1 54 #[.int .i64 q0,.string q1,.string q2,.int .i64 q3,.slice xa xn xc] (0,0) _ X1.o Tryz.underlying54 rfl (oT _ rfl) ?_;(case a1=>rfl))
 refine(HF.o w1 B1.o).mono ?_;rintro e w2 ⟨rfl,b2⟩;have B2:=B1.tr b2;have X2:=I (X1.o.step b2);clear b2 X1 B1
 cases s with
 | false =>
  go_wp2
  go_ret;exact⟨aF (by rw[HV.o];rfl),B2.o⟩
 | true =>
  go_wp2_with (refine Ba (by rfl) 54 (.tmp 1) rfl w.heap.size (by rfl) 54 #[.int .i64 q0,.string q1,.string q2,.int .i64 q3,.slice xa xn xc] (0,0) _ X2.o Tryz.underlying54 rfl (oT _ rfl) ?_)
  refine(HG.o w2 B2.o).mono ?_;rintro e w3 ⟨rfl,b3⟩;have B3:=B2.tr b3;clear b3
  go_wp2
  go_ret;exact⟨aF (by rw[HV.o];rfl),B3.o⟩
end
end Go.Proofs.YtbcgocpihobjnaaGreatDoor
