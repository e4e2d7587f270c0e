import Derived.Sort.KeysCollected
import Derived.Shelf.SlIter.Nil
import Derived.Shelf.SortM.Plain
import Derived.Shelf.SortM.SortNone
import Derived.Ground.GgzProg
import Derived.Ground.SlgmProg
import Derived.Test.YtmkdfbelbcocpaaGreatDoorProg
import Derived.Test.YtmkdfbelbcocpaaGreatDoorHP27
import Derived.Test.YtmkdfbelbcocpaaGreatDoorHP18
import Derived.Test.YtmkdfbelbcocpaaGreatDoorHP28
set_option linter.unusedVariables false
set_option linter.unusedSimpArgs false
namespace Go.Proofs.YtmkdfbelbcocpaaGreatDoor
section
theorem couL_ge (M L:Nat):∀ (ks:List Prd) (n:Nat),n≤couL M L n ks
 | [],n=>by rw[couL];exact Nat.le_refl _
 | q::qs,n=>by
  rw[couL]
  split
  ·exact Nat.le_trans (Nat.le_add_right _ _) (couL_ge M L qs _)
  ·exact Nat.le_refl _
theorem couL_cnt (M L:Nat) (h:∀ q,couP M L q≤M→cntP q≤couP M L q):∀ (ks:List Prd) (n:Nat),couL M L n ks≤M→n+cntL ks≤couL M L n ks
 | [],n,_=>by rw[couL,cntL];exact Nat.le_refl _
 | q::qs,n,hn=>by
  rw[couL] at hn ⊢
  rw[cntL]
  by_cases hm:n≤M
  ·rw[if_pos hm] at hn ⊢
   have h1:=couL_ge M L qs (n+couP M L q)
   have h2:=h q (by omega)
   have h3:=couL_cnt M L h qs _ hn
   omega
  ·rw[if_neg hm] at hn
   exact absurd hn hm
theorem couP_cnt (M:Nat):∀ (L:Nat) (p:Prd),couP M L p≤M→cntP p≤couP M L p
 | 0,p,h=>by rw[couP] at h;omega
 | L+1,.mk k l r c ks,h=>by
  rw[couP] at h ⊢
  rw[cntP]
  exact couL_cnt M L (couP_cnt M L) ks 1 h
theorem few_cnt {p:Prd} {M L:Nat} (h:fewP p M L=true):cntP p≤M:=by
 have h1:=of_decide_eq_true h
 exact Nat.le_trans (couP_cnt M L p h1) h1
theorem couL_eq (M L:Nat) (h:∀ q,cntP q≤M→depP q≤L→couP M L q=cntP q):∀ (ks:List Prd) (n:Nat),n+cntL ks≤M→depL ks≤L→couL M L n ks=n+cntL ks
 | [],n,_,_=>by rw[couL,cntL];rfl
 | q::qs,n,hn,hd=>by
  rw[cntL] at hn ⊢
  rw[depL] at hd
  rw[couL,if_pos (by omega),h q (by omega) (by omega),couL_eq M L h qs _ (by omega) (by omega)]
  omega
theorem couP_eq (M:Nat):∀ (L:Nat) (p:Prd),cntP p≤M→depP p≤L→couP M L p=cntP p
 | 0,.mk k l r c ks,_,hd=>by rw[depP] at hd;omega
 | L+1,.mk k l r c ks,hn,hd=>by
  rw[couP]
  rw[cntP] at hn ⊢
  rw[depP] at hd
  exact couL_eq M L (couP_eq M L) ks 1 hn (by omega)
theorem few_of {p:Prd} {M L:Nat} (hc:cntP p≤M) (hd:depP p≤L):fewP p M L=true:=by
 unfold fewP
 rw[couP_eq M L p hc hd]
 exact decide_eq_true hc
mutual
theorem len_of:∀ p,cntP p≤1000000→LenP p
 | .mk k l r c ks,h=>by
  rw[cntP] at h
  unfold LenP
  have:=len_cntL ks
  exact⟨by omega,len_ofL ks (by omega)⟩
theorem len_ofL:∀ ks,cntL ks≤1000000→LenL ks
 | [],_=>by unfold LenL;trivial
 | p::ps,h=>by
  rw[cntL] at h
  unfold LenL
  exact⟨len_of p (by omega),len_ofL ps (by omega)⟩
end
theorem optN_byt {l:List Nat} (h:optN l=true):NmB l:=⟨(optN_ok h).1,by have:=(optN_ok h).2;omega⟩
mutual
theorem byt_form:∀ p,formP p=true→BytP p
 | .mk k l r c ks,h=>by
  unfold formP at h
  unfold BytP
  by_cases hk:k=0
  ·rw[if_pos hk] at h
   simp only[Bool.and_eq_true] at h
   obtain⟨⟨⟨h1,h2⟩,h3⟩,h4⟩:=h
   have hkn:ks=[]:=by simpa using h1
   subst hkn
   exact⟨optN_byt h2,optN_byt h3,by unfold BytL;trivial⟩
  ·rw[if_neg hk] at h
   simp only[Bool.and_eq_true,beq_iff_eq] at h
   obtain⟨⟨⟨h1,rfl⟩,rfl⟩,h2⟩:=h
   exact⟨⟨by simp,by simp⟩,⟨by simp,by simp⟩,byt_formL ks h2⟩
theorem byt_formL:∀ ks,formL ks=true→BytL ks
 | [],_=>by unfold BytL;trivial
 | p::ps,h=>by
  unfold formL at h
  rw[Bool.and_eq_true] at h
  unfold BytL
  exact⟨byt_form p h.1,byt_formL ps h.2⟩
end
end
section
open Go.RowKit Go.Sort Go.Maps
theorem couL_dep (M L:Nat) (h:∀ q,couP M L q≤M→depP q≤L):∀ (ks:List Prd) (n:Nat),couL M L n ks≤M→depL ks≤L
 | [],n,_=>by rw[depL];exact Nat.zero_le _
 | q::qs,n,hn=>by
  rw[couL] at hn
  rw[depL]
  by_cases hm:n≤M
  ·rw[if_pos hm] at hn
   have h1:=couL_ge M L qs (n+couP M L q)
   have h2:=h q (by omega)
   have h3:=couL_dep M L h qs _ hn
   omega
  ·rw[if_neg hm] at hn
   exact absurd hn hm
theorem couP_dep (M:Nat):∀ (L:Nat) (p:Prd),couP M L p≤M→depP p≤L
 | 0,p,h=>by rw[couP] at h;omega
 | L+1,.mk k l r c ks,h=>by
  rw[couP] at h
  rw[depP]
  have:=couL_dep M L (couP_dep M L) ks 1 h
  omega
theorem few_small (p:Prd):fewP p 100 12=smallP p:=by
 rw[Bool.eq_iff_iff]
 constructor
 ·intro h
  have h1:=few_cnt h
  have h2:=couP_dep 100 12 p (of_decide_eq_true h)
  unfold smallP
  rw[Bool.and_eq_true,decide_eq_true_eq,decide_eq_true_eq]
  exact⟨h1,h2⟩
 ·intro h
  unfold smallP at h
  rw[Bool.and_eq_true,decide_eq_true_eq,decide_eq_true_eq] at h
  exact few_of h.1 h.2
end
section
open Go.RowKit Go.Sort
theorem valid0:validP prd0=true:=by decide
theorem back_valid {l:List Nat} (hb:∀ y∈l,y<256):validP (parseF l).2.1=true:=by
 by_cases h:(parseF l).2.2.2=0
 ·exact parse_valid hb h
 ·rw[(parse_bad h).2];exact valid0
theorem same_self (p:Prd) (w:World) (P P':Nat→Prop) (vs us:List Value) (hN:cntP p≤1000000) (hb:BytP p) (h:PredC w P p vs) (h':PredC w P' p us) :
  Calls Tryz.prog 20 #[.agg vs.toArray,.agg us.toArray] w fun e w'=>e = .returned (.bool true)∧Below w.heap.size w w':=by
 have:=same_any 1000000 p p w P P' vs us hN (Nat.le_refl _) hN hb hb h h'
 rwa [(sameP_iff p p).2 rfl] at this
theorem few_true (p:Prd) (M L:Nat) (hM:M≤1000) (hL:L≤1000) (hv:validP p=true) (h1:100≤M) (h2:12≤L) (w:World) (P:Nat→Prop) (vs:List Value) (h:PredC w P p vs) :
  Calls Tryz.prog 19 #[.agg vs.toArray,.int .i64 (M:Int),.int .i64 (L:Int)] w fun e w'=>e = .returned (.bool true)∧Below w.heap.size w w':=by
 have hs:=small_of hv
 have:=few_any p M L hM hL w P vs (len_of p (by omega)) h
 rwa [few_of (M:=M) (L:=L) (by omega) (by omega)] at this
end
end Go.Proofs.YtmkdfbelbcocpaaGreatDoor
