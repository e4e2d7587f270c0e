import Derived.Sort.KeysCollected
import Derived.Shelf.SlIter.Nil
import Derived.Shelf.SortM.Plain
import Derived.Shelf.SortM.SortNone
import Derived.Ground.GgzProg
import Derived.Ground.SlgmProg
import Derived.Test.YtbcgocpihobjnaaGreatDoorProg
import Derived.Test.YtbcgocpihobjnaaGreatDoorCM24
import Derived.Test.YtbcgocpihobjnaaGreatDoorCM0
import Derived.Test.YtbcgocpihobjnaaGreatDoorCM22
import Derived.Test.YtbcgocpihobjnaaGreatDoorCM16
import Derived.Test.YtbcgocpihobjnaaGreatDoorCM23
set_option linter.all false
namespace Go.Proofs.YtbcgocpihobjnaaGreatDoor
section
open Go.RowKit Go.Sort Go.Maps
def Ze8 (w:World) (P:Nat→Prop) (l:List Prd) (ao:Option Addr):Prop:=l=[]∨∃ g off,ao=some ⟨g,off,none⟩∧P g∧g<w.heap.size∧Za7 w P l g off
end
section
theorem Ztw (M L:Nat):∀ (ks:List Prd) (n:Nat),n≤Zi6 M L n ks
 | [],n=>by rw[Zi6];exact Nat.le_refl _
 | q::qs,n=>by
  rw[Zi6];split
  ·exact Nat.le_trans (Nat.le_add_right _ _) (Ztw M L qs _)
  ·exact Nat.le_refl _
theorem Zp1 (M L:Nat) (h:∀ q,Zii M L q≤M→Zdn q≤Zii M L q):∀ (ks:List Prd) (n:Nat),Zi6 M L n ks≤M→n+Zed ks≤Zi6 M L n ks
 | [],n,_=>by rw[Zi6,Zed];exact Nat.le_refl _
 | q::qs,n,hn=>by
  rw[Zi6] at hn ⊢;rw[Zed];by_cases hm:n≤M
  ·rw[if_pos hm] at hn ⊢
   have h1:=Ztw M L qs (n+Zii M L q);have h2:=h q (by omega);have h3:=Zp1 M L h qs _ hn;omega
  ·rw[if_neg hm] at hn
   exact absurd hn hm
theorem Zp2 (M:Nat):∀ (L:Nat) (p:Prd),Zii M L p≤M→Zdn p≤Zii M L p
 | 0,p,h=>by rw[Zii] at h;omega
 | L+1,.mk k l r c ks,h=>by
  rw[Zii] at h ⊢;rw[Zdn];exact Zp1 M L (Zp2 M L) ks 1 h
theorem Zz7 {p:Prd} {M L:Nat} (h:Zsc p M L=true):Zdn p≤M:=by
 have h1:=of_decide_eq_true h;exact Nat.le_trans (Zp2 M L p h1) h1
theorem Zp3 {l:List Nat} (h:Zhe l=true):NmB l:=⟨(Zkp h).1,by have:=(Zkp h).2;omega⟩
mutual
theorem Zp4:∀ p,Zcf p=true→Zy5 p
 | .mk k l r c ks,h=>by
  unfold Zcf at h;unfold Zy5;by_cases hk:k=0
  ·rw[if_pos hk] at h
   simp only[Bool.and_eq_true] at h;obtain⟨⟨⟨h1,h2⟩,h3⟩,h4⟩:=h
   have hkn:ks=[]:=by simpa using h1
   subst hkn;exact⟨Zp3 h2,Zp3 h3,by unfold Zxc;trivial⟩
  ·rw[if_neg hk] at h
   simp only[Bool.and_eq_true,beq_iff_eq] at h;obtain⟨⟨⟨h1,rfl⟩,rfl⟩,h2⟩:=h;exact⟨⟨by simp,by simp⟩,⟨by simp,by simp⟩,Zng ks h2⟩
theorem Zng:∀ ks,Zi3 ks=true→Zxc ks
 | [],_=>by unfold Zxc;trivial
 | p::ps,h=>by
  unfold Zi3 at h;rw[Bool.and_eq_true] at h;unfold Zxc;exact⟨Zp4 p h.1,Zng ps h.2⟩
end
end
section
open Go.RowKit Go.Sort
def Zal {α:Type} (f:α→List Value) (w:World) (ao:Option Addr) (l:List α):Prop:=l=[]∨∃ g off,ao=some ⟨g,off,none⟩∧g<w.heap.size∧Zav w g off (l.flatMap f)
theorem Zal.below {α:Type} {f:α→List Value} {w w':World} {ao:Option Addr} {l:List α} (h:Zal f w ao l) (hb:Below w.heap.size w w'):Zal f w' ao l:=by
 rcases h with h | ⟨g,off,h1,h2,h3⟩
 ·exact .inl h
 ·exact .inr ⟨g,off,h1,Nat.lt_of_lt_of_le h2 hb.size,h3.of_block (hb.block g h2)⟩
theorem Zal.at {α:Type} {f:α→List Value} {k:Nat} (hf:∀ x,(f x).length=k) {w:World} {ao:Option Addr} {l:List α} (h:Zal f w ao l) (i:Nat) (x:α) (hx:l[i]?=some x) :
  ∃ g off,ao=some ⟨g,off,none⟩∧g<w.heap.size∧∀ j u,(f x)[j]?=some u→w.cell? ⟨g,off+i*k+j,none⟩=some u:=by
 rcases h with h | ⟨g,off,h1,h2,h3⟩
 ·rw[h] at hx;simp at hx
 ·refine⟨g,off,h1,h2,fun j u hj=>?_⟩
  have hl:j<k:=by rw[← hf x];exact (List.getElem?_eq_some_iff.1 hj).1
  have:=h3 (i*k+j) u (by rw[Zcr f k hf l i j x hx hl];exact hj)
  rwa [show off+(i*k+j)=off+i*k+j by omega] at this
theorem OwnK.flatR {α:Type} {f:α→List Value} {w:World} {B k n cap:Nat} {ao:Option Addr} {l:List α} (h:OwnK w B k n cap (l.flatMap f) ao) (hk:∀ x,(f x).length=k) (hn:n=l.length):Zal f w ao l:=by
 cases h with
 | nil h h1 h2=>exact .inl (List.eq_nil_of_length_eq_zero (by omega))
 | «at» g off h h1 h2 h3=>exact .inr ⟨g,off,rfl,h.lt,h.cells⟩
end
end Go.Proofs.YtbcgocpihobjnaaGreatDoor
