import Derived.Sort.KeysCollected
import Derived.Shelf.SlIter.Nil
import Derived.Shelf.SortM.Plain
import Derived.Shelf.SortM.SortNone
import Derived.Ground.GgzProg
import Derived.Ground.SlgmProg
import Derived.Test.YtbcgocpihobjnaaGreatDoorProg
import Derived.Test.YtbcgocpihobjnaaGreatDoorCH25
import Derived.Test.YtbcgocpihobjnaaGreatDoorCH0
import Derived.Test.YtbcgocpihobjnaaGreatDoorCH23
import Derived.Test.YtbcgocpihobjnaaGreatDoorCH17
import Derived.Test.YtbcgocpihobjnaaGreatDoorCH24
set_option linter.unusedVariables false
set_option linter.unusedSimpArgs false
namespace Go.Proofs.YtbcgocpihobjnaaGreatDoor
section
open Go.RowKit Go.Sort Go.Maps
def Zeq (w:World) (P:Nat→Prop) (l:List Prd) (ao:Option Addr):Prop:=l=[]∨∃ g off,ao=some ⟨g,off,none⟩∧P g∧g<w.heap.size∧Za8 w P l g off
end
section
theorem Zsb (M L:Nat):∀ (ks:List Prd) (n:Nat),n≤Zil M L n ks
 | [],n=>by rw[Zil];exact Nat.le_refl _
 | q::qs,n=>by
  rw[Zil]
  split
  ·exact Nat.le_trans (Nat.le_add_right _ _) (Zsb M L qs _)
  ·exact Nat.le_refl _
theorem Zou (M L:Nat) (h:∀ q,Zho M L q≤M→Zdf q≤Zho M L q):∀ (ks:List Prd) (n:Nat),Zil M L n ks≤M→n+Zdz ks≤Zil M L n ks
 | [],n,_=>by rw[Zil,Zdz];exact Nat.le_refl _
 | q::qs,n,hn=>by
  rw[Zil] at hn ⊢
  rw[Zdz]
  by_cases hm:n≤M
  ·rw[if_pos hm] at hn ⊢
   have h1:=Zsb M L qs (n+Zho M L q)
   have h2:=h q (by omega)
   have h3:=Zou M L h qs _ hn
   omega
  ·rw[if_neg hm] at hn
   exact absurd hn hm
theorem Zov (M:Nat):∀ (L:Nat) (p:Prd),Zho M L p≤M→Zdf p≤Zho M L p
 | 0,p,h=>by rw[Zho] at h;omega
 | L+1,.mk k l r c ks,h=>by
  rw[Zho] at h ⊢
  rw[Zdf]
  exact Zou M L (Zov M L) ks 1 h
theorem Zxv {p:Prd} {M L:Nat} (h:Zqy p M L=true):Zdf p≤M:=by
 have h1:=of_decide_eq_true h
 exact Nat.le_trans (Zov M L p h1) h1
theorem Zow {l:List Nat} (h:Zgp l=true):NmB l:=⟨(Zjp h).1,by have:=(Zjp h).2;omega⟩
mutual
theorem Zox:∀ p,Zca p=true→Zw2 p
 | .mk k l r c ks,h=>by
  unfold Zca at h
  unfold Zw2
  by_cases hk:k=0
  ·rw[if_pos hk] at h
   simp only[Bool.and_eq_true] at h
   obtain⟨⟨⟨h1,h2⟩,h3⟩,h4⟩:=h
   have hkn:ks=[]:=by simpa using h1
   subst hkn
   exact⟨Zow h2,Zow h3,by unfold Zvc;trivial⟩
  ·rw[if_neg hk] at h
   simp only[Bool.and_eq_true,beq_iff_eq] at h
   obtain⟨⟨⟨h1,rfl⟩,rfl⟩,h2⟩:=h
   exact⟨⟨by simp,by simp⟩,⟨by simp,by simp⟩,Zl6 ks h2⟩
theorem Zl6:∀ ks,Zii ks=true→Zvc ks
 | [],_=>by unfold Zvc;trivial
 | p::ps,h=>by
  unfold Zii at h
  rw[Bool.and_eq_true] at h
  unfold Zvc
  exact⟨Zox p h.1,Zl6 ps h.2⟩
end
end
section
open Go.RowKit Go.Sort
def Zaj {α:Type} (f:α→List Value) (w:World) (ao:Option Addr) (l:List α):Prop:=l=[]∨∃ g off,ao=some ⟨g,off,none⟩∧g<w.heap.size∧Zau w g off (l.flatMap f)
theorem Zaj.below {α:Type} {f:α→List Value} {w w':World} {ao:Option Addr} {l:List α} (h:Zaj f w ao l) (hb:Below w.heap.size w w'):Zaj f w' ao l:=by
 rcases h with h | ⟨g,off,h1,h2,h3⟩
 ·exact .inl h
 ·exact .inr ⟨g,off,h1,Nat.lt_of_lt_of_le h2 hb.size,h3.of_block (hb.block g h2)⟩
theorem Zaj.at {α:Type} {f:α→List Value} {k:Nat} (hf:∀ x,(f x).length=k) {w:World} {ao:Option Addr} {l:List α} (h:Zaj f w ao l) (i:Nat) (x:α) (hx:l[i]?=some x) :
  ∃ g off,ao=some ⟨g,off,none⟩∧g<w.heap.size∧∀ j u,(f x)[j]?=some u→w.cell? ⟨g,off+i*k+j,none⟩=some u:=by
 rcases h with h | ⟨g,off,h1,h2,h3⟩
 ·rw[h] at hx;simp at hx
 ·refine⟨g,off,h1,h2,fun j u hj=>?_⟩
  have hl:j<k:=by rw[← hf x];exact (List.getElem?_eq_some_iff.1 hj).1
  have:=h3 (i*k+j) u (by rw[Zco f k hf l i j x hx hl];exact hj)
  rwa [show off+(i*k+j)=off+i*k+j by omega] at this
theorem OwnK.flatR {α:Type} {f:α→List Value} {w:World} {B k n cap:Nat} {ao:Option Addr} {l:List α} (h:OwnK w B k n cap (l.flatMap f) ao) (hk:∀ x,(f x).length=k) (hn:n=l.length):Zaj f w ao l:=by
 cases h with
 | nil h h1 h2=>exact .inl (List.eq_nil_of_length_eq_zero (by omega))
 | «at» g off h h1 h2 h3=>exact .inr ⟨g,off,rfl,h.lt,h.cells⟩
end
end Go.Proofs.YtbcgocpihobjnaaGreatDoor
