import Derived.Sort.KeysCollected
import Derived.Test.YtbcgocpihobjnaaGreatDoorCR24
import Derived.Test.YtbcgocpihobjnaaGreatDoorCR0
import Derived.Test.YtbcgocpihobjnaaGreatDoorCR22
import Derived.Test.YtbcgocpihobjnaaGreatDoorCR16
import Derived.Test.YtbcgocpihobjnaaGreatDoorCR23
set_option linter.unusedVariables false
set_option linter.unusedSimpArgs false
namespace Go.Proofs.YtbcgocpihobjnaaGreatDoor
section
open Go.RowKit Go.Sort Go.Maps
def Zel (w:World) (P:Nat→Prop) (l:List Prd) (ao:Option Addr):Prop:=l=[]∨∃ g off,ao=some ⟨g,off,none⟩∧P g∧g<w.heap.size∧Za4 w P l g off
end
section
theorem Zre (M L:Nat):∀ (ks:List Prd) (n:Nat),n≤Zh4 M L n ks
 | [],n=>by rw[Zh4];exact Nat.le_refl _
 | q::qs,n=>by
  rw[Zh4]
  split
  ·exact Nat.le_trans (Nat.le_add_right _ _) (Zre M L qs _)
  ·exact Nat.le_refl _
theorem Znx (M L:Nat) (h:∀ q,Zhb M L q≤M→Zdb q≤Zhb M L q):∀ (ks:List Prd) (n:Nat),Zh4 M L n ks≤M→n+Zdu ks≤Zh4 M L n ks
 | [],n,_=>by rw[Zh4,Zdu];exact Nat.le_refl _
 | q::qs,n,hn=>by
  rw[Zh4] at hn ⊢
  rw[Zdu]
  by_cases hm:n≤M
  ·rw[if_pos hm] at hn ⊢
   have h1:=Zre M L qs (n+Zhb M L q)
   have h2:=h q (by omega)
   have h3:=Znx M L h qs _ hn
   omega
  ·rw[if_neg hm] at hn
   exact absurd hn hm
theorem Zny (M:Nat):∀ (L:Nat) (p:Prd),Zhb M L p≤M→Zdb p≤Zhb M L p
 | 0,p,h=>by rw[Zhb] at h;omega
 | L+1,.mk k l r c ks,h=>by
  rw[Zhb] at h ⊢
  rw[Zdb]
  exact Znx M L (Zny M L) ks 1 h
theorem Zwp {p:Prd} {M L:Nat} (h:Zp1 p M L=true):Zdb p≤M:=by
 have h1:=of_decide_eq_true h
 exact Nat.le_trans (Zny M L p h1) h1
theorem Znz {l:List Nat} (h:Zgg l=true):NmB l:=⟨(Zjq h).1,by have:=(Zjq h).2;omega⟩
mutual
theorem Zn0:∀ p,Zb6 p=true→Zvu p
 | .mk k l r c ks,h=>by
  unfold Zb6 at h
  unfold Zvu
  by_cases hk:k=0
  ·rw[if_pos hk] at h
   simp only[Bool.and_eq_true] at h
   obtain⟨⟨⟨h1,h2⟩,h3⟩,h4⟩:=h
   have hkn:ks=[]:=by simpa using h1
   subst hkn
   exact⟨Znz h2,Znz h3,by unfold Zuf;trivial⟩
  ·rw[if_neg hk] at h
   simp only[Bool.and_eq_true,beq_iff_eq] at h
   obtain⟨⟨⟨h1,rfl⟩,rfl⟩,h2⟩:=h
   exact⟨⟨by simp,by simp⟩,⟨by simp,by simp⟩,Zlo ks h2⟩
theorem Zlo:∀ ks,Zh1 ks=true→Zuf ks
 | [],_=>by unfold Zuf;trivial
 | p::ps,h=>by
  unfold Zh1 at h
  rw[Bool.and_eq_true] at h
  unfold Zuf
  exact⟨Zn0 p h.1,Zlo ps h.2⟩
end
end
section
open Go.RowKit Go.Sort
def Zak {α:Type} (f:α→List Value) (w:World) (ao:Option Addr) (l:List α):Prop:=l=[]∨∃ g off,ao=some ⟨g,off,none⟩∧g<w.heap.size∧Zar w g off (l.flatMap f)
theorem Zak.below {α:Type} {f:α→List Value} {w w':World} {ao:Option Addr} {l:List α} (h:Zak f w ao l) (hb:Below w.heap.size w w'):Zak f w' ao l:=by
 rcases h with h | ⟨g,off,h1,h2,h3⟩
 ·exact .inl h
 ·exact .inr ⟨g,off,h1,Nat.lt_of_lt_of_le h2 hb.size,h3.of_block (hb.block g h2)⟩
theorem Zak.at {α:Type} {f:α→List Value} {k:Nat} (hf:∀ x,(f x).length=k) {w:World} {ao:Option Addr} {l:List α} (h:Zak f w ao l) (i:Nat) (x:α) (hx:l[i]?=some x) :
  ∃ g off,ao=some ⟨g,off,none⟩∧g<w.heap.size∧∀ j u,(f x)[j]?=some u→w.cell? ⟨g,off+i*k+j,none⟩=some u:=by
 rcases h with h | ⟨g,off,h1,h2,h3⟩
 ·rw[h] at hx;simp at hx
 ·refine⟨g,off,h1,h2,fun j u hj=>?_⟩
  have hl:j<k:=by rw[← hf x];exact (List.getElem?_eq_some_iff.1 hj).1
  have:=h3 (i*k+j) u (by rw[Zb2 f k hf l i j x hx hl];exact hj)
  rwa [show off+(i*k+j)=off+i*k+j by omega] at this
theorem OwnK.flatR {α:Type} {f:α→List Value} {w:World} {B k n cap:Nat} {ao:Option Addr} {l:List α} (h:OwnK w B k n cap (l.flatMap f) ao) (hk:∀ x,(f x).length=k) (hn:n=l.length):Zak f w ao l:=by
 cases h with
 | nil h h1 h2=>exact .inl (List.eq_nil_of_length_eq_zero (by omega))
 | «at» g off h h1 h2 h3=>exact .inr ⟨g,off,rfl,h.lt,h.cells⟩
end
end Go.Proofs.YtbcgocpihobjnaaGreatDoor
