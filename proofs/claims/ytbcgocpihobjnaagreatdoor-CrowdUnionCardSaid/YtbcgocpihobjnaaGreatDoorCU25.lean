import Derived.Sort.KeysCollected
import Derived.Shelf.SlIter.Nil
import Derived.Shelf.SortM.Plain
import Derived.Shelf.SortM.SortNone
import Derived.Ground.GgzProg
import Derived.Ground.SlgmProg
import Derived.Test.YtbcgocpihobjnaaGreatDoorProg
import Derived.Test.YtbcgocpihobjnaaGreatDoorCU24
import Derived.Test.YtbcgocpihobjnaaGreatDoorCU0
import Derived.Test.YtbcgocpihobjnaaGreatDoorCU22
import Derived.Test.YtbcgocpihobjnaaGreatDoorCU16
import Derived.Test.YtbcgocpihobjnaaGreatDoorCU23
set_option linter.all false
namespace Go.Proofs.YtbcgocpihobjnaaGreatDoor
section
open Go.RowKit Go.Sort Go.Maps
def Ze8 (w:World) (P:Nat→Prop) (l:List Prd) (ao:Option Addr):Prop:=l=[]∨∃ g off,ao=some ⟨g,off,none⟩∧P g∧g<w.heap.size∧Zbg w P l g off
end
section
theorem Zrd (M L:Nat):∀ (ks:List Prd) (n:Nat),n≤Zh7 M L n ks
 | [],n=>by rw[Zh7];exact Nat.le_refl _
 | q::qs,n=>by
  rw[Zh7];split
  ·exact Nat.le_trans (Nat.le_add_right _ _) (Zrd M L qs _)
  ·exact Nat.le_refl _
theorem Zn0 (M L:Nat) (h:∀ q,Zhf M L q≤M→Zde q≤Zhf M L q):∀ (ks:List Prd) (n:Nat),Zh7 M L n ks≤M→n+Zdw ks≤Zh7 M L n ks
 | [],n,_=>by rw[Zh7,Zdw];exact Nat.le_refl _
 | q::qs,n,hn=>by
  rw[Zh7] at hn ⊢;rw[Zdw];by_cases hm:n≤M
  ·rw[if_pos hm] at hn ⊢
   have h1:=Zrd M L qs (n+Zhf M L q);have h2:=h q (by omega);have h3:=Zn0 M L h qs _ hn;omega
  ·rw[if_neg hm] at hn
   exact absurd hn hm
theorem Zn1 (M:Nat):∀ (L:Nat) (p:Prd),Zhf M L p≤M→Zde p≤Zhf M L p
 | 0,p,h=>by rw[Zhf] at h;omega
 | L+1,.mk k l r c ks,h=>by
  rw[Zhf] at h ⊢;rw[Zde];exact Zn0 M L (Zn1 M L) ks 1 h
theorem Zwr {p:Prd} {M L:Nat} (h:Zp1 p M L=true):Zde p≤M:=by
 have h1:=of_decide_eq_true h;exact Nat.le_trans (Zn1 M L p h1) h1
theorem Zn2 {l:List Nat} (h:Zgj l=true):NmB l:=⟨(Zjw h).1,by have:=(Zjw h).2;omega⟩
mutual
theorem Zj4:∀ p,Zb3 p=true→Zvx p
 | .mk k l r c ks,h=>by
  unfold Zb3 at h;unfold Zvx;by_cases hk:k=0
  ·rw[if_pos hk] at h
   simp only[Bool.and_eq_true] at h;obtain⟨⟨⟨h1,h2⟩,h3⟩,h4⟩:=h
   have hkn:ks=[]:=by simpa using h1
   subst hkn;exact⟨Zn2 h2,Zn2 h3,by unfold Zub;trivial⟩
  ·rw[if_neg hk] at h
   simp only[Bool.and_eq_true,beq_iff_eq] at h;obtain⟨⟨⟨h1,rfl⟩,rfl⟩,h2⟩:=h;exact⟨⟨by simp,by simp⟩,⟨by simp,by simp⟩,Zlu ks h2⟩
theorem Zlu:∀ ks,Zh4 ks=true→Zub ks
 | [],_=>by unfold Zub;trivial
 | p::ps,h=>by
  unfold Zh4 at h;rw[Bool.and_eq_true] at h;unfold Zub;exact⟨Zj4 p h.1,Zlu ps h.2⟩
end
end
section
open Go.RowKit Go.Sort
def Zaj {α:Type} (f:α→List Value) (w:World) (ao:Option Addr) (l:List α):Prop:=l=[]∨∃ g off,ao=some ⟨g,off,none⟩∧g<w.heap.size∧Zaw w g off (l.flatMap f)
theorem Zaj.below {α:Type} {f:α→List Value} {w w':World} {ao:Option Addr} {l:List α} (h:Zaj f w ao l) (hb:Below w.heap.size w w'):Zaj f w' ao l:=by
 rcases h with h | ⟨g,off,h1,h2,h3⟩
 ·exact .inl h
 ·exact .inr ⟨g,off,h1,Nat.lt_of_lt_of_le h2 hb.size,h3.of_block (hb.block g h2)⟩
theorem Zaj.at {α:Type} {f:α→List Value} {k:Nat} (hf:∀ x,(f x).length=k) {w:World} {ao:Option Addr} {l:List α} (h:Zaj f w ao l) (i:Nat) (x:α) (hx:l[i]?=some x) :
  ∃ g off,ao=some ⟨g,off,none⟩∧g<w.heap.size∧∀ j u,(f x)[j]?=some u→w.cell? ⟨g,off+i*k+j,none⟩=some u:=by
 rcases h with h | ⟨g,off,h1,h2,h3⟩
 ·rw[h] at hx;simp at hx
 ·refine⟨g,off,h1,h2,fun j u hj=>?_⟩
  have hl:j<k:=by rw[← hf x];exact (List.getElem?_eq_some_iff.1 hj).1
  have:=h3 (i*k+j) u (by rw[Zcj f k hf l i j x hx hl];exact hj)
  rwa [show off+(i*k+j)=off+i*k+j by omega] at this
theorem OwnK.flatR {α:Type} {f:α→List Value} {w:World} {B k n cap:Nat} {ao:Option Addr} {l:List α} (h:OwnK w B k n cap (l.flatMap f) ao) (hk:∀ x,(f x).length=k) (hn:n=l.length):Zaj f w ao l:=by
 cases h with
 | nil h h1 h2=>exact .inl (List.eq_nil_of_length_eq_zero (by omega))
 | «at» g off h h1 h2 h3=>exact .inr ⟨g,off,rfl,h.lt,h.cells⟩
end
end Go.Proofs.YtbcgocpihobjnaaGreatDoor
