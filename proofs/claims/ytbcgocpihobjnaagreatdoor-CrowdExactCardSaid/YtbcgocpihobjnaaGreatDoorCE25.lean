import Derived.Sort.KeysCollected
import Derived.Shelf.SlIter.Nil
import Derived.Shelf.SortM.Plain
import Derived.Shelf.SortM.SortNone
import Derived.Ground.GgzProg
import Derived.Ground.SlgmProg
import Derived.Test.YtbcgocpihobjnaaGreatDoorProg
import Derived.Test.YtbcgocpihobjnaaGreatDoorCE24
import Derived.Test.YtbcgocpihobjnaaGreatDoorCE0
import Derived.Test.YtbcgocpihobjnaaGreatDoorCE22
import Derived.Test.YtbcgocpihobjnaaGreatDoorCE16
import Derived.Test.YtbcgocpihobjnaaGreatDoorCE23
set_option linter.all false
namespace Go.Proofs.YtbcgocpihobjnaaGreatDoor
section
open Go.RowKit Go.Sort Go.Maps
def Zfe (w:World) (P:Nat→Prop) (l:List Prd) (ao:Option Addr):Prop:=l=[]∨∃ g off,ao=some ⟨g,off,none⟩∧P g∧g<w.heap.size∧Zba w P l g off
end
section
theorem Zuw (M L:Nat):∀ (ks:List Prd) (n:Nat),n≤Zjn M L n ks
 | [],n=>by rw[Zjn];exact Nat.le_refl _
 | q::qs,n=>by
  rw[Zjn];split
  ·exact Nat.le_trans (Nat.le_add_right _ _) (Zuw M L qs _)
  ·exact Nat.le_refl _
theorem Zqw (M L:Nat) (h:∀ q,Zio M L q≤M→Zdw q≤Zio M L q):∀ (ks:List Prd) (n:Nat),Zjn M L n ks≤M→n+Zei ks≤Zjn M L n ks
 | [],n,_=>by rw[Zjn,Zei];exact Nat.le_refl _
 | q::qs,n,hn=>by
  rw[Zjn] at hn ⊢;rw[Zei];by_cases hm:n≤M
  ·rw[if_pos hm] at hn ⊢
   have h1:=Zuw M L qs (n+Zio M L q);have h2:=h q (by omega);have h3:=Zqw M L h qs _ hn;omega
  ·rw[if_neg hm] at hn
   exact absurd hn hm
theorem Zqx (M:Nat):∀ (L:Nat) (p:Prd),Zio M L p≤M→Zdw p≤Zio M L p
 | 0,p,h=>by rw[Zio] at h;omega
 | L+1,.mk k l r c ks,h=>by
  rw[Zio] at h ⊢;rw[Zdw];exact Zqw M L (Zqx M L) ks 1 h
theorem Z02 {p:Prd} {M L:Nat} (h:Zs9 p M L=true):Zdw p≤M:=by
 have h1:=of_decide_eq_true h;exact Nat.le_trans (Zqx M L p h1) h1
theorem Zqy {l:List Nat} (h:Zho l=true):NmB l:=⟨(Zlr h).1,by have:=(Zlr h).2;omega⟩
mutual
theorem Zqz:∀ p,Zcl p=true→Zz7 p
 | .mk k l r c ks,h=>by
  unfold Zcl at h;unfold Zz7;by_cases hk:k=0
  ·rw[if_pos hk] at h
   simp only[Bool.and_eq_true] at h;obtain⟨⟨⟨h1,h2⟩,h3⟩,h4⟩:=h
   have hkn:ks=[]:=by simpa using h1
   subst hkn;exact⟨Zqy h2,Zqy h3,by unfold Zyb;trivial⟩
  ·rw[if_neg hk] at h
   simp only[Bool.and_eq_true,beq_iff_eq] at h;obtain⟨⟨⟨h1,rfl⟩,rfl⟩,h2⟩:=h;exact⟨⟨by simp,by simp⟩,⟨by simp,by simp⟩,Zob ks h2⟩
theorem Zob:∀ ks,Zjk ks=true→Zyb ks
 | [],_=>by unfold Zyb;trivial
 | p::ps,h=>by
  unfold Zjk at h;rw[Bool.and_eq_true] at h;unfold Zyb;exact⟨Zqz p h.1,Zob ps h.2⟩
end
end
section
open Go.RowKit Go.Sort
def Zak {α:Type} (f:α→List Value) (w:World) (ao:Option Addr) (l:List α):Prop:=l=[]∨∃ g off,ao=some ⟨g,off,none⟩∧g<w.heap.size∧Zay w g off (l.flatMap f)
theorem Zak.below {α:Type} {f:α→List Value} {w w':World} {ao:Option Addr} {l:List α} (h:Zak f w ao l) (hb:Below w.heap.size w w'):Zak f w' ao l:=by
 rcases h with h | ⟨g,off,h1,h2,h3⟩
 ·exact .inl h
 ·exact .inr ⟨g,off,h1,Nat.lt_of_lt_of_le h2 hb.size,h3.of_block (hb.block g h2)⟩
theorem Zak.at {α:Type} {f:α→List Value} {k:Nat} (hf:∀ x,(f x).length=k) {w:World} {ao:Option Addr} {l:List α} (h:Zak f w ao l) (i:Nat) (x:α) (hx:l[i]?=some x) :
  ∃ g off,ao=some ⟨g,off,none⟩∧g<w.heap.size∧∀ j u,(f x)[j]?=some u→w.cell? ⟨g,off+i*k+j,none⟩=some u:=by
 rcases h with h | ⟨g,off,h1,h2,h3⟩
 ·rw[h] at hx;simp at hx
 ·refine⟨g,off,h1,h2,fun j u hj=>?_⟩
  have hl:j<k:=by rw[← hf x];exact (List.getElem?_eq_some_iff.1 hj).1
  have:=h3 (i*k+j) u (by rw[Zc4 f k hf l i j x hx hl];exact hj)
  rwa [show off+(i*k+j)=off+i*k+j by omega] at this
theorem OwnK.flatR {α:Type} {f:α→List Value} {w:World} {B k n cap:Nat} {ao:Option Addr} {l:List α} (h:OwnK w B k n cap (l.flatMap f) ao) (hk:∀ x,(f x).length=k) (hn:n=l.length):Zak f w ao l:=by
 cases h with
 | nil h h1 h2=>exact .inl (List.eq_nil_of_length_eq_zero (by omega))
 | «at» g off h h1 h2 h3=>exact .inr ⟨g,off,rfl,h.lt,h.cells⟩
end
end Go.Proofs.YtbcgocpihobjnaaGreatDoor
