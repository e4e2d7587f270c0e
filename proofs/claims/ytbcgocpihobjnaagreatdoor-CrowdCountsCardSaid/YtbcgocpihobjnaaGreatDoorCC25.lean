import Derived.Sort.KeysCollected
import Derived.Shelf.SlIter.Nil
import Derived.Shelf.SortM.Plain
import Derived.Shelf.SortM.SortNone
import Derived.Ground.GgzProg
import Derived.Ground.SlgmProg
import Derived.Test.YtbcgocpihobjnaaGreatDoorProg
import Derived.Test.YtbcgocpihobjnaaGreatDoorCC24
import Derived.Test.YtbcgocpihobjnaaGreatDoorCC0
import Derived.Test.YtbcgocpihobjnaaGreatDoorCC22
import Derived.Test.YtbcgocpihobjnaaGreatDoorCC16
import Derived.Test.YtbcgocpihobjnaaGreatDoorCC23
set_option linter.all false
namespace Go.Proofs.YtbcgocpihobjnaaGreatDoor
section
open Go.RowKit Go.Sort Go.Maps
def Zfu(w:World)(P:Nat->Prop)(l:List Prd)(ao:Option Addr):Prop:=l=[]\/∃ g off,ao=some ⟨g,off,none⟩/\P g/\g<w.heap.size/\Zbe w P l g off
def Zk6(s:List Nat):Value:=.string (Zad s)
end
section
open Go.RowKit Go.Sort Go.Maps
def Zey(w:World)(ao:Option Addr)(l:List (List Nat)):Prop:=l=[]\/∃ g off,ao=some ⟨g,off,none⟩/\g<w.heap.size/\Zav w g off (l.map Zk6)
theorem Zey.below{w w':World}{ao:Option Addr}{l:List (List Nat)}(h:Zey w ao l)(hb:RowKit.Below w.heap.size w w'):Zey w' ao l:=by
 rcases h with h | ⟨g,off,h1,h2,h3⟩
 ·exact .inl h
 ·exact .inr ⟨g,off,h1,Nat.lt_of_lt_of_le h2 hb.size,h3.of_block (hb.block g h2)⟩
theorem OwnK.strsR{w:World}{B n cap:Nat}{ao:Option Addr}{l:List (List Nat)}(h:OwnK w B 1 n cap (l.map Zk6) ao)(hn:n=l.length):Zey w ao l:=by
 cases h with
 | nil h h1 h2=>exact .inl (List.eq_nil_of_length_eq_zero (by omega))
 | «at» g off h h1 h2 h3=>exact .inr ⟨g,off,rfl,h.lt,h.cells⟩
theorem Zey.at{w:World}{ao:Option Addr}{l:List (List Nat)}(h:Zey w ao l)(i:Nat)(s:List Nat)(hs:l[i]?=some s):∃ g off,ao=some ⟨g,off,none⟩/\g<w.heap.size/\w.cell? ⟨g,off+i,none⟩=some (.string (Zad s)):=by
 rcases h with h | ⟨g,off,h1,h2,h3⟩
 ·rw[h] at hs;simp at hs
 ·exact⟨g,off,h1,h2,h3 i _ (by rw[List.getElem?_map,hs];rfl)⟩
end
section
theorem Zp3(M L:Nat):∀ (ks:List Prd) (n:Nat),n<=Zia M L n ks
 | [],n=>by rw[Zia];exact Nat.le_refl _
 | q::qs,n=>by
  rw[Zia];split
  ·exact Nat.le_trans (Nat.le_add_right _ _) (Zp3 M L qs _)
  ·exact Nat.le_refl _
theorem Zrq(M L:Nat)(h:∀ q,Zgg M L q<=M->Zb0 q<=Zgg M L q):∀ (ks:List Prd) (n:Nat),Zia M L n ks<=M->n+Zb2 ks<=Zia M L n ks
 | [],n,_=>by rw[Zia,Zb2];exact Nat.le_refl _
 | q::qs,n,hn=>by
  rw[Zia] at hn ⊢;rw[Zb2];by_cases hm:n<=M
  ·rw[if_pos hm] at hn ⊢
   have h1:=Zp3 M L qs (n+Zgg M L q);have h2:=h q (by omega);have h3:=Zrq M L h qs _ hn;omega
  ·rw[if_neg hm] at hn
   exact absurd hn hm
theorem Zrr(M:Nat):∀ (L:Nat) (p:Prd),Zgg M L p<=M->Zb0 p<=Zgg M L p
 | 0,p,h=>by rw[Zgg] at h;omega
 | L+1,.mk k l r c ks,h=>by
  rw[Zgg] at h ⊢;rw[Zb0];exact Zrq M L (Zrr M L) ks 1 h
theorem Zv9{p:Prd}{M L:Nat}(h:Zp1 p M L=true):Zb0 p<=M:=by
 have h1:=of_decide_eq_true h;exact Nat.le_trans (Zrr M L p h1) h1
theorem Zwa(M L:Nat)(h:∀ q,Zb0 q<=M->Zi1 q<=L->Zgg M L q=Zb0 q):∀ (ks:List Prd) (n:Nat),n+Zb2 ks<=M->Zsr ks<=L->Zia M L n ks=n+Zb2 ks
 | [],n,_,_=>by rw[Zia,Zb2];rfl
 | q::qs,n,hn,hd=>by
  rw[Zb2] at hn ⊢;rw[Zsr] at hd;rw[Zia,if_pos (by omega),h q (by omega) (by omega),Zwa M L h qs _ (by omega) (by omega)];omega
theorem Zwb(M:Nat):∀ (L:Nat) (p:Prd),Zb0 p<=M->Zi1 p<=L->Zgg M L p=Zb0 p
 | 0,.mk k l r c ks,_,hd=>by rw[Zi1] at hd;omega
 | L+1,.mk k l r c ks,hn,hd=>by
  rw[Zgg];rw[Zb0] at hn ⊢;rw[Zi1] at hd;exact Zwa M L (Zwb M L) ks 1 hn (by omega)
theorem Z3f{p:Prd}{M L:Nat}(hc:Zb0 p<=M)(hd:Zi1 p<=L):Zp1 p M L=true:=by
 unfold Zp1;rw[Zwb M L p hc hd];exact decide_eq_true hc
theorem Zrs{l:List Nat}(h:Zil l=true):NmB l:=⟨(Zmy h).1,by have:=(Zmy h).2;omega⟩
mutual
theorem Zm5:∀ p,Zay p=true->Zon p
 | .mk k l r c ks,h=>by
  unfold Zay at h;unfold Zon;by_cases hk:k=0
  ·rw[if_pos hk] at h
   simp only[Bool.and_eq_true] at h;obtain⟨⟨⟨h1,h2⟩,h3⟩,h4⟩:=h
   have hkn:ks=[]:=by simpa using h1
   subst hkn;exact⟨Zrs h2,Zrs h3,by unfold Zuq;trivial⟩
  ·rw[if_neg hk] at h
   simp only[Bool.and_eq_true,beq_iff_eq] at h;obtain⟨⟨⟨h1,rfl⟩,rfl⟩,h2⟩:=h;exact⟨⟨by simp,by simp⟩,⟨by simp,by simp⟩,Zou ks h2⟩
theorem Zou:∀ ks,Zim ks=true->Zuq ks
 | [],_=>by unfold Zuq;trivial
 | p::ps,h=>by
  unfold Zim at h;rw[Bool.and_eq_true] at h;unfold Zuq;exact⟨Zm5 p h.1,Zou ps h.2⟩
end
end
section
open Go.RowKit Go.Sort
def Zan{α:Type}(f:α->List Value)(w:World)(ao:Option Addr)(l:List α):Prop:=l=[]\/∃ g off,ao=some ⟨g,off,none⟩/\g<w.heap.size/\Zav w g off (l.flatMap f)
theorem Zan.below{α:Type}{f:α->List Value}{w w':World}{ao:Option Addr}{l:List α}(h:Zan f w ao l)(hb:Below w.heap.size w w'):Zan f w' ao l:=by
 rcases h with h | ⟨g,off,h1,h2,h3⟩
 ·exact .inl h
 ·exact .inr ⟨g,off,h1,Nat.lt_of_lt_of_le h2 hb.size,h3.of_block (hb.block g h2)⟩
theorem Zan.at{α:Type}{f:α->List Value}{k:Nat}(hf:∀ x,(f x).length=k){w:World}{ao:Option Addr}{l:List α}(h:Zan f w ao l)(i:Nat)(x:α)(hx:l[i]?=some x) :
  ∃ g off,ao=some ⟨g,off,none⟩/\g<w.heap.size/\∀ j u,(f x)[j]?=some u->w.cell? ⟨g,off+i*k+j,none⟩=some u:=by
 rcases h with h | ⟨g,off,h1,h2,h3⟩
 ·rw[h] at hx;simp at hx
 ·refine⟨g,off,h1,h2,fun j u hj=>?_⟩
  have hl:j<k:=by rw[<- hf x];exact(List.getElem?_eq_some_iff.1 hj).1
  have:=h3 (i*k+j) u (by rw[Zdg f k hf l i j x hx hl];exact hj)
  rwa [show off+(i*k+j)=off+i*k+j by omega] at this
theorem OwnK.flatR{α:Type}{f:α->List Value}{w:World}{B k n cap:Nat}{ao:Option Addr}{l:List α}(h:OwnK w B k n cap (l.flatMap f) ao)(hk:∀ x,(f x).length=k)(hn:n=l.length):Zan f w ao l:=by
 cases h with
 | nil h h1 h2=>exact .inl (List.eq_nil_of_length_eq_zero (by omega))
 | «at» g off h h1 h2 h3=>exact .inr ⟨g,off,rfl,h.lt,h.cells⟩
end
end Go.Proofs.YtbcgocpihobjnaaGreatDoor
