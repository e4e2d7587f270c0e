import Derived.Shelf.SlSortCmp.WholeK
import Derived.Test.YtbcgocpihobjnaaGreatDoorCC18
set_option linter.all false
namespace Go.Proofs.YtbcgocpihobjnaaGreatDoor
open Go.RowKit Go.Shelf Go.Sort
section
variable {α:Type} [Inhabited α] (enc:α->List Value) (k:Nat)
theorem Zk9(hk:∀ x,(enc x).length=k){w:World}{g off:Nat}{l:List α}(hr:Zav w g off (l.flatMap enc))(hw:∀ j,j<l.length*k->w.frozen? ⟨g,off+j,none⟩=false):HoldsK enc k w g off l.toArray:=by
 intro j hj;rw[size_flatK,List.size_toArray] at hj;refine⟨?_,hw j hj⟩
 have hkp:0<k:=by
  rcases Nat.eq_zero_or_pos k with h | h
  ·subst h;simp at hj
  ·exact h
 have hi:j/k<l.length:=Nat.div_lt_of_lt_mul (by rw[Nat.mul_comm];exact hj);have hm:j%k<k:=Nat.mod_lt _ hkp
 have hd:(j/k)*k+j%k=j:=by rw[Nat.mul_comm];exact Nat.div_add_mod j k
 have hx:l[j/k]?=some l[j/k]:=List.getElem?_eq_getElem hi;have hf:=Zdg enc k hk l (j/k) (j%k) _ hx hm;rw[hd] at hf
 have hlt:j%k<(enc l[j/k]).length:=by rw[hk];exact hm
 rw[List.getElem?_eq_getElem hlt] at hf;have hc:=hr j _ hf;rw[hc,get_flatK _ _ _ _ (by simpa using hj)]
 congr 1
 have e1:(l.toArray)[j/k]! = l[j/k]:=by rw[getElem!_pos l.toArray (j/k) (by simpa using hi)];simp
 rw[e1,getElem!_pos (enc l[j/k]) (j%k) hlt];rfl
theorem Zla(hk:∀ x,(enc x).length=k){w:World}{g off:Nat}{d:Array α}(h:HoldsK enc k w g off d):Zav w g off (d.toList.flatMap enc):=by
 intro j u hj
 have hl:j<d.size*k:=by
  have:=(List.getElem?_eq_some_iff.1 hj).1
  rwa [Zb9 enc k hk,Array.length_toList] at this
 have hkp:0<k:=by
  rcases Nat.eq_zero_or_pos k with h | h
  ·subst h;simp at hl
  ·exact h
 have hi:j/k<d.size:=Nat.div_lt_of_lt_mul (by rw[Nat.mul_comm];exact hl);have hm:j%k<k:=Nat.mod_lt _ hkp
 have hd:(j/k)*k+j%k=j:=by rw[Nat.mul_comm];exact Nat.div_add_mod j k
 have hx:d.toList[j/k]?=some d[j/k]:=by rw[Array.getElem?_toList];exact Array.getElem?_eq_getElem hi
 have hf:=Zdg enc k hk d.toList (j/k) (j%k) _ hx hm;rw[hd,hj] at hf
 have hlt:j%k<(enc d[j/k]).length:=by rw[hk];exact hm
 rw[List.getElem?_eq_getElem hlt] at hf;have hc:=(h j (by rw[size_flatK];exact hl)).1;rw[hc,get_flatK _ _ _ _ hl];have e1:d[j/k]! = d[j/k]:=getElem!_pos d (j/k) hi;rw[e1,getElem!_pos (enc d[j/k]) (j%k) hlt];exact hf.symm
theorem OwnK.holds{w:World}{B n cap g off:Nat}{l:List α}(hk:∀ x,(enc x).length=k)(h:OwnK w B k n cap (l.flatMap enc) (some ⟨g,off,none⟩)):HoldsK enc k w g off l.toArray:=by
 cases h with
 | «at» g off h h1 h2 h3 =>
  refine Zk9 enc k hk h.cells (fun j hj=>h.warm j ?_);rw[Zb9 enc k hk] at h1;have:=h.le;rw[Zb9 enc k hk] at this;omega
theorem OwnK.sorted{w:World}{B n cap g off m:Nat}{l:List α}{d:Array α}{os:Array Obj}(hk:∀ x,(enc x).length=k)(h:OwnK w B k n cap (l.flatMap enc) (some ⟨g,off,none⟩))(hd:d.size=l.length) :
  OwnK (sortWorldK enc k w g off m d os) B k n cap (d.toList.flatMap enc) (some ⟨g,off,none⟩)/\Only w (sortWorldK enc k w g off m d os) (· = g):=by
 have hH:=h.holds enc k hk;have hlen:=h.count
 cases h with
 | «at» g off h h1 h2 h3 =>
  have hlt:=h.lt;have hH2:=holdsK_sortWorldK_c enc k w g off l.toArray d m os hH hlt (by simpa using hd)
  have hfl:(d.toList.flatMap enc).length=n*k:=by rw[Zb9 enc k hk,Array.length_toList,hd,<- Zb9 enc k hk l];exact hlen
  have hg:∀ a:Addr,a.block<w.heap.size->(sortWorldK enc k w g off m d os).cell? a=(putRow id (Sort.ahead w m) g off (flatK enc k d)).cell? a:=fun a ha =>
   World.cell?_of_block (heap_grow_old _ _ (by rw[size_putRowK];exact ha))
  have hgf:∀ a:Addr,a.block<w.heap.size->(sortWorldK enc k w g off m d os).frozen? a=(putRow id (Sort.ahead w m) g off (flatK enc k d)).frozen? a:=fun a ha =>
   World.frozen?_of_block (heap_grow_old _ _ (by rw[size_putRowK];exact ha))
  refine⟨.at g off ⟨h.own,Nat.lt_of_lt_of_le hlt (size_sortWorldK_c enc k w g off m d os),by rw[hfl];exact Nat.mul_le_mul_right k h3,Zla enc k hk hH2,fun j hj=>?_,fun j hj=>?_⟩ hfl h2 h3,?_⟩
  ·by_cases hj2:j<d.size*k
   ·rw[(hH2 j (by rw[size_flatK];exact hj2)).1];rfl
   ·rw[hg _ hlt,cell?_putRow_other _ _ _ _ _ _ (.inr (.inr (by rw[size_flatK];show off+d.size*k<=off+j;omega)))]
    exact h.room j hj
  ·rw[hgf _ hlt,frozen?_putRow]
   exact h.warm j hj
  ·refine⟨rfl,rfl,rfl,size_sortWorldK_c enc k w g off m d os,fun i hi hne=>?_⟩
   have e1:(sortWorldK enc k w g off m d os).heap[i]?=(putRow id (Sort.ahead w m) g off (flatK enc k d)).heap[i]?:=heap_grow_old _ _ (by rw[size_putRowK];exact hi);rw[e1];show(w.heap.modify g _)[i]?=_;rw[Array.getElem?_modify,if_neg (fun e=>hne e.symm)]
end
end Go.Proofs.YtbcgocpihobjnaaGreatDoor
