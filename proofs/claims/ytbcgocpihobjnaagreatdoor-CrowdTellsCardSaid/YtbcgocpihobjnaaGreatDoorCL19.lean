import Derived.Shelf.SlSortCmp.WholeK
import Derived.Test.YtbcgocpihobjnaaGreatDoorCL18
set_option linter.all false
namespace Go.Proofs.YtbcgocpihobjnaaGreatDoor
open Go.RowKit Go.Shelf Go.Sort
section
variable {α:Type} [Inhabited α] (enc:α->List Value) (k:Nat)
theorem Zkj(hk:∀ x,(enc x).length=k){w:World}{g off:Nat}{l:List α}(hr:dD w g off (l.flatMap enc))(hw:∀ j,j<l.length*k->w.frozen? ⟨g,off+j,none⟩=false):HoldsK enc k w g off l.toArray:=by
 intro j hj;rw[size_flatK,List.size_toArray] at hj;refine⟨?_,hw j hj⟩
 have rh:0<k:=by
  rcases Nat.eq_zero_or_pos k with h | h
  ·subst h;simp at hj
  ·exact h
 have hi:j/k<l.length:=Nat.div_lt_of_lt_mul (by rw[Nat.mul_comm];exact hj);have hm:j%k<k:=Nat.mod_lt _ rh
 have hd:(j/k)*k+j%k=j:=by rw[Nat.mul_comm];exact Nat.div_add_mod j k
 have hx:l[j/k]?=some l[j/k]:=List.getElem?_eq_getElem hi;have hf:=Ho enc k hk l (j/k) (j%k) _ hx hm;rw[hd] at hf
 have aE:j%k<(enc l[j/k]).length:=by rw[hk];exact hm
 rw[List.getElem?_eq_getElem aE] at hf;have hc:=hr j _ hf;rw[hc,get_flatK _ _ _ _ (by simpa using hj)]
 congr 1
 have e1:(l.toArray)[j/k]! = l[j/k]:=by rw[getElem!_pos l.toArray (j/k) (by simpa using hi)];simp
 rw[e1,getElem!_pos (enc l[j/k]) (j%k) aE];rfl
theorem Zkk(hk:∀ x,(enc x).length=k){w:World}{g off:Nat}{d:Array α}(h:HoldsK enc k w g off d):dD w g off (d.toList.flatMap enc):=by
 intro j u hj
 have hl:j<d.size*k:=by
  have:=(List.getElem?_eq_some_iff.1 hj).1
  rwa [Fi enc k hk,Array.length_toList] at this
 have rh:0<k:=by
  rcases Nat.eq_zero_or_pos k with h | h
  ·subst h;simp at hl
  ·exact h
 have hi:j/k<d.size:=Nat.div_lt_of_lt_mul (by rw[Nat.mul_comm];exact hl);have hm:j%k<k:=Nat.mod_lt _ rh
 have hd:(j/k)*k+j%k=j:=by rw[Nat.mul_comm];exact Nat.div_add_mod j k
 have hx:d.toList[j/k]?=some d[j/k]:=by rw[Array.getElem?_toList];exact Array.getElem?_eq_getElem hi
 have hf:=Ho enc k hk d.toList (j/k) (j%k) _ hx hm;rw[hd,hj] at hf
 have aE:j%k<(enc d[j/k]).length:=by rw[hk];exact hm
 rw[List.getElem?_eq_getElem aE] at hf;have hc:=(h j (by rw[size_flatK];exact hl)).1;rw[hc,get_flatK _ _ _ _ hl];have e1:d[j/k]! = d[j/k]:=getElem!_pos d (j/k) hi;rw[e1,getElem!_pos (enc d[j/k]) (j%k) aE];exact hf.symm
theorem OwnK.holds{w:World}{B n cap g off:Nat}{l:List α}(hk:∀ x,(enc x).length=k)(h:OwnK w B k n cap (l.flatMap enc) (some ⟨g,off,none⟩)):HoldsK enc k w g off l.toArray:=by
 cases h with
 | «at» g off h h1 h2 h3 =>
  refine Zkj enc k hk h.cells (fun j hj=>h.warm j ?_);rw[Fi enc k hk] at h1;have:=h.le;rw[Fi enc k hk] at this;omega
theorem OwnK.sorted{w:World}{B n cap g off m:Nat}{l:List α}{d:Array α}{os:Array Obj}(hk:∀ x,(enc x).length=k)(h:OwnK w B k n cap (l.flatMap enc) (some ⟨g,off,none⟩))(hd:d.size=l.length) :
  OwnK (sortWorldK enc k w g off m d os) B k n cap (d.toList.flatMap enc) (some ⟨g,off,none⟩)/\Only w (sortWorldK enc k w g off m d os) (· = g):=by
 have hH:=h.holds enc k hk;have aQ:=h.count
 cases h with
 | «at» g off h h1 h2 h3 =>
  have aE:=h.lt;have hH2:=holdsK_sortWorldK_c enc k w g off l.toArray d m os hH aE (by simpa using hd)
  have jZ:(d.toList.flatMap enc).length=n*k:=by rw[Fi enc k hk,Array.length_toList,hd,<- Fi enc k hk l];exact aQ
  have hg:∀ a:Addr,a.block<w.heap.size->(sortWorldK enc k w g off m d os).cell? a=(putRow id (Sort.ahead w m) g off (flatK enc k d)).cell? a:=fun a ha =>
   World.cell?_of_block (heap_grow_old _ _ (by rw[size_putRowK];exact ha))
  have ri:∀ a:Addr,a.block<w.heap.size->(sortWorldK enc k w g off m d os).frozen? a=(putRow id (Sort.ahead w m) g off (flatK enc k d)).frozen? a:=fun a ha =>
   World.frozen?_of_block (heap_grow_old _ _ (by rw[size_putRowK];exact ha))
  refine⟨.at g off ⟨h.own,Nat.lt_of_lt_of_le aE (size_sortWorldK_c enc k w g off m d os),by rw[jZ];exact Nat.mul_le_mul_right k h3,Zkk enc k hk hH2,fun j hj=>?_,fun j hj=>?_⟩ jZ h2 h3,?_⟩
  ·by_cases nJ:j<d.size*k
   ·rw[(hH2 j (by rw[size_flatK];exact nJ)).1];rfl
   ·rw[hg _ aE,cell?_putRow_other _ _ _ _ _ _ (.inr (.inr (by rw[size_flatK];show off+d.size*k<=off+j;omega)))]
    exact h.room j hj
  ·rw[ri _ aE,frozen?_putRow]
   exact h.warm j hj
  ·refine⟨rfl,rfl,rfl,size_sortWorldK_c enc k w g off m d os,fun i hi cT=>?_⟩
   have e1:(sortWorldK enc k w g off m d os).heap[i]?=(putRow id (Sort.ahead w m) g off (flatK enc k d)).heap[i]?:=heap_grow_old _ _ (by rw[size_putRowK];exact hi);rw[e1];show(w.heap.modify g _)[i]?=_;rw[Array.getElem?_modify,if_neg (fun e=>cT e.symm)]
end
end Go.Proofs.YtbcgocpihobjnaaGreatDoor
