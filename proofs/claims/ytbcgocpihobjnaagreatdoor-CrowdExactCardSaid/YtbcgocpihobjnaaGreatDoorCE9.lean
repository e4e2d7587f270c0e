import Derived.BigQuiet
import Derived.Test.YtbcgocpihobjnaaGreatDoorCE8
import Derived.Test.YtbcgocpihobjnaaGreatDoorCE0
set_option linter.all false
namespace Go.Proofs.YtbcgocpihobjnaaGreatDoor
open Go.RowKit
def Zaf (w:World) (g:Nat) (t:TypeId) (cs:List Value):Prop:=w.heap[g]?=some (.cells cs.toArray t (0,0))
theorem Zaf.new (w:World) (t:TypeId) (cs:List Value):Zaf (w.alloc (.cells cs.toArray t)) w.heap.size t cs:=heap_alloc_new w _
theorem Zaf.lt {w:World} {g:Nat} {t:TypeId} {cs:List Value} (h:Zaf w g t cs):g<w.heap.size:=(Array.getElem?_eq_some_iff.1 h).1
theorem Zaf.below {w w':World} {g B:Nat} {t:TypeId} {cs:List Value} (h:Zaf w g t cs) (hb:Below B w w') (hg:g<B):Zaf w' g t cs:=by
 unfold Zaf;rw[hb.block g hg];exact h
theorem Zaf.step {w w':World} {g:Nat} {t:TypeId} {cs:List Value} (h:Zaf w g t cs) (hb:Below w.heap.size w w'):Zaf w' g t cs:=h.below hb h.lt
theorem Zaf.only {w w':World} {g:Nat} {p:Nat→Prop} {t:TypeId} {cs:List Value} (h:Zaf w g t cs) (hb:Only w w' p) (hg:¬ p g):Zaf w' g t cs:=by
 unfold Zaf;rw[hb.block g h.lt hg];exact h
theorem Zaf.upd {w w':World} {g g':Nat} {t:TypeId} {cs:List Value} (h:Zaf w g t cs) (hu:Upd w w' g') (hg:g≠g'):Zaf w' g t cs:=by
 unfold Zaf;rw[hu.block g hg];exact h
theorem Zaf.cell {w:World} {g:Nat} {t:TypeId} {cs:List Value} (h:Zaf w g t cs) (i:Nat) (v:Value) (hv:cs[i]?=some v):w.cell? ⟨g,i,none⟩=some v:=by
 unfold Zaf at h;simp[World.cell?,h,hv]
theorem Zaf.warm {w:World} {g:Nat} {t:TypeId} {cs:List Value} (h:Zaf w g t cs) (i:Nat):w.frozen? ⟨g,i,none⟩=false:=by
 unfold Zaf at h;simp[World.frozen?,h]
theorem Zaf.set {w:World} {g:Nat} {t:TypeId} {cs:List Value} (h:Zaf w g t cs) (i:Nat) (v:Value):Zaf (w.setCell ⟨g,i,none⟩ v) g t (cs.set i v):=by
 have:=Go.heap_setCell_same w g i _ _ v h;unfold Zaf;rw[this,List.setIfInBounds_toArray]
end Go.Proofs.YtbcgocpihobjnaaGreatDoor
