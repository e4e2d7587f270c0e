import Derived.BigQuiet
import Derived.Test.YtbcgocpihobjnaaGreatDoorCC8
import Derived.Test.YtbcgocpihobjnaaGreatDoorCC0
set_option linter.all false
namespace Go.Proofs.YtbcgocpihobjnaaGreatDoor
open Go.RowKit
def Zae(w:World)(g:Nat)(t:TypeId)(cs:List Value):Prop:=w.heap[g]?=some (.cells cs.toArray t (0,0))
theorem Zae.new(w:World)(t:TypeId)(cs:List Value):Zae (w.alloc (.cells cs.toArray t)) w.heap.size t cs:=heap_alloc_new w _
theorem Zae.lt{w:World}{g:Nat}{t:TypeId}{cs:List Value}(h:Zae w g t cs):g<w.heap.size:=(Array.getElem?_eq_some_iff.1 h).1
theorem Zae.below{w w':World}{g B:Nat}{t:TypeId}{cs:List Value}(h:Zae w g t cs)(hb:Below B w w')(hg:g<B):Zae w' g t cs:=by
 unfold Zae;rw[hb.block g hg];exact h
theorem Zae.step{w w':World}{g:Nat}{t:TypeId}{cs:List Value}(h:Zae w g t cs)(hb:Below w.heap.size w w'):Zae w' g t cs:=h.below hb h.lt
theorem Zae.only{w w':World}{g:Nat}{p:Nat->Prop}{t:TypeId}{cs:List Value}(h:Zae w g t cs)(hb:Only w w' p)(hg:¬ p g):Zae w' g t cs:=by
 unfold Zae;rw[hb.block g h.lt hg];exact h
theorem Zae.upd{w w':World}{g g':Nat}{t:TypeId}{cs:List Value}(h:Zae w g t cs)(hu:Upd w w' g')(hg:g≠g'):Zae w' g t cs:=by
 unfold Zae;rw[hu.block g hg];exact h
theorem Zae.cell{w:World}{g:Nat}{t:TypeId}{cs:List Value}(h:Zae w g t cs)(i:Nat)(v:Value)(hv:cs[i]?=some v):w.cell? ⟨g,i,none⟩=some v:=by
 unfold Zae at h;simp[World.cell?,h,hv]
theorem Zae.warm{w:World}{g:Nat}{t:TypeId}{cs:List Value}(h:Zae w g t cs)(i:Nat):w.frozen? ⟨g,i,none⟩=false:=by
 unfold Zae at h;simp[World.frozen?,h]
theorem Zae.set{w:World}{g:Nat}{t:TypeId}{cs:List Value}(h:Zae w g t cs)(i:Nat)(v:Value):Zae (w.setCell ⟨g,i,none⟩ v) g t (cs.set i v):=by
 have:=Go.heap_setCell_same w g i _ _ v h;unfold Zae;rw[this,List.setIfInBounds_toArray]
end Go.Proofs.YtbcgocpihobjnaaGreatDoor
