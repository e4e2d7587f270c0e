import Derived.BigQuiet
import Derived.Test.YtbcgocpihobjnaaGreatDoorCL8
import Derived.Test.YtbcgocpihobjnaaGreatDoorCL0
set_option linter.all false
namespace Go.Proofs.YtbcgocpihobjnaaGreatDoor
open Go.RowKit
def aC(w:World)(g:Nat)(t:TypeId)(cs:List Value):Prop:=w.heap[g]?=some (.cells cs.toArray t (0,0))
theorem aC.new(w:World)(t:TypeId)(cs:List Value):aC (w.alloc (.cells cs.toArray t)) w.heap.size t cs:=heap_alloc_new w _
theorem aC.lt{w:World}{g:Nat}{t:TypeId}{cs:List Value}(h:aC w g t cs):g<w.heap.size:=(lI.1 h).1
theorem aC.below{w w':World}{g B:Nat}{t:TypeId}{cs:List Value}(h:aC w g t cs)(hb:Below B w w')(hg:g<B):aC w' g t cs:=by
 unfold aC;rw[hb.block g hg];exact h
theorem aC.step{w w':World}{g:Nat}{t:TypeId}{cs:List Value}(h:aC w g t cs)(hb:Below w.heap.size w w'):aC w' g t cs:=h.below hb h.lt
theorem aC.only{w w':World}{g:Nat}{p:Nat->Prop}{t:TypeId}{cs:List Value}(h:aC w g t cs)(hb:Only w w' p)(hg:¬ p g):aC w' g t cs:=by
 unfold aC;rw[hb.block g h.lt hg];exact h
theorem aC.upd{w w':World}{g g':Nat}{t:TypeId}{cs:List Value}(h:aC w g t cs)(hu:Upd w w' g')(hg:g≠g'):aC w' g t cs:=by
 unfold aC;rw[hu.block g hg];exact h
theorem aC.cell{w:World}{g:Nat}{t:TypeId}{cs:List Value}(h:aC w g t cs)(i:Nat)(v:Value)(hv:cs[i]?=some v):w.cell? ⟨g,i,none⟩=some v:=by
 unfold aC at h;simp[World.cell?,h,hv]
theorem _root_.Go.RowKit.Hid.tr{w w1 w2:World}(h:Hid (Below w.heap.size w w1))(b:Below w1.heap.size w1 w2):Hid (Below w.heap.size w w2):=I (h.o.trans (b.mono h.o.size))
theorem _root_.Go.RowKit.Hid.st{w w':World}{g:Nat}{t:TypeId}{cs:List Value}(h:Hid (aC w g t cs))(b:Below w.heap.size w w'):Hid (aC w' g t cs):=I (h.o.step b)
theorem bwA(w:World)(o:Obj):Below w.heap.size w (w.alloc o):=(aG w.heap.size w).alloc (aO _) o
theorem hnw(w:World)(t:TypeId)(cs:List Value):Hid (aC (w.alloc (.cells cs.toArray t)) w.heap.size t cs):=I (heap_alloc_new w _)
theorem w1i(i:Nat)(h:i<9223372036854775807):IntKind.i64.wrap ((i:Int)+1)=((i+1:Nat):Int):=fU _ (by omega)
theorem exq.{u} {α:Sort u} (a:α):∃ v,a=v:=⟨_,rfl⟩
theorem aC.c3{w:World}{g:Nat}{t:TypeId}{a b c:Value}{l:List Value}(h:aC w g t (a::b::c::l)):w.cell? ⟨g,0,none⟩=some a/\w.cell? ⟨g,1,none⟩=some b/\w.cell? ⟨g,2,none⟩=some c:=⟨h.cell 0 _ rfl,h.cell 1 _ rfl,h.cell 2 _ rfl⟩
theorem aC.c4{w:World}{g:Nat}{t:TypeId}{a b c d:Value}{l:List Value}(h:aC w g t (a::b::c::d::l)):w.cell? ⟨g,0,none⟩=some a/\w.cell? ⟨g,1,none⟩=some b/\w.cell? ⟨g,2,none⟩=some c/\w.cell? ⟨g,3,none⟩=some d:=⟨h.cell 0 _ rfl,h.cell 1 _ rfl,h.cell 2 _ rfl,h.cell 3 _ rfl⟩
theorem aC.c5{w:World}{g:Nat}{t:TypeId}{a b c d e:Value}{l:List Value}(h:aC w g t (a::b::c::d::e::l)):w.cell? ⟨g,0,none⟩=some a/\w.cell? ⟨g,1,none⟩=some b/\w.cell? ⟨g,2,none⟩=some c/\w.cell? ⟨g,3,none⟩=some d/\w.cell? ⟨g,4,none⟩=some e:=⟨h.cell 0 _ rfl,h.cell 1 _ rfl,h.cell 2 _ rfl,h.cell 3 _ rfl,h.cell 4 _ rfl⟩
theorem aC.warm{w:World}{g:Nat}{t:TypeId}{cs:List Value}(h:aC w g t cs)(i:Nat):w.frozen? ⟨g,i,none⟩=false:=by
 unfold aC at h;simp[World.frozen?,h]
theorem aC.set{w:World}{g:Nat}{t:TypeId}{cs:List Value}(h:aC w g t cs)(i:Nat)(v:Value):aC (w.setCell ⟨g,i,none⟩ v) g t (cs.set i v):=by
 have:=Go.heap_setCell_same w g i _ _ v h;unfold aC;rw[this,List.setIfInBounds_toArray]
end Go.Proofs.YtbcgocpihobjnaaGreatDoor
