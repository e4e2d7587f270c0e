import Derived.Deep.MidRow
import Derived.Test.YtbcgocpihobjnaaGreatDoorCL20
set_option linter.all false
namespace Go.Proofs.YtbcgocpihobjnaaGreatDoor
section
open Go.RowKit Go.Sort
theorem OwnK.reads{w:World}{B k n cap g off:Nat}{xs:List Value}(h:OwnK w B k n cap xs (some ⟨g,off,none⟩)):dD w g off xs/\g<w.heap.size/\B<=g/\(∀ j,j<cap*k->w.frozen? ⟨g,off+j,none⟩=false):=by
 cases h with
 | «at» g off h h1 h2 h3=>exact⟨h.cells,h.lt,h.own,h.warm⟩
theorem Only.setCells_at(w:World)(g:Nat):∀ (o:Nat) (vs:List Value),Only w (w.setCells g o vs) (· = g)
 | _,[]=>Only.refl w _
 | o,v::vs=>((Only.refl w (· = g)).setCell (a:=⟨g,o,none⟩) v rfl).trans (Only.setCells_at (w.setCell ⟨g,o,none⟩ v) g (o+1) vs)
end
section
open Go.RowKit Go.Sort
def Vt(w:World)(ao:Option Addr)(l:List Ky):Prop:=l=[]\/∃ g off,ao=some ⟨g,off,none⟩/\g<w.heap.size/\dD w g off (l.flatMap kyC)
theorem Vt.below{w w':World}{ao:Option Addr}{l:List Ky}(h:Vt w ao l)(hb:Below w.heap.size w w'):Vt w' ao l:=by
 rcases h with h | ⟨g,off,h1,h2,h3⟩
 ·exact .inl h
 ·exact .inr ⟨g,off,h1,Nat.lt_of_lt_of_le h2 hb.size,h3.of_block (hb.block g h2)⟩
theorem Vt.at{w:World}{ao:Option Addr}{l:List Ky}(h:Vt w ao l)(i:Nat)(k:Ky)(hk:l[i]?=some k):∃ g off,ao=some ⟨g,off,none⟩/\g<w.heap.size /\
  w.cell? ⟨g,off+i*3,none⟩=some (.string (aB k.l))/\w.cell? ⟨g,off+i*3+1,none⟩=some (.string (aB k.r))/\w.cell? ⟨g,off+i*3+2,none⟩=some (.int .i64 k.c):=by
 rcases h with h | ⟨g,off,h1,h2,h3⟩
 ·rw[h] at hk;simp at hk
 ·exact⟨g,off,h1,h2,Zp5 h3 i k hk⟩
theorem OwnK.keysR{w:World}{B n cap:Nat}{ao:Option Addr}{l:List Ky}(h:OwnK w B 3 n cap (l.flatMap kyC) ao)(hn:n=l.length):Vt w ao l:=by
 cases h with
 | nil h h1 h2=>exact .inl (List.eq_nil_of_length_eq_zero (by omega))
 | «at» g off h h1 h2 h3=>exact .inr ⟨g,off,rfl,h.lt,h.cells⟩
theorem DM{α:Type}(l:List α)(i:Nat)(x:α)(h:l[i]?=some x):l.drop i=x::l.drop (i+1):=by
 obtain⟨hi,rfl⟩:=List.getElem?_eq_some_iff.1 h;exact List.drop_eq_getElem_cons hi
end
end Go.Proofs.YtbcgocpihobjnaaGreatDoor
