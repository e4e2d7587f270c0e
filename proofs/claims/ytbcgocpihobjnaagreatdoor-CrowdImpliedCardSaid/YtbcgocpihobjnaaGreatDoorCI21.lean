import Derived.Deep.MidRow
import Derived.Test.YtbcgocpihobjnaaGreatDoorCI20
set_option linter.all false
namespace Go.Proofs.YtbcgocpihobjnaaGreatDoor
section
open Go.RowKit Go.Sort
theorem OwnK.reads {w:World} {B k n cap g off:Nat} {xs:List Value} (h:OwnK w B k n cap xs (some ⟨g,off,none⟩)):Zau w g off xs∧g<w.heap.size∧B≤g∧(∀ j,j<cap*k→w.frozen? ⟨g,off+j,none⟩=false):=by
 cases h with
 | «at» g off h h1 h2 h3=>exact⟨h.cells,h.lt,h.own,h.warm⟩
theorem Only.setCells_at (w:World) (g:Nat):∀ (o:Nat) (vs:List Value),Only w (w.setCells g o vs) (· = g)
 | _,[]=>Only.refl w _
 | o,v::vs=>((Only.refl w (· = g)).setCell (a:=⟨g,o,none⟩) v rfl).trans (Only.setCells_at (w.setCell ⟨g,o,none⟩ v) g (o+1) vs)
theorem Zfr (vs:Array Value) (h:vs.size=3):(Tryz.prog.info? 121).map (·.size)=some vs.size:=by
 rw[h];have:=congrArg (fun o=>o.map (fun x:Option Value×Nat×Nat=>x.2.1)) Zjj;simpa [Option.map_map,Function.comp_def] using this
end
section
open Go.RowKit Go.Sort
def Zop (w:World) (ao:Option Addr) (l:List Ky):Prop:=l=[]∨∃ g off,ao=some ⟨g,off,none⟩∧g<w.heap.size∧Zau w g off (l.flatMap kyC)
theorem Zop.below {w w':World} {ao:Option Addr} {l:List Ky} (h:Zop w ao l) (hb:Below w.heap.size w w'):Zop w' ao l:=by
 rcases h with h | ⟨g,off,h1,h2,h3⟩
 ·exact .inl h
 ·exact .inr ⟨g,off,h1,Nat.lt_of_lt_of_le h2 hb.size,h3.of_block (hb.block g h2)⟩
theorem Zop.at {w:World} {ao:Option Addr} {l:List Ky} (h:Zop w ao l) (i:Nat) (k:Ky) (hk:l[i]?=some k):∃ g off,ao=some ⟨g,off,none⟩∧g<w.heap.size ∧
  w.cell? ⟨g,off+i*3,none⟩=some (.string (Zac k.l))∧w.cell? ⟨g,off+i*3+1,none⟩=some (.string (Zac k.r))∧w.cell? ⟨g,off+i*3+2,none⟩=some (.int .i64 k.c):=by
 rcases h with h | ⟨g,off,h1,h2,h3⟩
 ·rw[h] at hk;simp at hk
 ·exact⟨g,off,h1,h2,Zqh h3 i k hk⟩
theorem OwnK.keysR {w:World} {B n cap:Nat} {ao:Option Addr} {l:List Ky} (h:OwnK w B 3 n cap (l.flatMap kyC) ao) (hn:n=l.length):Zop w ao l:=by
 cases h with
 | nil h h1 h2=>exact .inl (List.eq_nil_of_length_eq_zero (by omega))
 | «at» g off h h1 h2 h3=>exact .inr ⟨g,off,rfl,h.lt,h.cells⟩
theorem Zqi {w:World} {q:Nat} {os:Array Obj}:Below w.heap.size w (grow (w.drewN q) os):=⟨rfl,rfl,rfl,by rw[size_grow];exact Nat.le_add_right _ _,fun k hk=>heap_grow_old _ _ hk⟩
def Zpz (w w':World):Prop:=∃ q os,w'=grow (w.drewN q) os
theorem Zpz.refl (w:World):Zpz w w:=⟨0,#[],by rw[grow_empty];rfl⟩
theorem Zpz.trans {a b c:World} (h:Zpz a b) (h':Zpz b c):Zpz a c:=by
 obtain⟨q,os,rfl⟩:=h;obtain⟨q',os',rfl⟩:=h';refine⟨q+q',os++os',?_⟩;rw[← grow_grow]
 congr 1
 show World.drewN (grow (w:=_) os) q'=_;simp[World.drewN,grow,Nat.add_assoc]
theorem Zpz.alloc {a b:World} (h:Zpz a b) (o:Obj):Zpz a (b.alloc o):=h.trans ⟨0,#[o],by rw[alloc_eq_grow];rfl⟩
theorem Zpz.below {w w':World} (h:Zpz w w'):Below w.heap.size w w':=by
 obtain⟨q,os,rfl⟩:=h;exact Zqi
theorem Zb9 {α:Type} (l:List α) (i:Nat) (x:α) (h:l[i]?=some x):l.drop i=x::l.drop (i+1):=by
 obtain⟨hi,rfl⟩:=List.getElem?_eq_some_iff.1 h;exact List.drop_eq_getElem_cons hi
end
end Go.Proofs.YtbcgocpihobjnaaGreatDoor
