import Derived.Deep.MidRow
import Derived.Test.YtmkdfbelbcocpaaGreatDoorCD18
set_option linter.unusedVariables false
set_option linter.unusedSimpArgs false
namespace Go.Proofs.YtmkdfbelbcocpaaGreatDoor
section
open Go.RowKit Go.Sort
theorem OwnK.reads {w:World} {B k n cap g off:Nat} {xs:List Value} (h:OwnK w B k n cap xs (some ⟨g,off,none⟩)):Za3 w g off xs∧g<w.heap.size∧B≤g∧(∀ j,j<cap*k→w.frozen? ⟨g,off+j,none⟩=false):=by
 cases h with
 | «at» g off h h1 h2 h3=>exact⟨h.cells,h.lt,h.own,h.warm⟩
theorem Zui {α:Type} (f:α→List Value) (k:Nat) (hf:∀ x,(f x).length=k) (l:List α) (i:Nat) (hi:i<l.length) (y:α) (j:Nat) :
  ((l.set i y).flatMap f)[j]?=if i*k≤j∧j<i*k+k then (f y)[j-i*k]? else (l.flatMap f)[j]?:=by
 induction l generalizing i j with
 | nil=>simp at hi
 | cons x l ih =>
  have hfx:=hf x
  have hfy:=hf y
  cases i with
  | zero =>
   simp only[List.set_cons_zero,List.flatMap_cons,Nat.zero_mul,Nat.zero_le,true_and,Nat.zero_add,Nat.sub_zero]
   by_cases hj:j<k
   ·rw[if_pos hj,List.getElem?_append_left (by omega)]
   ·rw[if_neg hj,List.getElem?_append_right (by omega),List.getElem?_append_right (by omega),hfx,hfy]
  | succ i =>
   simp only[List.set_cons_succ,List.flatMap_cons]
   by_cases hj:j<k
   ·rw[List.getElem?_append_left (by omega),List.getElem?_append_left (by omega),if_neg (by rw[Nat.add_mul];omega)]
   ·rw[List.getElem?_append_right (by omega),List.getElem?_append_right (by omega),hfx,ih i (by simpa using hi) (j-k),Nat.add_mul]
    by_cases hc:i*k≤j-k∧j-k<i*k+k
    ·rw[if_pos hc,if_pos (by omega)]
     congr 1
     omega
    ·rw[if_neg hc,if_neg (by omega)]
theorem Only.setCells_at (w:World) (g:Nat):∀ (o:Nat) (vs:List Value),Only w (w.setCells g o vs) (· = g)
 | _,[]=>Only.refl w _
 | o,v::vs=>((Only.refl w (· = g)).setCell (a:=⟨g,o,none⟩) v rfl).trans (Only.setCells_at (w.setCell ⟨g,o,none⟩ v) g (o+1) vs)
theorem OwnK.store {α:Type} (f:α→List Value) (k:Nat) (hf:∀ x,(f x).length=k) {w:World} {B n cap g off:Nat} {l:List α} (h:OwnK w B k n cap (l.flatMap f) (some ⟨g,off,none⟩)) (i:Nat) (hi:i<l.length) (y:α) :
  OwnK (w.setCells g (off+i*k) (f y)) B k n cap ((l.set i y).flatMap f) (some ⟨g,off,none⟩)∧Only w (w.setCells g (off+i*k) (f y)) (· = g)∧w.there g (off+i*k) k:=by
 have hcnt:=h.count
 rw[Zbd f k hf] at hcnt
 have hfl:((l.set i y).flatMap f).length=l.length*k:=by rw[Zbd f k hf,List.length_set]
 have hik:i*k+k≤l.length*k:=by
  have:=Nat.mul_le_mul_right k (show i+1≤l.length from hi)
  rwa [Nat.add_mul,Nat.one_mul] at this
 cases h with
 | «at» g off h h1 h2 h3 =>
  have hle:=h.le
  rw[Zbd f k hf] at hle
  have hth:∀ j,j<(f y).length→(w.cell? ⟨g,off+i*k+j,none⟩).isSome=true:=fun j hj=>by
   rw[hf] at hj
   rw[Nat.add_assoc]
   exact h.room _ (by omega)
  refine⟨.at g off ⟨h.own,by rw[Zdn];exact h.lt,by rw[hfl];exact hle,fun j u hj=>?_,fun j hj=>?_,fun j hj=>?_⟩ (by rw[hfl];exact hcnt) h2 h3,?_,fun j hj=>?_⟩
  ·rw[Zui f k hf l i hi y j] at hj
   by_cases hc:i*k≤j∧j<i*k+k
   ·rw[if_pos hc] at hj
    obtain⟨hl,rfl⟩:=List.getElem?_eq_some_iff.1 hj
    have:=World.cell?_setCells_in g (f y) (off+i*k) w hth (j-i*k) hl
    rwa [show off+i*k+(j-i*k)=off+j by omega] at this
   ·rw[if_neg hc] at hj
    rw[World.cell?_setCells_out g (f y) _ w _ (fun _ _=>by show off+j<off+i*k∨off+i*k+(f y).length≤off+j;rw[hf];omega)]
    exact h.cells j u hj
  ·by_cases hc:i*k≤j∧j<i*k+k
   ·have:=World.cell?_setCells_in g (f y) (off+i*k) w hth (j-i*k) (by rw[hf];omega)
    rw[show off+i*k+(j-i*k)=off+j by omega] at this
    rw[this];rfl
   ·rw[World.cell?_setCells_out g (f y) _ w _ (fun _ _=>by show off+j<off+i*k∨off+i*k+(f y).length≤off+j;rw[hf];omega)]
    exact h.room j hj
  ·rw[World.frozen?_setCells];exact h.warm j hj
  ·refine Only.setCells_at w g (off+i*k) (f y)
  ·refine⟨?_,?_⟩
   ·have:=hth j (by rw[hf];exact hj);exact this
   ·rw[Nat.add_assoc];exact h.warm _ (by omega)
theorem OwnK.cut {α:Type} (f:α→List Value) (k:Nat) (hf:∀ x,(f x).length=k) {w:World} {B n cap g off:Nat} {l:List α} (h:OwnK w B k n cap (l.flatMap f) (some ⟨g,off,none⟩)) (i:Nat) (hi:i≤n) (hl:l.length=n) (vs:List Value) (hv:vs.length=(n-i)*k) :
  OwnK (w.setCells g (off+i*k) vs) B k i cap ((l.take i).flatMap f) (some ⟨g,off,none⟩)∧Only w (w.setCells g (off+i*k) vs) (· = g)∧w.there g (off+i*k) ((n-i)*k):=by
 have hsp:l.flatMap f=(l.take i).flatMap f++(l.drop i).flatMap f:=by rw[← List.flatMap_append,List.take_append_drop]
 have hti:((l.take i).flatMap f).length=i*k:=by rw[Zbd f k hf,List.length_take];congr 1;omega
 have hnk:i*k+(n-i)*k=n*k:=by rw[← Nat.add_mul];congr 1;omega
 cases h with
 | «at» g off h h1 h2 h3 =>
  have hcap:n*k≤cap*k:=Nat.mul_le_mul_right k h3
  have hth:∀ j,j<vs.length→(w.cell? ⟨g,off+i*k+j,none⟩).isSome=true:=fun j hj=>by
   rw[Nat.add_assoc]
   exact h.room _ (by omega)
  refine⟨.at g off ⟨h.own,by rw[Zdn];exact h.lt,by rw[hti];omega,fun j u hj=>?_,fun j hj=>?_,fun j hj=>?_⟩ hti h2 (by omega),Only.setCells_at w g _ vs,fun j hj=>?_⟩
  ·have hjl:=(List.getElem?_eq_some_iff.1 hj).1
   rw[hti] at hjl
   rw[World.cell?_setCells_out g vs _ w _ (fun _ _=>.inl (by show off+j<off+i*k;omega))]
   exact h.cells j u (by rw[hsp,List.getElem?_append_left (by omega)];exact hj)
  ·by_cases hc:i*k≤j∧j<i*k+vs.length
   ·have:=World.cell?_setCells_in g vs (off+i*k) w hth (j-i*k) (by omega)
    rw[show off+i*k+(j-i*k)=off+j by omega] at this
    rw[this];rfl
   ·rw[World.cell?_setCells_out g vs _ w _ (fun _ _=>by show off+j<off+i*k∨off+i*k+vs.length≤off+j;omega)]
    exact h.room j hj
  ·rw[World.frozen?_setCells];exact h.warm j hj
  ·refine⟨?_,?_⟩
   ·have:=hth j (by rw[hv];exact hj);exact this
   ·rw[Nat.add_assoc];exact h.warm _ (by omega)
theorem Zsx {P:Program} (w:World) (t e ty:TypeId) (z:Value) (k:Nat) (ht:P.underlying t=some (.slice e)) (hv:∀ w,(zeroValue e).run P w = .ok z w) (hz:z.cells.size=k) (hk:0<k) (h1:∀ u∈z.cells.toList,u.oneCell'=true) (b o n c:Nat) (hn:0<n)
  (hc:w.there b o (n*k)):∃ vs:List Value,vs.length=n*k∧(Builtin.clear_ #[t] ty #[.slice (some ⟨b,o,none⟩) n c]).run P w = .ok (.tuple #[]) (w.setCells b o vs):=by
 have hlen:(Builtin.zeroCells z.cells n).toList.length=n*k:=by rw[Array.length_toList];simp[Builtin.zeroCells,hz]
 have hone:∀ v∈(Builtin.zeroCells z.cells n).toList,v.oneCell'=true:=by
  intro v hv'
  simp only[Builtin.zeroCells,Array.toList_map,List.mem_map] at hv'
  obtain⟨j,_,rfl⟩:=hv'
  have hm:j%z.cells.size<z.cells.size:=Nat.mod_lt _ (by omega)
  rw[getElem!_pos z.cells _ hm]
  exact h1 _ (by simp)
 have hst:=run_storeCells_cells (P:=P) b o (Builtin.zeroCells z.cells n).toList 0 w (fun j hj=>(hc j (by omega)).1) (fun j hj=>(hc j (by omega)).2) hone
 simp only[Nat.add_zero] at hst
 refine⟨_,hlen,?_⟩
 obtain⟨m,rfl⟩:∃ m,n=m+1:=⟨n-1,by omega⟩
 simp[Builtin.clear_,run_underlying ht,hv,hst]
theorem Zg1 (vs:Array Value) (h:vs.size=3):(Tryz.prog.info? 123).map (·.size)=some vs.size:=by
 rw[h]
 have:=congrArg (fun o=>o.map (fun x:Option Value×Nat×Nat=>x.2.1)) Zim
 simpa [Option.map_map,Function.comp_def] using this
end
section
open Go.RowKit Go.Sort
def Zql (w:World) (ao:Option Addr) (l:List Ky):Prop:=l=[]∨∃ g off,ao=some ⟨g,off,none⟩∧g<w.heap.size∧Za3 w g off (l.flatMap kyC)
theorem Zql.below {w w':World} {ao:Option Addr} {l:List Ky} (h:Zql w ao l) (hb:Below w.heap.size w w'):Zql w' ao l:=by
 rcases h with h | ⟨g,off,h1,h2,h3⟩
 ·exact .inl h
 ·exact .inr ⟨g,off,h1,Nat.lt_of_lt_of_le h2 hb.size,h3.of_block (hb.block g h2)⟩
theorem Zql.at {w:World} {ao:Option Addr} {l:List Ky} (h:Zql w ao l) (i:Nat) (k:Ky) (hk:l[i]?=some k):∃ g off,ao=some ⟨g,off,none⟩∧g<w.heap.size ∧
  w.cell? ⟨g,off+i*3,none⟩=some (.string (Zad k.l))∧w.cell? ⟨g,off+i*3+1,none⟩=some (.string (Zad k.r))∧w.cell? ⟨g,off+i*3+2,none⟩=some (.int .i64 k.c):=by
 rcases h with h | ⟨g,off,h1,h2,h3⟩
 ·rw[h] at hk;simp at hk
 ·exact⟨g,off,h1,h2,Zsw h3 i k hk⟩
theorem OwnK.keysR {w:World} {B n cap:Nat} {ao:Option Addr} {l:List Ky} (h:OwnK w B 3 n cap (l.flatMap kyC) ao) (hn:n=l.length):Zql w ao l:=by
 cases h with
 | nil h h1 h2=>exact .inl (List.eq_nil_of_length_eq_zero (by omega))
 | «at» g off h h1 h2 h3=>exact .inr ⟨g,off,rfl,h.lt,h.cells⟩
theorem Zsy {w:World} {q:Nat} {os:Array Obj}:Below w.heap.size w (grow (w.drewN q) os):=⟨rfl,rfl,rfl,by rw[size_grow];exact Nat.le_add_right _ _,fun k hk=>heap_grow_old _ _ hk⟩
def Zr7 (w w':World):Prop:=∃ q os,w'=grow (w.drewN q) os
theorem Zr7.refl (w:World):Zr7 w w:=⟨0,#[],by rw[grow_empty];rfl⟩
theorem Zr7.trans {a b c:World} (h:Zr7 a b) (h':Zr7 b c):Zr7 a c:=by
 obtain⟨q,os,rfl⟩:=h
 obtain⟨q',os',rfl⟩:=h'
 refine⟨q+q',os++os',?_⟩
 rw[← grow_grow]
 congr 1
 show World.drewN (grow (w:=_) os) q'=_
 simp[World.drewN,grow,Nat.add_assoc]
theorem Zr7.alloc {a b:World} (h:Zr7 a b) (o:Obj):Zr7 a (b.alloc o):=h.trans ⟨0,#[o],by rw[alloc_eq_grow];rfl⟩
theorem Zr7.below {w w':World} (h:Zr7 w w'):Below w.heap.size w w':=by
 obtain⟨q,os,rfl⟩:=h
 exact Zsy
theorem Zb5 {α:Type} (l:List α) (i:Nat) (x:α) (h:l[i]?=some x):l.drop i=x::l.drop (i+1):=by
 obtain⟨hi,rfl⟩:=List.getElem?_eq_some_iff.1 h
 exact List.drop_eq_getElem_cons hi
end
end Go.Proofs.YtmkdfbelbcocpaaGreatDoor
