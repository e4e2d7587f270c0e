/- SHA-256 of field: the table, the first state, a block (walks). SHA-256 of field: a block (walk). -/
import Derived.Test.YtbllanmhbfnagaaDoorU7
set_option linter.unusedVariables false
set_option linter.unusedSimpArgs false
namespace Go.Proofs.YtbllanmhbfnagaaDoor
open Go.RowKit
set_option maxHeartbeats 1000000 in
set_option maxRecDepth 100000 in
theorem table_any (w : World) :
    Calls Tryd.prog 109 #[] w fun e w' => e = .returned (.agg (wcells kTab)) ∧ Below w.heap.size w w' := by
  go_enter Tryd.func109, Tryd.ntmps109
  go_wp2_with (refine wpList_store_row rfl 116 _ _ rfl w.heap.size (wcells kTab) rfl rfl 116 _ (heap_alloc_last _ _) (by kernel_rfl) (by kernel_rfl) (wcells_one _) ?_)
  exact bodyPost_ret (v := .agg (wcells kTab)) (results_cell_row (p := 0) (by kernel_rfl) _ _ w.heap.size 116 (wcells kTab) (0, 0) _ rfl (setRow_heap _ _ _ _ _ _ (heap_alloc_last _ _)) Tryd.underlying116 rfl (by kernel_rfl)) rfl ⟨rfl, below_setRow ((Below.refl _ _).alloc (Nat.le_refl _) _) (Nat.le_refl _) _⟩
set_option maxHeartbeats 1000000 in
set_option maxRecDepth 100000 in
theorem first_any (w : World) :
    Calls Tryd.prog 86 #[] w fun e w' => e = .returned (.agg (wcells (stL firstF))) ∧ Below w.heap.size w w' := by
  go_enter Tryd.func86, Tryd.ntmps86
  go_wp2_with (refine wpList_store_row rfl 86 _ _ rfl w.heap.size (wcells (stL firstF)) rfl rfl 86 _ (heap_alloc_last _ _) (by kernel_rfl) (by kernel_rfl) (wcells_one _) ?_)
  exact bodyPost_ret (v := .agg (wcells (stL firstF))) (results_cell_row (p := 0) (by kernel_rfl) _ _ w.heap.size 86 (wcells (stL firstF)) (0, 0) _ rfl (setRow_heap _ _ _ _ _ _ (heap_alloc_last _ _)) Tryd.underlying86 rfl (by kernel_rfl)) rfl ⟨rfl, below_setRow ((Below.refl _ _).alloc (Nat.le_refl _) _) (Nat.le_refl _) _⟩
end Go.Proofs.YtbllanmhbfnagaaDoor
namespace Go.Proofs.YtbllanmhbfnagaaDoor
open Go.RowKit

theorem wcells_inf {l : List Nat} (h : l.length = 8) : (Tryd.prog.info? 86).map (·.size) = some (wcells l).size := by rw [wcells_size, h]; kernel_rfl
theorem wcells_inf64 {l : List Nat} (h : l.length = 64) : (Tryd.prog.info? 116).map (·.size) = some (wcells l).size := by rw [wcells_size, h]; kernel_rfl
theorem HasW.alloc_new (w : World) (t : TypeId) (l : List Nat) : HasW (w.alloc (.cells (wcells l) t)) w.heap.size t l := heap_alloc_last _ _
def rotK (x : Nat) (k : Int) : Nat := rotl x (k % 32).toNat
theorem and_31 (k : Int) : bits BinOp.and IntKind.u64 (IntKind.u64.wrap k) 31 = k % 32 := by
  rw [IntKind.wrap_u64, u64_and _ _ (by omega) (by omega) (by omega) (by omega), show (31 : Int).toNat = 31 from rfl, nat_mask5]
  omega
theorem rotq (x : Nat) (k : Int) (w : World) (hx : x < 4294967296) : Calls Tryd.prog 110 #[.int .u32 x, .int .i64 k] w fun e w' => e = .returned (.int .u32 (rotK x k)) ∧ w' = w :=
  (rot_any x (k % 32).toNat k w hx (by omega) (by rw [and_31]; omega)).mono fun _ _ ⟨h1, h2⟩ => ⟨h1, h2.symm⟩
theorem rotK_lt (x : Nat) (k : Int) (hx : x < 4294967296) : rotK x k < 4294967296 := rotl_lt x _ hx
theorem xor_bs1 (x : Nat) (hx : x < 4294967296) : bits BinOp.xor IntKind.u32 (bits BinOp.xor IntKind.u32 (rotK x (-6) : Nat) (rotK x (-11) : Nat)) (rotK x (-25) : Nat) = (bs1 x : Nat) := by
  rw [u32_xor_nat _ _ (rotK_lt x _ hx) (rotK_lt x _ hx), u32_xor_nat _ _ (Nat.xor_lt_two_pow (n := 32) (rotK_lt x _ hx) (rotK_lt x _ hx)) (rotK_lt x _ hx)]
  rfl
theorem xor_bs0 (x : Nat) (hx : x < 4294967296) : bits BinOp.xor IntKind.u32 (bits BinOp.xor IntKind.u32 (rotK x (-2) : Nat) (rotK x (-13) : Nat)) (rotK x (-22) : Nat) = (bs0 x : Nat) := by
  rw [u32_xor_nat _ _ (rotK_lt x _ hx) (rotK_lt x _ hx), u32_xor_nat _ _ (Nat.xor_lt_two_pow (n := 32) (rotK_lt x _ hx) (rotK_lt x _ hx)) (rotK_lt x _ hx)]
  rfl
/-- What the rounds find: the blocks of the state, of the schedule, of the constants, of the first state, of the result. -/
structure MixW (w w' : World) (A R BW BK BV : Nat) (ws hl vl : List Nat) : Prop where
  a : HasW w' A 86 hl
  r : HasW w' R 86 [0, 0, 0, 0, 0, 0, 0, 0]
  s : HasW w' BW 116 ws
  k : HasW w' BK 116 kTab
  v : HasW w' BV 86 vl
  b : Below w.heap.size w w'
theorem mixF_def (h : St) (b : List Nat) : mixF h b = addSt (roundsF (sched b 64) h 64) h := by unfold mixF; exact Eq.refl _
theorem stL_size (v : St) : (wcells (stL v)).size = 8 := wcells_size _
theorem len8_size (a b c d e f g h : Nat) : (wcells [a, b, c, d, e, f, g, h]).size = 8 := wcells_size _
theorem stL_cells {w : World} {g : Nat} {t : TypeId} {a b c d e f g' h : Nat} (hv : HasW w g t [a, b, c, d, e, f, g', h]) :
    w.cell? ⟨g, 0, none⟩ = some (.int .u32 (a : Nat)) ∧ w.cell? ⟨g, 1, none⟩ = some (.int .u32 (b : Nat)) ∧ w.cell? ⟨g, 2, none⟩ = some (.int .u32 (c : Nat)) ∧ w.cell? ⟨g, 3, none⟩ = some (.int .u32 (d : Nat)) ∧ w.cell? ⟨g, 4, none⟩ = some (.int .u32 (e : Nat)) ∧ w.cell? ⟨g, 5, none⟩ = some (.int .u32 (f : Nat)) ∧ w.cell? ⟨g, 6, none⟩ = some (.int .u32 (g' : Nat)) ∧ w.cell? ⟨g, 7, none⟩ = some (.int .u32 (h : Nat)) :=
  ⟨hv.cell 0 (by show 0 < 8; omega), hv.cell 1 (by show 1 < 8; omega), hv.cell 2 (by show 2 < 8; omega), hv.cell 3 (by show 3 < 8; omega), hv.cell 4 (by show 4 < 8; omega), hv.cell 5 (by show 5 < 8; omega), hv.cell 6 (by show 6 < 8; omega), hv.cell 7 (by show 7 < 8; omega)⟩
theorem MixW.drewN {w w' : World} {A R BW BK BV : Nat} {ws hl vl : List Nat} (h : MixW w w' A R BW BK BV ws hl vl) (m : Nat) : MixW w (w'.drewN m) A R BW BK BV ws hl vl :=
  ⟨h.a, h.r, h.s, h.k, h.v, below_drewN h.b m⟩
theorem heap_setRow_other (w : World) (g : Nat) (cs : Array Value) (k : Nat) (h : k ≠ g) : (w.setRow g cs).heap[k]? = w.heap[k]? := by
  unfold World.setRow
  simp only [Array.getElem?_modify]
  rw [if_neg (fun e => h e.symm)]
theorem HasW.otherRow {w : World} {g : Nat} {t : TypeId} {l : List Nat} (h : HasW w g t l) (g' : Nat) (cs : Array Value) (hg : g ≠ g') : HasW (w.setRow g' cs) g t l := by
  unfold HasW; rw [heap_setRow_other w g' cs g hg]; exact h
theorem HasW.alloc_old {w : World} {g : Nat} {t : TypeId} {l : List Nat} (h : HasW w g t l) (hg : g < w.heap.size) (o : Obj) : HasW (w.alloc o) g t l := by
  unfold HasW; rw [Below.heap_alloc w o g hg]; exact h
theorem HasW.lt {w : World} {g : Nat} {t : TypeId} {l : List Nat} (h : HasW w g t l) : g < w.heap.size := (Array.getElem?_eq_some_iff.1 h).1
/-- Only block g may have turned. -/
structure Upd (w w' : World) (g : Nat) : Prop where
  os : w'.os = w.os
  tape : w'.tape = w.tape
  output : w'.output = w.output
  size : w'.heap.size = w.heap.size
  block : ∀ k, k ≠ g → w'.heap[k]? = w.heap[k]?
theorem upd_setRow (w : World) (g : Nat) (cs : Array Value) : Upd w (w.setRow g cs) g := ⟨rfl, rfl, rfl, by simp, fun k hk => heap_setRow_other w g cs k hk⟩
theorem Upd.below {B g : Nat} {a w w' : World} (hu : Upd w w' g) (h : Below B a w) (hg : B ≤ g) : Below B a w' :=
  h.trans ⟨hu.os, hu.tape, hu.output, by rw [hu.size]; exact Nat.le_refl _, fun k hk => hu.block k (by omega)⟩
theorem HasW.upd {w w' : World} {g g' : Nat} {t : TypeId} {l : List Nat} (h : HasW w g t l) (hu : Upd w w' g') (hg : g ≠ g') : HasW w' g t l := by
  unfold HasW; rw [hu.block g hg]; exact h
/-- A whole array stored: the world behind it is told by what has turned. -/
theorem wpList_store_abs {P : Program} {ops : Array Oper} {rest : List Oper} {o : Oper} {a : Act} {w : World} {Q : Exit → Act → World → Prop} (hgd : o.guard = none) (ty : TypeId) (x y : Operand) (ho : o.op = .store ty x y)
    (g : Nat) (cells : Array Value) (hx : a.eval x = .pointer (some ⟨g, 0, none⟩)) (hy : a.eval y = .agg cells)
    (t : TypeId) (old : Array Value) (hg : w.heap[g]? = some (.cells old t (0, 0))) (hi : (P.info? ty).map (·.size) = some cells.size)
    (hold : old.size = cells.size) (h1 : cells.all (·.oneCell') = true)
    (h : ∀ W', W'.heap[g]? = some (.cells cells t (0, 0)) → Upd w W' g → wpList P ops Q rest (a.put o.dst undef) W') : wpList P ops Q (o :: rest) a w :=
  wpList_store_row hgd ty x y ho g cells hx hy t old hg hi hold h1 (h _ (setRow_heap w g _ _ t _ hg) (upd_setRow w g cells))
theorem blk_eq (a b c : Nat) (h : a = b) : (⟨a, c, none⟩ : Addr) = ⟨b, c, none⟩ := by rw [h]
set_option maxHeartbeats 4000000 in
set_option maxRecDepth 100000 in
theorem mix_x (blk off cap : Nat) (b : List Nat) (h : St) (w : World) (hb : b.length = 64) (hlt : ∀ j, b.getD j 0 < 256) (hcap : 64 ≤ cap)
    (hc : ∀ j, j < 64 → w.cell? ⟨blk, off + j, none⟩ = some (.int .u8 (b.getD j 0 : Nat))) (hbl : blk < w.heap.size) (hok : StOK h) :
    Calls Tryd.prog 87 #[.agg (wcells (stL h)), .slice (some ⟨blk, off, none⟩) 64 cap] w fun e w' => e = .returned (.agg (wcells (stL (mixF h b)))) ∧ Below w.heap.size w w' := by
  obtain ⟨hl, hst⟩ : ∃ hl, stL h = hl := ⟨_, rfl⟩
  have hl8 : hl.length = 8 := by rw [← hst]; rfl
  rw [hst]
  have HST := mkHid hst
  have HL8 := mkHid hl8
  clear hst hl8
  have HC := mkHid hc
  have HL := mkHid hlt
  clear hc hlt
  go_enter Tryd.func87, Tryd.ntmps87
  go_wp2_with fail
  have B0 := ((Below.refl w.heap.size w).alloc (Nat.le_refl _) (.cells (wcells (hl)) 86)).alloc (by simp) (.cells (wcells [0, 0, 0, 0, 0, 0, 0, 0]) 86)
  have A0 : HasW ((w.alloc (.cells (wcells (hl)) 86)).alloc (.cells (wcells [0, 0, 0, 0, 0, 0, 0, 0]) 86)) w.heap.size 86 (hl) := (HasW.alloc_new _ _ _).alloc_old (by simp) _
  have R0 : HasW ((w.alloc (.cells (wcells (hl)) 86)).alloc (.cells (wcells [0, 0, 0, 0, 0, 0, 0, 0]) 86)) (w.heap.size + 1) 86 [0, 0, 0, 0, 0, 0, 0, 0] := by have := HasW.alloc_new (w.alloc (.cells (wcells (hl)) 86)) 86 [0, 0, 0, 0, 0, 0, 0, 0]; rwa [show (w.alloc (.cells (wcells (hl)) 86)).heap.size = w.heap.size + 1 by simp] at this
  have Z0 : ((w.alloc (.cells (wcells (hl)) 86)).alloc (.cells (wcells [0, 0, 0, 0, 0, 0, 0, 0]) 86)).heap.size = w.heap.size + 2 := by simp
  show Calls _ _ _ ((w.alloc (.cells (wcells (hl)) 86)).alloc (.cells (wcells [0, 0, 0, 0, 0, 0, 0, 0]) 86)) _
  generalize (w.alloc (.cells (wcells (hl)) 86)).alloc (.cells (wcells [0, 0, 0, 0, 0, 0, 0, 0]) 86) = W1 at *
  refine (schedule_x blk off cap b _ hb HL.out hcap (fun j hj => (B0.cell (p := ⟨blk, off + j, none⟩) hbl).trans (HC.out j hj)) (by omega)).mono ?_
  rintro e w1 ⟨rfl, b1⟩
  have z1 := b1.size
  have A1 := A0.below b1 (by omega)
  have R1 := R0.below b1 (by omega)
  have B1 := B0.trans (b1.mono (by omega))
  clear A0 R0 B0 b1
  have B1 := mkHid B1
  have A1 := mkHid A1
  have R1 := mkHid R1
  have Z0 := mkHid Z0
  go_wp2_with fail
  refine (table_any _).mono ?_
  rintro e w2 ⟨rfl, b2⟩
  have z2 := b2.size
  have A2 := A1.out.below b2 (by have := Z0.out; omega)
  have R2 := R1.out.below b2 (by have := Z0.out; omega)
  have B2 := B1.out.trans (b2.mono (by have := Z0.out; omega))
  have z3 : w.heap.size + 2 ≤ w2.heap.size := by have := Z0.out; omega
  clear A1 R1 B1 b2 z1 z2 Z0
  have A2 := mkHid A2
  have R2 := mkHid R2
  have B2 := mkHid B2
  have hsl := mkHid (sched_len b 64)
  generalize hws : sched b 64 = ws at *
  have HWS := mkHid hws
  clear hws
  have i64 := mkHid (wcells_inf64 hsl.out)
  have ik := mkHid (wcells_inf64 (l := kTab) rfl)
  go_wp2_with (first | (refine wpList_store_abs rfl 116 (.tmp 5) (.tmp 15) rfl w2.heap.size (wcells ws) ?h11 ?h12 116 ?h13 ?h14 ?h15 ?h16 ?h17 ?_; (case h11 => kernel_rfl); (case h12 => kernel_rfl); (case h14 => exact heap_alloc2_old _ _ _); (case h15 => exact i64.out); (case h16 => (rw [wcells_size, hsl.out]; rfl)); (case h17 => exact wcells_one _); intro W3 s3 u3; have n3 := mkHid ((u3.block (w2.heap.size + 1) (by omega)).trans (heap_alloc2_new _ _ _)); have A3 := mkHid (((A2.out.alloc_old (by omega) _).alloc_old (by simp; omega) _).upd u3 (by omega)); have R3 := mkHid (((R2.out.alloc_old (by omega) _).alloc_old (by simp; omega) _).upd u3 (by omega)); have B3 := mkHid (u3.below ((B2.out.alloc (by omega) _).alloc (by simp; omega) _) (by omega)); have S3 := mkHid s3; have z4 := mkHid (u3.size.trans (show _ = w2.heap.size + 2 by simp)); clear u3 s3 A2 R2 B2) | (refine wpList_store_abs rfl 116 (.tmp 6) (.tmp 16) rfl (w2.heap.size + 1) (wcells kTab) ?h21 ?h22 116 ?h23 ?h24 ?h25 ?h26 ?h27 ?_; (case h21 => kernel_rfl); (case h22 => kernel_rfl); (case h24 => exact n3.out); (case h25 => exact ik.out); (case h26 => rfl); (case h27 => exact wcells_one _); intro W4 s4 u4; have A4 := mkHid (A3.out.upd u4 (by omega)); have R4 := mkHid (R3.out.upd u4 (by omega)); have S4 : Hid (HasW W4 w2.heap.size 116 ws) := mkHid (HasW.upd (g := w2.heap.size) S3.out u4 (by omega)); have K4 : Hid (HasW W4 (w2.heap.size + 1) 116 kTab) := mkHid s4; have B4 := mkHid (u4.below B3.out (by omega)); have z5 := mkHid (u4.size.trans z4.out); clear u4 s4 A3 R3 S3 B3 z4 n3) | (refine wpList_load_row rfl 86 (.tmp 2) rfl w.heap.size ?hb3 86 (wcells (hl)) (0, 0) _ A4.out Tryd.underlying86 rfl (wcells_inf HL8.out) ?_; (case hb3 => kernel_rfl)) | (refine wpList_store_abs rfl 86 (.tmp 7) (.tmp 17) rfl W4.heap.size (wcells (hl)) ?h41 ?h42 86 ?h43 ?h44 ?h45 ?h46 ?h47 ?_; (case h41 => kernel_rfl); (case h42 => kernel_rfl); (case h44 => exact heap_alloc_last _ _); (case h45 => exact wcells_inf HL8.out); (case h46 => (rw [wcells_size, HL8.out]; rfl)); (case h47 => exact wcells_one _); intro W5 s5 u5; have z6 := z5.out; have A5 := mkHid ((A4.out.alloc_old (by omega) _).upd u5 (by omega)); have R5 := mkHid ((R4.out.alloc_old (by omega) _).upd u5 (by omega)); have S5 := mkHid ((S4.out.alloc_old (by omega) _).upd u5 (by omega)); have K5 := mkHid ((K4.out.alloc_old (by omega) _).upd u5 (by omega)); have V5 : Hid (HasW W5 W4.heap.size 86 (hl)) := mkHid s5; have B5 := mkHid (u5.below (B4.out.alloc (by omega) _) (by omega)); clear u5 s5 A4 R4 S4 K4 B4 z5))
  have z7 := z6
  have M0 : Hid (MixW w W5 w.heap.size (w.heap.size + 1) w2.heap.size (w2.heap.size + 1) (w2.heap.size + 2) ws hl (stL (roundsF ws h 0))) := mkHid ⟨A5.out, R5.out, S5.out, K5.out, by have := V5.out; rw [z7] at this; rw [show stL (roundsF ws h 0) = hl from HST.out]; exact this, B5.out⟩
  clear A5 R5 S5 K5 V5 B5 z6 z7
  generalize w2.heap.size = BW at *
  have OK := mkHid hok
  clear hok
  go_loopw [18] (fun c wr => ∃ i : Nat, c = .int .i64 i ∧ i ≤ 64 ∧ Hid (MixW w wr w.heap.size (w.heap.size + 1) BW (BW + 1) (BW + 2) ws hl (stL (roundsF ws h i)))) (fun c _ => (64 - intOf c).toNat)
  case atStart => exact ⟨0, rfl, by omega, M0.out⟩
  case round =>
    obtain ⟨i, rfl, hi, hm⟩ := hrel
    clear M0
    by_cases hlt : i < 64
    · have ok := OK.out.rounds ws i
      have hn : Hid (roundsF ws h (i + 1) = roundF (roundsF ws h i) (kTab.getD i 0) (ws.getD i 0)) := mkHid rfl
      have ew := hm.out.s.cell i (by rw [hsl.out]; exact hlt)
      have ek := hm.out.k.cell i hlt
      generalize roundsF ws h i = v at *
      obtain ⟨a, b', c, d, e, f, g, h'⟩ := v
      obtain ⟨oa, ob, oc, od, oe, of, og, oh⟩ := ok
      simp only at oa ob oc od oe of og oh
      obtain ⟨c0, c1, c2, c3, c4, c5, c6, c7⟩ := stL_cells (a := a) (b := b') (c := c) (d := d) (e := e) (f := f) (g' := g) (h := h') hm.out.v
      have s1 := xor_bs1 e oe
      have s0 := xor_bs0 a oa
      have d1 := u32_xor_nat f g of og
      have d2 := u32_and_nat e (f ^^^ g) oe (Nat.xor_lt_two_pow (n := 32) of og)
      have d3 := u32_xor_nat g (e &&& (f ^^^ g)) og (Nat.and_lt_two_pow _ (Nat.xor_lt_two_pow (n := 32) of og))
      have d4 := u32_and_nat a b' oa ob
      have d5 := u32_or_nat a b' oa ob
      have d6 := u32_and_nat c (a ||| b') oc (Nat.or_lt_two_pow (n := 32) oa ob)
      have d7 := u32_or_nat (a &&& b') (c &&& (a ||| b')) (Nat.and_lt_two_pow (n := 32) _ ob) (Nat.and_lt_two_pow _ (Nat.or_lt_two_pow (n := 32) oa ob))
      have t1 := add_w h' (bs1 e)
      have t2 := add_w ((h' + bs1 e) % 4294967296) (chF e f g)
      have t3 := add_w (((h' + bs1 e) % 4294967296 + chF e f g) % 4294967296) (kTab.getD i 0)
      have t4 := add_w ((((h' + bs1 e) % 4294967296 + chF e f g) % 4294967296 + kTab.getD i 0) % 4294967296) (ws.getD i 0)
      have hv : Hid (roundF ⟨a, b', c, d, e, f, g, h'⟩ (kTab.getD i 0) (ws.getD i 0) = ⟨((tF ⟨a, b', c, d, e, f, g, h'⟩ (kTab.getD i 0) (ws.getD i 0) + bs0 a) % 4294967296 + mjF a b' c) % 4294967296, a, b', c, (d + tF ⟨a, b', c, d, e, f, g, h'⟩ (kTab.getD i 0) (ws.getD i 0)) % 4294967296, e, f, g⟩) := mkHid rfl
      have ht : ((((h' + bs1 e) % 4294967296 + chF e f g) % 4294967296 + kTab.getD i 0) % 4294967296 + ws.getD i 0) % 4294967296 = tF ⟨a, b', c, d, e, f, g, h'⟩ (kTab.getD i 0) (ws.getD i 0) := rfl
      rw [ht] at t4
      clear ht
      rw [show g ^^^ (e &&& (f ^^^ g)) = chF e f g from rfl] at d3
      rw [show (a &&& b') ||| (c &&& (a ||| b')) = mjF a b' c from rfl] at d7
      generalize tF ⟨a, b', c, d, e, f, g, h'⟩ (kTab.getD i 0) (ws.getD i 0) = T at *
      generalize hkk : kTab.getD i 0 = kk at *
      generalize hww : ws.getD i 0 = ww at *
      have EK := mkHid hkk
      have EW := mkHid hww
      clear hkk hww
      have t5 := add_w T (bs0 a)
      have t6 := add_w ((T + bs0 a) % 4294967296) (mjF a b' c)
      have t7 := add_w d T
      generalize (h' + bs1 e) % 4294967296 = x1 at *
      generalize (x1 + chF e f g) % 4294967296 = x2 at *
      generalize (x2 + kk) % 4294967296 = x3 at *
      generalize (T + bs0 a) % 4294967296 = x5 at *
      generalize (x5 + mjF a b' c) % 4294967296 = x6 at *
      generalize (d + T) % 4294967296 = x7 at *
      generalize bs1 e = y1 at *
      generalize bs0 a = y0 at *
      generalize chF e f g = y2 at *
      generalize mjF a b' c = y3 at *
      generalize e &&& (f ^^^ g) = y4 at *
      generalize f ^^^ g = y5 at *
      generalize c &&& (a ||| b') = y6 at *
      generalize a &&& b' = y7 at *
      generalize a ||| b' = y8 at *
      have ii : (i : Int) < 64 := by omega
      go_wp2_with fail
      go_quiet ((go_at_call 110; exact Calls.quiet_of_same (rotq _ _ _ (by omega))))
      clear c0 c1 c2 c3 c4 c5 c6 c7 ew ek
      have hm2 := mkHid (hm.out.drewN nq)
      clear hm
      generalize wr.drewN nq = wd at *
      obtain ⟨c0, c1, c2, c3, c4, c5, c6, c7⟩ := stL_cells (a := a) (b := b') (c := c) (d := d) (e := e) (f := f) (g' := g) (h := h') hm2.out.v
      have ew := hm2.out.s.cell i (by rw [hsl.out]; exact hlt)
      have ek := hm2.out.k.cell i hlt
      rw [EW.out] at ew
      rw [EK.out] at ek
      go_wp2_with fail
      go_quiet (fail)
      clear c0 c1 c2 c3 c4 c5 c6 c7 ew ek
      have hm3 := mkHid (hm2.out.drewN nq)
      clear hm2
      generalize wd.drewN nq = we at *
      obtain ⟨c0, c1, c2, c3, c4, c5, c6, c7⟩ := stL_cells (a := a) (b := b') (c := c) (d := d) (e := e) (f := f) (g' := g) (h := h') hm3.out.v
      go_wp2_with fail
      go_quiet ((go_at_call 110; exact Calls.quiet_of_same (rotq _ _ _ (by omega))))
      clear c0 c1 c2 c3 c4 c5 c6 c7
      have hm4 := mkHid (hm3.out.drewN nq)
      clear hm3
      generalize we.drewN nq = wf at *
      obtain ⟨c0, c1, c2, c3, c4, c5, c6, c7⟩ := stL_cells (a := a) (b := b') (c := c) (d := d) (e := e) (f := f) (g' := g) (h := h') hm4.out.v
      have inf := mkHid (wcells_inf (l := [x6, a, b', c, x7, e, f, g]) rfl)
      go_wp2_with (refine wpList_store_abs rfl 86 (.tmp 7) (.tmp 102) rfl (BW + 2) (wcells [x6, a, b', c, x7, e, f, g]) ?hr1 ?hr2 86 ?hr3 ?hr4 ?hr5 ?hr6 ?hr7 ?_; (case hr1 => rfl); (case hr2 => rfl); (case hr4 => exact hm4.out.v); (case hr5 => exact inf.out); (case hr6 => exact (stL_size _).trans (len8_size _ _ _ _ _ _ _ _).symm); (case hr7 => exact wcells_one _); intro wg sg ug; have hm5 : Hid (MixW w wg w.heap.size (w.heap.size + 1) BW (BW + 1) (BW + 2) ws hl [x6, a, b', c, x7, e, f, g]) := mkHid ⟨hm4.out.a.upd ug (by omega), hm4.out.r.upd ug (by omega), hm4.out.s.upd ug (by omega), hm4.out.k.upd ug (by omega), sg, ug.below hm4.out.b (by omega)⟩; clear c0 c1 c2 c3 c4 c5 c6 c7 hm4 ug sg)
      go_roundw
      case rel => exact ⟨i + 1, by go_num, by omega, mkHid (by rw [hn.out, hv.out]; exact hm5.out)⟩
      case measure => simp [intOf]; omega
    · obtain rfl : i = 64 := by omega
      have HV : Hid (MixW w wr w.heap.size (w.heap.size + 1) BW (BW + 1) (BW + 2) ws hl (sumL (stL (roundsF ws h 64)) hl 0)) := mkHid (by rw [sumL_zero]; exact hm.out)
      have HE : Hid (sumL (stL (roundsF ws h 64)) hl 8 = stL (mixF h b)) := mkHid (by rw [← HST.out, sumL_done, ← HWS.out, ← mixF_def])
      clear hm
      generalize stL (roundsF ws h 64) = vl at *
      go_wp2_with fail
      rw [show ((64 : Nat) : Int) = 64 from rfl]
      go_loopw [104] (fun c wr => ∃ j : Nat, c = .int .i64 j ∧ j ≤ 8 ∧ Hid (MixW w wr w.heap.size (w.heap.size + 1) BW (BW + 1) (BW + 2) ws hl (sumL vl hl j))) (fun c _ => (8 - intOf c).toNat)
      case atStart => exact ⟨0, rfl, by omega, HV.out⟩
      case round =>
        obtain ⟨j, rfl, hj, hm⟩ := hrel
        clear HV
        by_cases hlt : j < 8
        · have e1 := hm.out.v.cell j (by rw [sumL_len]; exact hlt)
          have e2 := hm.out.a.cell j (by rw [HL8.out]; exact hlt)
          have f1 := hm.out.v.free j
          rw [sumL_at _ _ _ _ hlt, if_neg (by omega)] at e1
          have HX := mkHid (sumL_set vl hl j hlt)
          have t1 := add_w (vl.getD j 0) (hl.getD j 0)
          generalize vl.getD j 0 = x at *
          generalize hl.getD j 0 = y at *
          generalize (x + y) % 4294967296 = z at *
          have jj : (j : Int) < 8 := by omega
          have hm5 : Hid (MixW w (wr.setCell ⟨BW + 2, j, none⟩ (.int .u32 (z : Nat))) w.heap.size (w.heap.size + 1) BW (BW + 1) (BW + 2) ws hl (sumL vl hl (j + 1))) := mkHid ⟨hm.out.a.other ⟨BW + 2, j, none⟩ _ (by show BW + 2 ≠ _; omega), hm.out.r.other ⟨BW + 2, j, none⟩ _ (by show BW + 2 ≠ _; omega), hm.out.s.other ⟨BW + 2, j, none⟩ _ (by show BW + 2 ≠ _; omega), hm.out.k.other ⟨BW + 2, j, none⟩ _ (by show BW + 2 ≠ _; omega), by rw [← HX.out]; exact hm.out.v.set j z, hm.out.b.setCell (p := ⟨BW + 2, j, none⟩) (by show w.heap.size ≤ BW + 2; omega) _⟩
          go_wp2_with fail
          go_still_tail 8, (by kernel_rfl)
          clear e2 t1
          go_wp2
          go_roundw
          case rel => exact ⟨j + 1, by go_num, by omega, mkHid (hm5.out.drewN 1)⟩
          case measure => simp [intOf]; omega
        · obtain rfl : j = 8 := by omega
          go_upto_region 17 with (fail)
          have HQ := hm.out
          rw [HE.out] at HQ
          have hs8 := stL_size (mixF h b)
          have HM := mkHid HQ
          have HS8 := mkHid hs8
          clear hm HQ hs8
          generalize hout : stL (mixF h b) = ol at *
          have HO := mkHid hout
          clear hout HE
          have io : Hid ((Tryd.prog.info? 86).map (·.size) = some (wcells ol).size) := mkHid (by rw [HS8.out]; kernel_rfl)
          go_wp2_with (first | (refine wpList_load_row rfl 86 (.tmp 7) rfl (BW + 2) ?hx1 86 (wcells ol) (0, 0) _ HM.out.v Tryd.underlying86 rfl io.out ?_; (case hx1 => rfl)) | (refine wpList_store_abs rfl 86 (.tmp 4) (.tmp 116) rfl (w.heap.size + 1) (wcells ol) ?hy1 ?hy2 86 ?hy3 ?hy4 ?hy5 ?hy6 ?hy7 ?_; (case hy1 => rfl); (case hy2 => rfl); (case hy4 => exact HM.out.r); (case hy5 => exact io.out); (case hy6 => exact (len8_size _ _ _ _ _ _ _ _).trans HS8.out.symm); (case hy7 => exact wcells_one _); intro wz sz uz; have bz := uz.below HM.out.b (by omega)))
          exact bodyPost_ret (v := .agg (wcells ol)) (results_cell_row (p := 4) (by kernel_rfl) _ _ (w.heap.size + 1) 86 (wcells ol) (0, 0) _ rfl sz Tryd.underlying86 rfl io.out) rfl ⟨by rw [HO.out], bz⟩
end Go.Proofs.YtbllanmhbfnagaaDoor
