/- SHA-256 of field: rotations, the table, the schedule (walks). -/
import Derived.Laws.BitsAllLaws
import Derived.BigQuiet
import Derived.Deep.QuietTactic
import Derived.Deep.RegionHeld3
import Derived.RegionTactic
import Derived.StillTailTactics
import Derived.Deep.WholeRow
import Derived.Deep.Cut
import Derived.Deep.CutBlock
import Derived.Deep.DeepCutAuto
import Derived.Laws.Rows
import Derived.Test.YtbllanmhbfnagaaDoorU3
import Derived.Test.YtbllanmhbfnagaaDoorU0
set_option linter.unusedVariables false
set_option linter.unusedSimpArgs false
namespace Go.Proofs.YtbllanmhbfnagaaDoor
open Go.RowKit

theorem rot_or (x s : Nat) (hx : x < 4294967296) : bits BinOp.or IntKind.u32 (IntKind.u32.wrap ((x : Int) * 2 ^ s)) ((x : Int) / 2 ^ (32 - s)) = (rotl x s : Nat) := by
  rw [IntKind.wrap_u32']
  have e1 : (x : Int) * 2 ^ s % 4294967296 = ((x * 2 ^ s % 4294967296 : Nat) : Int) := by rw [Int.natCast_emod, Int.natCast_mul, Int.natCast_pow]; rfl
  have e2 : (x : Int) / 2 ^ (32 - s) = ((x / 2 ^ (32 - s) : Nat) : Int) := by rw [Int.natCast_ediv, Int.natCast_pow]; rfl
  rw [e1, e2, u32_or_nat _ _ (by omega) (Nat.lt_of_le_of_lt (Nat.div_le_self _ _) hx)]
  rfl
theorem rotl_lt (x s : Nat) (hx : x < 4294967296) : rotl x s < 4294967296 := by
  unfold rotl
  exact Nat.or_lt_two_pow (n := 32) (by omega) (Nat.lt_of_le_of_lt (Nat.div_le_self _ _) hx)
set_option maxHeartbeats 400000 in
theorem rot_any (x s : Nat) (k : Int) (w : World) (hx : x < 4294967296) (hs : s < 32) (hk : bits BinOp.and IntKind.u64 (IntKind.u64.wrap k) 31 = s) :
    Calls Tryd.prog 110 #[.int .u32 x, .int .i64 k] w fun e w' => e = .returned (.int .u32 (rotl x s)) ∧ w = w' := by
  have HR := mkHid (rot_or x s hx)
  go_enter Tryd.func110, Tryd.ntmps110
  go_wp2
  go_ret
  refine ⟨ret_int ?_, rfl⟩
  rw [← HR.out]
  rw [IntKind.wrap_u32']

theorem rot_7 (x : Nat) (w : World) (hx : x < 4294967296) : Calls Tryd.prog 110 #[.int .u32 x, .int .i64 (-7)] w fun e w' => e = .returned (.int .u32 (rotl x 25)) ∧ w = w' := rot_any x 25 (-7) w hx (by omega) (by decide)

/-- Words as the cells of an array of uint32. -/
def wcells (l : List Nat) : Array Value := (l.map fun x => Value.int .u32 (x : Nat)).toArray
theorem wcells_size (l : List Nat) : (wcells l).size = l.length := by simp [wcells]
theorem wcells_at (l : List Nat) (j : Nat) (h : j < l.length) : (wcells l)[j]? = some (.int .u32 (l.getD j 0 : Nat)) := by
  simp [wcells, List.getD, List.getElem?_eq_getElem h]
theorem wcells_set (l : List Nat) (j x : Nat) : (wcells l).setIfInBounds j (.int .u32 (x : Nat)) = wcells (l.set j x) := by
  simp [wcells, List.map_set]
/-- Block g is an array of words. -/
def HasW (w : World) (g : Nat) (t : TypeId) (l : List Nat) : Prop := w.heap[g]? = some (.cells (wcells l) t (0, 0))
theorem HasW.cell {w : World} {g : Nat} {t : TypeId} {l : List Nat} (h : HasW w g t l) (j : Nat) (hj : j < l.length) : w.cell? ⟨g, j, none⟩ = some (.int .u32 (l.getD j 0 : Nat)) := by
  rw [cell_of_row w g j _ _ _ h, wcells_at l j hj]
theorem HasW.free {w : World} {g : Nat} {t : TypeId} {l : List Nat} (h : HasW w g t l) (j : Nat) : w.frozen? ⟨g, j, none⟩ = false := frozen_of_row w g j _ t h
theorem HasW.set {w : World} {g : Nat} {t : TypeId} {l : List Nat} (h : HasW w g t l) (j x : Nat) : HasW (w.setCell ⟨g, j, none⟩ (.int .u32 (x : Nat))) g t (l.set j x) := by
  unfold HasW
  rw [heap_setCell_same w g j _ t _ h, wcells_set]
theorem HasW.drewN {w : World} {g : Nat} {t : TypeId} {l : List Nat} (h : HasW w g t l) (m : Nat) : HasW (w.drewN m) g t l := h
theorem HasW.below {w w' : World} {g B : Nat} {t : TypeId} {l : List Nat} (h : HasW w g t l) (hb : Below B w w') (hg : g < B) : HasW w' g t l := by
  unfold HasW; rw [hb.block g hg]; exact h
theorem HasW.other {w : World} {g : Nat} {t : TypeId} {l : List Nat} (h : HasW w g t l) (a : Addr) (v : Value) (ha : a.block ≠ g) : HasW (w.setCell a v) g t l := by
  unfold HasW; rw [heap_setCell_other w a g v (fun e => ha e.symm)]; exact h
theorem HasW.setRow {w : World} {g : Nat} {t : TypeId} {l l' : List Nat} (h : HasW w g t l) : HasW (w.setRow g (wcells l')) g t l' := setRow_heap w g _ _ t _ h
theorem below_setRow {B : Nat} {a w : World} (h : Below B a w) {g : Nat} (hg : B ≤ g) (cs : Array Value) : Below B a (w.setRow g cs) :=
  h.trans ⟨rfl, rfl, rfl, by simp, fun k hk => by
    unfold World.setRow
    simp only [Array.getElem?_modify]
    rw [if_neg (by omega)]⟩
theorem wcells_one (l : List Nat) : (wcells l).all (·.oneCell') = true := by
  simp [wcells, Value.oneCell']
theorem word_or (a b c d : Nat) (ha : a < 256) (hb : b < 256) (hc : c < 256) (hd : d < 256) :
    bits BinOp.or IntKind.u32 (bits BinOp.or IntKind.u32 (bits BinOp.or IntKind.u32 ((a : Int) * 16777216) ((b : Int) * 65536)) ((c : Int) * 256)) d = (((a * 16777216 ||| b * 65536) ||| c * 256) ||| d : Nat) := by
  have h1 : a * 16777216 ||| b * 65536 < 2 ^ 32 := Nat.or_lt_two_pow (by omega) (by omega)
  have h2 : (a * 16777216 ||| b * 65536) ||| c * 256 < 2 ^ 32 := Nat.or_lt_two_pow h1 (by omega)
  rw [show (a : Int) * 16777216 = ((a * 16777216 : Nat) : Int) by omega, show (b : Int) * 65536 = ((b * 65536 : Nat) : Int) by omega, show (c : Int) * 256 = ((c * 256 : Nat) : Int) by omega,
    u32_or_nat _ _ (by omega) (by omega), u32_or_nat _ _ (by omega) (by omega), u32_or_nat _ _ (by omega) (by omega)]
theorem add_w (a b : Nat) : IntKind.u32.wrap ((a : Int) + b) = ((a + b) % 4294967296 : Nat) := by
  rw [IntKind.wrap_u32']; omega
theorem xor_sg0 (x : Nat) (hx : x < 4294967296) : bits BinOp.xor IntKind.u32 (bits BinOp.xor IntKind.u32 (rotl x 25 : Nat) (rotl x 14 : Nat)) ((x : Int) / 8) = (sg0 x : Nat) := by
  rw [show (x : Int) / 8 = ((x / 8 : Nat) : Int) by omega, u32_xor_nat _ _ (rotl_lt x _ hx) (rotl_lt x _ hx), u32_xor_nat _ _ (Nat.xor_lt_two_pow (n := 32) (rotl_lt x _ hx) (rotl_lt x _ hx)) (by omega)]
  rfl
theorem xor_sg1 (x : Nat) (hx : x < 4294967296) : bits BinOp.xor IntKind.u32 (bits BinOp.xor IntKind.u32 (rotl x 15 : Nat) (rotl x 13 : Nat)) ((x : Int) / 1024) = (sg1 x : Nat) := by
  rw [show (x : Int) / 1024 = ((x / 1024 : Nat) : Int) by omega, u32_xor_nat _ _ (rotl_lt x _ hx) (rotl_lt x _ hx), u32_xor_nat _ _ (Nat.xor_lt_two_pow (n := 32) (rotl_lt x _ hx) (rotl_lt x _ hx)) (by omega)]
  rfl
/-- The array of the schedule after k steps. -/
def schedArr (b : List Nat) (k : Nat) : List Nat := sched b k ++ List.replicate (64 - k) 0
theorem schedArr_len (b : List Nat) (k : Nat) (h : k ≤ 64) : (schedArr b k).length = 64 := by simp [schedArr, sched_len]; omega
theorem schedArr_at (b : List Nat) (k j : Nat) (h : j < k) : (schedArr b k).getD j 0 = (sched b k).getD j 0 := by
  unfold schedArr
  simp only [List.getD]
  rw [List.getElem?_append_left (by rw [sched_len]; exact h)]
theorem schedArr_set (b : List Nat) (k x : Nat) (h : k < 64) (hx : sched b (k + 1) = sched b k ++ [x]) : (schedArr b k).set k x = schedArr b (k + 1) := by
  unfold schedArr
  rw [hx, List.set_append_right _ _ (by rw [sched_len]; omega), sched_len, show 64 - k = (64 - (k + 1)) + 1 by omega, List.replicate_succ, Nat.sub_self, List.set_cons_zero, List.append_assoc]
  rfl
set_option maxHeartbeats 1000000 in
set_option maxRecDepth 100000 in
theorem schedule_x (blk off cap : Nat) (b : List Nat) (w : World) (_hb : b.length = 64) (hlt : ∀ j, b.getD j 0 < 256) (_hcap : 64 ≤ cap)
    (hc : ∀ j, j < 64 → w.cell? ⟨blk, off + j, none⟩ = some (.int .u8 (b.getD j 0 : Nat))) (hbl : blk < w.heap.size) :
    Calls Tryd.prog 108 #[.slice (some ⟨blk, off, none⟩) 64 cap] w fun e w' => e = .returned (.agg (wcells (sched b 64))) ∧ Below w.heap.size w w' := by
  have HC := mkHid hc
  have HL := mkHid hlt
  clear hc hlt
  go_enter Tryd.func108, Tryd.ntmps108
  go_wp2_with fail
  go_loopw [8] (fun c wr => ∃ k : Nat, c = .int .i64 k ∧ k ≤ 64 ∧ HasW wr w.heap.size 116 (schedArr b k) ∧ Below w.heap.size w wr) (fun c _ => (64 - intOf c).toNat)
  case atStart => exact ⟨0, rfl, by omega, heap_alloc_last _ _, (Below.refl _ _).alloc (Nat.le_refl _) _⟩
  case round =>
    obtain ⟨k, rfl, hk, hw, hB⟩ := hrel
    have HB := mkHid hB
    have HW := mkHid hw
    clear hB hw
    by_cases hlt : k < 64
    · by_cases h16 : k < 16
      · have e0 := HC.out (4 * k) (by omega)
        have e1 := HC.out (4 * k + 1) (by omega)
        have e2 := HC.out (4 * k + 2) (by omega)
        have e3 := HC.out (4 * k + 3) (by omega)
        have l0 := HL.out (4 * k)
        have l1 := HL.out (4 * k + 1)
        have l2 := HL.out (4 * k + 2)
        have l3 := HL.out (4 * k + 3)
        have hx : Hid (sched b (k + 1) = sched b k ++ [wordAt b k]) := mkHid (by simp [sched, h16])
        have hwd : Hid (wordAt b k = ((b.getD (4 * k) 0 * 16777216 ||| b.getD (4 * k + 1) 0 * 65536) ||| b.getD (4 * k + 2) 0 * 256) ||| b.getD (4 * k + 3) 0) := mkHid rfl
        generalize b.getD (4 * k) 0 = b0 at *
        generalize b.getD (4 * k + 1) 0 = b1 at *
        generalize b.getD (4 * k + 2) 0 = b2 at *
        generalize b.getD (4 * k + 3) 0 = b3 at *
        have hor := word_or b0 b1 b2 b3 l0 l1 l2 l3
        rw [← hwd.out] at hor
        rw [← HB.out.cell (p := ⟨blk, _, none⟩) hbl] at e0 e1 e2 e3
        have c0 := HW.out.cell k (by rw [schedArr_len _ _ hk]; exact hlt)
        have f0 := HW.out.free k
        have w0 : IntKind.i64.wrap (4 * (k : Int)) = 4 * (k : Int) := IntWalk.i64_in _ (by omega)
        have w1 : IntKind.i64.wrap (4 * (k : Int) + 1) = 4 * (k : Int) + 1 := IntWalk.i64_in _ (by omega)
        have w2 : IntKind.i64.wrap (4 * (k : Int) + 2) = 4 * (k : Int) + 2 := IntWalk.i64_in _ (by omega)
        have w3 : IntKind.i64.wrap (4 * (k : Int) + 3) = 4 * (k : Int) + 3 := IntWalk.i64_in _ (by omega)
        have t0 : (4 * (k : Int)).toNat = 4 * k := by omega
        have t1 : (4 * (k : Int) + 1).toNat = 4 * k + 1 := by omega
        have t2 : (4 * (k : Int) + 2).toNat = 4 * k + 2 := by omega
        have t3 : (4 * (k : Int) + 3).toNat = 4 * k + 3 := by omega
        have g0 : 0 ≤ 4 * (k : Int) := by omega
        have g1 : 0 ≤ 4 * (k : Int) + 1 := by omega
        have g2 : 0 ≤ 4 * (k : Int) + 2 := by omega
        have g3 : 0 ≤ 4 * (k : Int) + 3 := by omega
        have k0 : 4 * (k : Int) < 64 := by omega
        have k1 : 4 * (k : Int) + 1 < 64 := by omega
        have k2 : 4 * (k : Int) + 2 < 64 := by omega
        have k3 : 4 * (k : Int) + 3 < 64 := by omega
        have kk : (k : Int) < 64 := by omega
        have v0 : IntKind.u32.wrap (b0 : Int) = (b0 : Int) := IntWalk.u32_in _ (by omega)
        have v1 : IntKind.u32.wrap (b1 : Int) = (b1 : Int) := IntWalk.u32_in _ (by omega)
        have v2 : IntKind.u32.wrap (b2 : Int) = (b2 : Int) := IntWalk.u32_in _ (by omega)
        have v3 : IntKind.u32.wrap (b3 : Int) = (b3 : Int) := IntWalk.u32_in _ (by omega)
        have y0 : IntKind.u32.wrap ((b0 : Int) * 16777216) = (b0 : Int) * 16777216 := IntWalk.u32_in _ (by omega)
        have y1 : IntKind.u32.wrap ((b1 : Int) * 65536) = (b1 : Int) * 65536 := IntWalk.u32_in _ (by omega)
        have y2 : IntKind.u32.wrap ((b2 : Int) * 256) = (b2 : Int) * 256 := IntWalk.u32_in _ (by omega)
        have HX : Hid ((schedArr b k).set k (wordAt b k) = schedArr b (k + 1)) := mkHid (schedArr_set b k _ hlt hx.out)
        generalize wordAt b k = x at *
        go_wp2_with fail
        go_still_tail 35, (by kernel_rfl)
        clear w0 w1 w2 w3 t0 t1 t2 t3 g0 g1 g2 g3 k0 k1 k2 k3 v0 v1 v2 v3 y0 y1 y2 hor e0 e1 e2 e3
        go_wp2
        go_roundw
        case rel => exact ⟨k + 1, by go_num, by omega, HX.out ▸ HW.out.set k x, (HB.out.setCell (p := ⟨w.heap.size, k, none⟩) (Nat.le_refl _) _).drew⟩
        case measure => simp [intOf]; omega
      · have a15 := HW.out.cell (k - 15) (by rw [schedArr_len _ _ hk]; omega)
        have a2 := HW.out.cell (k - 2) (by rw [schedArr_len _ _ hk]; omega)
        have a16 := HW.out.cell (k - 16) (by rw [schedArr_len _ _ hk]; omega)
        have a7 := HW.out.cell (k - 7) (by rw [schedArr_len _ _ hk]; omega)
        have c0 := HW.out.cell k (by rw [schedArr_len _ _ hk]; exact hlt)
        have f0 := HW.out.free k
        rw [schedArr_at _ _ _ (by omega)] at a15 a2 a16 a7
        have l15 := sched_lt b HL.out k (k - 15)
        have l2 := sched_lt b HL.out k (k - 2)
        have hx : Hid (sched b (k + 1) = sched b k ++ [((((sched b k).getD (k - 16) 0 + sg0 ((sched b k).getD (k - 15) 0)) % 4294967296 + (sched b k).getD (k - 7) 0) % 4294967296 + sg1 ((sched b k).getD (k - 2) 0)) % 4294967296]) := mkHid (by rw [sched, if_neg h16])
        have HX := mkHid (schedArr_set b k _ hlt hx.out)
        clear hx
        generalize (sched b k).getD (k - 15) 0 = x15 at *
        generalize (sched b k).getD (k - 2) 0 = x2 at *
        generalize (sched b k).getD (k - 16) 0 = x16 at *
        generalize (sched b k).getD (k - 7) 0 = x7 at *
        have s0 := xor_sg0 x15 l15
        have s1 := xor_sg1 x2 l2
        have d1 := add_w x16 (sg0 x15)
        have d2 := add_w ((x16 + sg0 x15) % 4294967296) x7
        have d3 := add_w (((x16 + sg0 x15) % 4294967296 + x7) % 4294967296) (sg1 x2)
        generalize sg0 x15 = z0 at *
        generalize sg1 x2 = z1 at *
        generalize (x16 + z0) % 4294967296 = u1 at *
        generalize (u1 + x7) % 4294967296 = u2 at *
        generalize (u2 + z1) % 4294967296 = u3 at *
        have w15 : IntKind.i64.wrap ((k : Int) - 15) = (k : Int) - 15 := IntWalk.i64_in _ (by omega)
        have w2 : IntKind.i64.wrap ((k : Int) - 2) = (k : Int) - 2 := IntWalk.i64_in _ (by omega)
        have w16 : IntKind.i64.wrap ((k : Int) - 16) = (k : Int) - 16 := IntWalk.i64_in _ (by omega)
        have w7 : IntKind.i64.wrap ((k : Int) - 7) = (k : Int) - 7 := IntWalk.i64_in _ (by omega)
        have t15 : ((k : Int) - 15).toNat = k - 15 := by omega
        have t2 : ((k : Int) - 2).toNat = k - 2 := by omega
        have t16 : ((k : Int) - 16).toNat = k - 16 := by omega
        have t7 : ((k : Int) - 7).toNat = k - 7 := by omega
        have g15 : 0 ≤ (k : Int) - 15 := by omega
        have g2 : 0 ≤ (k : Int) - 2 := by omega
        have g16 : 0 ≤ (k : Int) - 16 := by omega
        have g7 : 0 ≤ (k : Int) - 7 := by omega
        have q7 : (7 : Int) ≤ (k : Int) := by omega
        have q15 : (15 : Int) ≤ (k : Int) := by omega
        have q2 : (2 : Int) ≤ (k : Int) := by omega
        have q16 : (16 : Int) ≤ (k : Int) := by omega
        have k15 : (k : Int) - 15 < 64 := by omega
        have k2 : (k : Int) - 2 < 64 := by omega
        have k16 : (k : Int) - 16 < 64 := by omega
        have k7 : (k : Int) - 7 < 64 := by omega
        have kk : (k : Int) < 64 := by omega
        go_wp2_with fail
        go_quiet (fail)
        have hW2 : HasW (wr.drewN nq) w.heap.size 116 (schedArr b k) := HW.out
        have hB2 : Below w.heap.size w (wr.drewN nq) := below_drewN HB.out _
        have c02 : (wr.drewN nq).cell? ⟨w.heap.size, k, none⟩ = _ := c0
        have f02 : (wr.drewN nq).frozen? ⟨w.heap.size, k, none⟩ = _ := f0
        have a162 : (wr.drewN nq).cell? ⟨w.heap.size, k - 16, none⟩ = _ := a16
        have a72 : (wr.drewN nq).cell? ⟨w.heap.size, k - 7, none⟩ = _ := a7
        clear c0 f0 a16 a7 a15 a2 HW HB
        generalize wr.drewN nq = wd at *
        have HW := mkHid hW2
        have HB := mkHid hB2
        clear hW2 hB2
        go_wp2_with fail
        refine (rot_any x15 25 (-7) _ l15 (by omega) (by decide)).mono ?_
        rintro e w' ⟨rfl, rfl⟩
        go_wp2_with fail
        refine (rot_any x15 14 (-18) _ l15 (by omega) (by decide)).mono ?_
        rintro e w' ⟨rfl, rfl⟩
        go_wp2_with fail
        refine (rot_any x2 15 (-17) _ l2 (by omega) (by decide)).mono ?_
        rintro e w' ⟨rfl, rfl⟩
        go_wp2_with fail
        refine (rot_any x2 13 (-19) _ l2 (by omega) (by decide)).mono ?_
        rintro e w' ⟨rfl, rfl⟩
        go_wp2_with fail
        go_still_tail 15, (by kernel_rfl)
        clear w15 w2 w16 w7 t15 t2 t16 t7 g15 g2 g16 g7 k15 k2 k16 k7 a162 a72 s0 s1 d1 d2 d3
        go_wp2
        go_roundw
        case rel => exact ⟨k + 1, by go_num, by omega, HX.out ▸ HW.out.set k _, (HB.out.setCell (p := ⟨w.heap.size, k, none⟩) (Nat.le_refl _) _).drew⟩
        case measure => simp [intOf]; omega
    · obtain rfl : k = 64 := by omega
      have hz : HasW wr w.heap.size 116 (sched b 64) := by have := HW.out; rwa [show schedArr b 64 = sched b 64 by simp [schedArr]] at this
      have hl := mkHid (sched_len b 64)
      have HZ := mkHid hz
      clear HC HL hz
      generalize hL : sched b 64 = L at *
      have HL := mkHid hL
      clear hL
      have hinf : (Tryd.prog.info? 116).map (·.size) = some (wcells L).size := by rw [wcells_size, hl.out]; kernel_rfl
      go_wp2_with (first | (refine wpList_load_row rfl 116 _ rfl w.heap.size rfl 116 _ (0, 0) _ HZ.out Tryd.underlying116 rfl hinf ?_) | (refine wpList_store_row rfl 116 _ _ rfl w.heap.size (wcells L) rfl rfl 116 (wcells L) HZ.out hinf rfl (wcells_one L) ?_))
      have hW2 : HasW (wr.setRow w.heap.size (wcells L)) w.heap.size 116 L := HZ.out.setRow
      have hB2 : Below w.heap.size w (wr.setRow w.heap.size (wcells L)) := below_setRow HB.out (Nat.le_refl _) _
      generalize wr.setRow w.heap.size (wcells L) = w2 at *
      exact bodyPost_ret (v := .agg (wcells L)) (results_cell_row (p := 2) (by kernel_rfl) _ _ w.heap.size 116 (wcells L) (0, 0) _ rfl hW2 Tryd.underlying116 rfl hinf) rfl ⟨by rw [HL.out], hB2⟩
end Go.Proofs.YtbllanmhbfnagaaDoor
