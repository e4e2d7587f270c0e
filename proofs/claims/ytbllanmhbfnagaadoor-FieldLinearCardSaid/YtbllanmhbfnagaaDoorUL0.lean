/- The reference's Few (walk). The reference's matrix, width, less, residues (walks). The reference's residues (walk). The reference's matrix: plain laws, and its rows in memory. The reference's reduced (walk). -/
import Derived.Test.YtbllanmhbfnagaaDoorU30
import Derived.BigQuiet
import Derived.Test.YtbllanmhbfnagaaDoorU19
import Derived.Test.YtbllanmhbfnagaaDoorU6
import Derived.Test.YtbllanmhbfnagaaDoorU31
import Derived.BigRegion
import Derived.Test.YtbllanmhbfnagaaDoorU23
set_option linter.unusedVariables false
set_option linter.unusedSimpArgs false
namespace Go.Proofs.YtbllanmhbfnagaaDoor
open Go.RowKit Go.Sort
def fewI (n : Nat) (m : Nat) : Bool := decide (n ≤ m) || (decide (65 ≤ n) && decide (n ≤ 66))
def fewB (L : List (List Int)) (m i : Nat) : Bool := (List.range i).all (fun j => fewI (L.getD j []).length m)
theorem fewB_succ (L : List (List Int)) (m i : Nat) : fewB L m (i + 1) = (fewB L m i && fewI (L.getD i []).length m) := by simp [fewB, List.range_succ]
theorem fewB_no {L : List (List Int)} {m i n : Nat} (h : i < n) (hi : fewI (L.getD i []).length m = false) : fewB L m n = false := by
  cases e : fewB L m n with
  | false => rfl
  | true =>
    have := List.all_eq_true.1 e i (List.mem_range.2 h)
    rw [hi] at this; cases this
theorem fewB_at {L : List (List Int)} {m n : Nat} (h : fewB L m n = true) (i : Nat) (hi : i < n) : fewI (L.getD i []).length m = true := List.all_eq_true.1 h i (List.mem_range.2 hi)
set_option maxHeartbeats 4000000 in
set_option maxRecDepth 100000 in
theorem few_any (a : Option Addr) (n c m : Nat) (L : List (List Int)) (w : World) (hm : m ≤ 60) (hR : ArgR w a n L) :
    Calls Tryd.prog 54 #[.slice a n c, .int .i64 m] w fun e w' => e = .returned (.bool (fewI n m && fewB L m n)) ∧ w = w' := by
  have HR := mkHid hR
  clear hR
  cases hf : fewI n m with
  | false =>
    have h1 : m < n ∧ (n < 65 ∨ 66 < n) := by unfold fewI at hf; simp at hf; omega
    have d1 : decide ((m : Int) < n) = true := decide_eq_true (by omega)
    have d1' : (m : Int) < n := by omega
    rcases Nat.lt_or_ge n 65 with h | h
    · have d2 : decide ((n : Int) < 65) = true := decide_eq_true (by omega)
      have d3 : (n : Int) < 65 := by omega
      clear hf h1
      go_enter Tryd.func54, Tryd.ntmps54
      go_wp2
      go_ret
      exact ⟨rfl, rfl⟩
    · have d2 : decide ((n : Int) < 65) = false := decide_eq_false (by omega)
      have d3 : ¬ ((n : Int) < 65) := by omega
      have d4 : decide ((66 : Int) < n) = true := decide_eq_true (by omega)
      have d5 : (66 : Int) < n := by omega
      clear hf h1
      go_enter Tryd.func54, Tryd.ntmps54
      go_wp2
      go_ret
      exact ⟨rfl, rfl⟩
  | true =>
    have h1 : n ≤ m ∨ (65 ≤ n ∧ n ≤ 66) := by unfold fewI at hf; simp at hf; omega
    have hn : n ≤ 66 := by omega
    have main : ∀ (hd : n ≤ m ∨ (m < n ∧ 65 ≤ n ∧ n ≤ 66)),
      Calls Tryd.prog 54 #[.slice a n c, .int .i64 m] w fun e w' => e = .returned (.bool (fewB L m n)) ∧ w = w' := by
      intro hd
      clear h1 hf
      go_enter Tryd.func54, Tryd.ntmps54
      have body : True := trivial
      rcases hd with d1 | ⟨d1, d2, d3⟩
      · have f1 : decide ((m : Int) < n) = false := decide_eq_false (by omega)
        have f2 : ¬ ((m : Int) < n) := by omega
        have f7 : ¬ (m < n) := by omega
        go_wp2_with fail
        go_loop [5] (fun c => ∃ i : Nat, c = .int .i64 i ∧ i ≤ n ∧ Hid (fewB L m i = true)) (fun c => (n - intOf c).toNat)
        case atStart => exact ⟨0, rfl, by omega, mkHid rfl⟩
        case round =>
          obtain ⟨i, rfl, hi, hs⟩ := hrel
          have e2 : IntKind.i64.wrap ((i : Int) + 1) = ((i + 1 : Nat) : Int) := IntWalk.i64_in _ (by omega)
          by_cases hlt : i < n
          · obtain ⟨g, o, rfl, -, hc⟩ := HR.out.here (by omega)
            obtain ⟨r, k, p, x1, ai⟩ := hc i hlt
            have hk : Hid (k = (L.getD i []).length) := mkHid ai.len
            have ii : (i : Int) < n := by omega
            clear hc ai
            by_cases k1 : k ≤ m
            · have t1 : decide ((m : Int) < k) = false := decide_eq_false (by omega)
              have t1' : ¬ ((m : Int) < k) := by omega
              have hst : Hid (fewB L m (i + 1) = true) := mkHid (by rw [fewB_succ, hs.out, ← hk.out]; simp [fewI, k1])
              go_wp2
              go_round
              case rel => exact ⟨i + 1, rfl, by omega, hst⟩
              case measure => simp [intOf]; omega
            · have t1 : decide ((m : Int) < k) = true := decide_eq_true (by omega)
              have t1' : (m : Int) < k := by omega
              by_cases k2 : k < 65
              · have t2 : decide ((k : Int) < 65) = true := decide_eq_true (by omega)
                have hst : Hid (fewB L m n = false) := mkHid (fewB_no hlt (by rw [← hk.out]; unfold fewI; simp; omega))
                go_wp2
                go_ret
                rw [hst.out]
                exact ⟨rfl, rfl⟩
              · have t2 : decide ((k : Int) < 65) = false := decide_eq_false (by omega)
                by_cases k3 : 66 < k
                · have t3 : decide ((66 : Int) < k) = true := decide_eq_true (by omega)
                  have hst : Hid (fewB L m n = false) := mkHid (fewB_no hlt (by rw [← hk.out]; unfold fewI; simp; omega))
                  go_wp2
                  go_ret
                  rw [hst.out]
                  exact ⟨rfl, rfl⟩
                · have t3 : decide ((66 : Int) < k) = false := decide_eq_false (by omega)
                  have hst : Hid (fewB L m (i + 1) = true) := mkHid (by rw [fewB_succ, hs.out, ← hk.out]; unfold fewI; simp; omega)
                  go_wp2
                  go_round
                  case rel => exact ⟨i + 1, rfl, by omega, hst⟩
                  case measure => simp [intOf]; omega
          · obtain rfl : i = n := by omega
            go_wp2
            go_ret
            rw [hs.out]
            exact ⟨rfl, rfl⟩
      · have f1 : decide ((m : Int) < n) = true := decide_eq_true (by omega)
        have f2 : (m : Int) < n := by omega
        have f3 : decide ((n : Int) < 65) = false := decide_eq_false (by omega)
        have f4 : ¬ ((n : Int) < 65) := by omega
        have f5 : decide ((66 : Int) < n) = false := decide_eq_false (by omega)
        have f6 : ¬ ((66 : Int) < n) := by omega
        go_wp2_with fail
        go_loop [5] (fun c => ∃ i : Nat, c = .int .i64 i ∧ i ≤ n ∧ Hid (fewB L m i = true)) (fun c => (n - intOf c).toNat)
        case atStart => exact ⟨0, rfl, by omega, mkHid rfl⟩
        case round =>
          obtain ⟨i, rfl, hi, hs⟩ := hrel
          have e2 : IntKind.i64.wrap ((i : Int) + 1) = ((i + 1 : Nat) : Int) := IntWalk.i64_in _ (by omega)
          by_cases hlt : i < n
          · obtain ⟨g, o, rfl, -, hc⟩ := HR.out.here (by omega)
            obtain ⟨r, k, p, x1, ai⟩ := hc i hlt
            have hk : Hid (k = (L.getD i []).length) := mkHid ai.len
            have ii : (i : Int) < n := by omega
            clear hc ai
            by_cases k1 : k ≤ m
            · have t1 : decide ((m : Int) < k) = false := decide_eq_false (by omega)
              have t1' : ¬ ((m : Int) < k) := by omega
              have hst : Hid (fewB L m (i + 1) = true) := mkHid (by rw [fewB_succ, hs.out, ← hk.out]; simp [fewI, k1])
              go_wp2
              go_round
              case rel => exact ⟨i + 1, rfl, by omega, hst⟩
              case measure => simp [intOf]; omega
            · have t1 : decide ((m : Int) < k) = true := decide_eq_true (by omega)
              have t1' : (m : Int) < k := by omega
              by_cases k2 : k < 65
              · have t2 : decide ((k : Int) < 65) = true := decide_eq_true (by omega)
                have hst : Hid (fewB L m n = false) := mkHid (fewB_no hlt (by rw [← hk.out]; unfold fewI; simp; omega))
                go_wp2
                go_ret
                rw [hst.out]
                exact ⟨rfl, rfl⟩
              · have t2 : decide ((k : Int) < 65) = false := decide_eq_false (by omega)
                by_cases k3 : 66 < k
                · have t3 : decide ((66 : Int) < k) = true := decide_eq_true (by omega)
                  have hst : Hid (fewB L m n = false) := mkHid (fewB_no hlt (by rw [← hk.out]; unfold fewI; simp; omega))
                  go_wp2
                  go_ret
                  rw [hst.out]
                  exact ⟨rfl, rfl⟩
                · have t3 : decide ((66 : Int) < k) = false := decide_eq_false (by omega)
                  have hst : Hid (fewB L m (i + 1) = true) := mkHid (by rw [fewB_succ, hs.out, ← hk.out]; unfold fewI; simp; omega)
                  go_wp2
                  go_round
                  case rel => exact ⟨i + 1, rfl, by omega, hst⟩
                  case measure => simp [intOf]; omega
          · obtain rfl : i = n := by omega
            go_wp2
            go_ret
            rw [hs.out]
            exact ⟨rfl, rfl⟩
    refine (main ?_).mono (fun e w' h => by simpa using h)
    omega
end Go.Proofs.YtbllanmhbfnagaaDoor
namespace Go.Proofs.YtbllanmhbfnagaaDoor
open Go.RowKit Go.Sort
def mtB (L : List (List Int)) (n : Nat) : Bool := decide (n ≤ 64) && wideB L n
set_option maxHeartbeats 4000000 in
set_option maxRecDepth 100000 in
theorem rmatrix_any (a : Option Addr) (n c : Nat) (L : List (List Int)) (w : World) (hn : n ≤ 1000000) (hR : ArgR w a n L) (hbig : ∀ i, (L.getD i []).length ≤ 1000000) :
    Calls Tryd.prog 96 #[.slice a n c] w fun e w' => e = .returned (.bool (mtB L n)) ∧ Below w.heap.size w w' := by
  have HR := mkHid hR
  have HB := mkHid hbig
  clear hR hbig
  by_cases h64 : n ≤ 64
  · have HM : Hid (mtB L n = wideB L n) := mkHid (by unfold mtB; rw [decide_eq_true h64]; rfl)
    have d1 : decide ((64 : Int) < n) = false := decide_eq_false (by omega)
    go_enter Tryd.func96, Tryd.ntmps96
    go_wp2_with fail
    clear d1
    go_loopw [3] (fun c wr => ∃ i : Nat, c = .int .i64 i ∧ i ≤ n ∧ Hid (wideB L i = true) ∧ Hid (Below w.heap.size w wr)) (fun c _ => (n - intOf c).toNat)
    case atStart => exact ⟨0, rfl, by omega, mkHid rfl, mkHid (Below.refl _ _)⟩
    case round =>
      obtain ⟨i, rfl, hi, hs, hb⟩ := hrel
      have e2 : IntKind.i64.wrap ((i : Int) + 1) = ((i + 1 : Nat) : Int) := IntWalk.i64_in _ (by omega)
      by_cases hlt : i < n
      · as_aux_lemma =>
        obtain ⟨g, o, rfl, -, hc⟩ := (HR.out.below hb.out).here (by omega)
        obtain ⟨r, k, p, x1, ai⟩ := hc i hlt
        obtain ⟨r0, k0, p0, x0, a0⟩ := hc 0 (by omega)
        have hk : Hid (k = (L.getD i []).length) := mkHid ai.len
        have hk0 : Hid (k0 = (L.getD 0 []).length) := mkHid a0.len
        have hkb : k ≤ 1000000 := by rw [hk.out]; exact HB.out i
        have hkb0 : k0 ≤ 1000000 := by rw [hk0.out]; exact HB.out 0
        have ii : (i : Int) < n := by omega
        have i0 : (0 : Int) < n := by omega
        rw [Nat.add_zero] at x0
        clear hc ai a0
        by_cases hk64 : 64 < k
        · have t1 : decide ((64 : Int) < k) = true := decide_eq_true (by omega)
          have hno : Hid (wideB L n = false) := mkHid (wideB_no hlt (by rw [← hk.out, decide_eq_false (by omega), Bool.and_false]))
          go_upto_region 6 with (fail)
          have m1 := cell_regrown x1
          have m0 := cell_regrown x0
          clear x1 x0
          refine wp_region_quiet_below (by kernel_rfl) (by kernel_rfl) ?_
          repeat (go_big_quiet_step (with_reducible (fail)))
          refine wpQuiet_nil ?_
          intro _ hw'
          obtain ⟨⟨dq, osq⟩, hw''⟩ := hw'
          subst hw''
          have hbb := below_regrown wr dq osq
          have B2 := mkHid (hb.out.trans (hbb.mono hb.out.size))
          clear m1 m0 hbb hb
          generalize grow (redrawn wr dq) osq = wd at *
          go_wp2
          go_ret
          rw [HM.out, hno.out]
          exact ⟨rfl, B2.out⟩
        · have t1 : decide ((64 : Int) < k) = false := decide_eq_false (by omega)
          by_cases hkc : k = k0
          · have t2 : ((k : Int) == (k0 : Int)) = true := by rw [beq_iff_eq]; omega
            have t3 : ((k : Int) != (k0 : Int)) = false := by rw [bne, t2]; rfl
            have hst : Hid (wideB L (i + 1) = true) := mkHid (by rw [wideB_succ, hs.out, ← hk.out, ← hk0.out, hkc]; simp; omega)
            have HKC := mkHid hkc
            clear hkc
            go_upto_region 6 with (fail)
            have m1 := cell_regrown x1
            have m0 := cell_regrown x0
            clear x1 x0
            refine wp_region_quiet_below (by kernel_rfl) (by kernel_rfl) ?_
            repeat (go_big_quiet_step (with_reducible (fail)))
            refine wpQuiet_nil ?_
            intro _ hw'
            obtain ⟨⟨dq, osq⟩, hw''⟩ := hw'
            subst hw''
            have hbb := below_regrown wr dq osq
            have B2 := mkHid (hb.out.trans (hbb.mono hb.out.size))
            clear m1 m0 hbb hb
            generalize grow (redrawn wr dq) osq = wd at *
            go_wp2
            go_roundw
            case rel => exact ⟨i + 1, rfl, by omega, hst, B2⟩
            case measure => simp only [intOf]; omega
          · have t2 : ((k : Int) == (k0 : Int)) = false := by rw [beq_eq_false_iff_ne]; omega
            have t3 : ((k : Int) != (k0 : Int)) = true := by rw [bne, t2]; rfl
            have hno : Hid (wideB L n = false) := mkHid (wideB_no hlt (by rw [← hk.out, ← hk0.out, beq_eq_false_iff_ne.2 hkc, Bool.false_and]))
            have HKC := mkHid hkc
            have t4 : decide (k = k0) = false := decide_eq_false hkc
            clear hkc
            go_upto_region 6 with (fail)
            have m1 := cell_regrown x1
            have m0 := cell_regrown x0
            clear x1 x0
            refine wp_region_quiet_below (by kernel_rfl) (by kernel_rfl) ?_
            repeat (go_big_quiet_step (with_reducible (fail)))
            refine wpQuiet_nil ?_
            intro _ hw'
            obtain ⟨⟨dq, osq⟩, hw''⟩ := hw'
            subst hw''
            have hbb := below_regrown wr dq osq
            have B2 := mkHid (hb.out.trans (hbb.mono hb.out.size))
            clear m1 m0 hbb hb
            generalize grow (redrawn wr dq) osq = wd at *
            go_wp2
            go_ret
            rw [HM.out, hno.out]
            exact ⟨rfl, B2.out⟩
      · obtain rfl : n = i := by omega
        go_wp2
        go_ret
        rw [HM.out, hs.out]
        exact ⟨rfl, hb.out⟩
  · have HM : Hid (mtB L n = false) := mkHid (by unfold mtB; rw [decide_eq_false h64]; rfl)
    have d1 : decide ((64 : Int) < n) = true := decide_eq_true (by omega)
    go_enter Tryd.func96, Tryd.ntmps96
    go_wp2
    go_ret
    rw [HM.out]
    exact ⟨rfl, Below.refl _ _⟩
set_option maxHeartbeats 4000000 in
theorem rwidth_any (a : Option Addr) (n c : Nat) (L : List (List Int)) (w : World) (hR : ArgR w a n L) :
    Calls Tryd.prog 97 #[.slice a n c] w fun e w' => e = .returned (.int .i64 (colsN L)) ∧ w = w' := by
  by_cases h0 : n = 0
  · subst h0
    have hnil : L = [] := List.length_eq_zero_iff.1 hR.len.symm
    have HN : Hid (((colsN L : Nat) : Int) = 0) := mkHid (by rw [hnil]; rfl)
    clear hR
    go_enter Tryd.func97, Tryd.ntmps97
    go_wp2
    go_ret
    rw [HN.out]
    exact ⟨rfl, rfl⟩
  · obtain ⟨g, o, rfl, -, hc⟩ := hR.here (by omega)
    obtain ⟨r, k, p, x1, ai⟩ := hc 0 (by omega)
    have HK : Hid (((colsN L : Nat) : Int) = k) := mkHid (by unfold colsN; rw [← ai.len])
    rw [Nat.add_zero] at x1
    have n0 : ((n : Int) == 0) = false := by rw [beq_eq_false_iff_ne]; omega
    have n2 : decide (n = 0) = false := decide_eq_false h0
    have nn : (0 : Int) < n := by omega
    clear hc ai hR
    go_enter Tryd.func97, Tryd.ntmps97
    go_wp2
    go_ret
    rw [HK.out]
    exact ⟨rfl, rfl⟩
theorem rmul_s (n a b : Int) (w : World) : Calls Tryd.prog 29 #[.int .i64 n, .int .i64 a, .int .i64 b] w fun e w' => e = .returned (.int .i64 (mulI n a b)) ∧ w' = w := (rmul_any n a b w).mono fun _ _ h => ⟨h.1, h.2.symm⟩
theorem rsub_s (n a b : Int) (w : World) : Calls Tryd.prog 27 #[.int .i64 n, .int .i64 a, .int .i64 b] w fun e w' => e = .returned (.int .i64 (subI n a b)) ∧ w' = w := (rsub_any n a b w).mono fun _ _ h => ⟨h.1, h.2.symm⟩
def lessT (q t : Int) (row piv : List Int) (j : Nat) : List Int := (List.range j).map (fun j => subI q (row.getD j 0) (mulI q t (piv.getD j 0)))
theorem lessT_succ (q t : Int) (row piv : List Int) (j : Nat) : lessT q t row piv (j + 1) = lessT q t row piv j ++ [subI q (row.getD j 0) (mulI q t (piv.getD j 0))] := by simp [lessT, List.range_succ]
theorem lessT_len (q t : Int) (row piv : List Int) (j : Nat) : (lessT q t row piv j).length = j := by simp [lessT]
theorem lessT_all (q t : Int) (row piv : List Int) : lessT q t row piv row.length = lessR q t row piv := rfl
set_option maxHeartbeats 4000000 in
set_option maxRecDepth 100000 in
theorem rless_any (q t : Int) (a b : Option Addr) (n c m c2 : Nat) (row piv : List Int) (w : World) (hn : n ≤ 1000) (hnm : n ≤ m) (h1 : ArgI w a n row) (h2 : ArgI w b m piv) :
    Calls Tryd.prog 117 #[.int .i64 q, .slice a n c, .slice b m c2, .int .i64 t] w fun e w' => ∃ g off cap, e = .returned (.slice (some ⟨g, off, none⟩) n cap) ∧ OwnAt w' w.heap.size g off cap (iv (lessR q t row piv)) ∧ Below w.heap.size w w' := by
  have H1 := mkHid h1
  have H2 := mkHid h2
  have HL : Hid (row.length = n) := mkHid h1.len.symm
  clear h1 h2
  have hmx : Tryd.prog.follows .mixedOrders = true := by kernel_rfl
  have HMX := mkHid hmx
  clear hmx
  go_enter Tryd.func117, Tryd.ntmps117
  go_wp2_with fail
  have O0 : Hid (OwnAt (w.alloc (.cells #[] 3)) w.heap.size w.heap.size 0 0 (iv (lessT q t row piv 0))) := mkHid (own_new0 w 3 w.heap.size (Nat.le_refl _))
  have B0 : Hid (Below w.heap.size w (w.alloc (.cells #[] 3))) := mkHid ((Below.refl _ w).alloc (Nat.le_refl _) _)
  generalize w.alloc (.cells #[] 3) = w1 at *
  go_loopw [9, 10] (fun s d wr => ∃ (i g off cp : Nat), s = .slice (some ⟨g, off, none⟩) i cp ∧ d = .int .i64 i ∧ i ≤ n ∧ Hid (OwnAt wr w.heap.size g off cp (iv (lessT q t row piv i))) ∧ Hid (Below w.heap.size w wr)) (fun _ d _ => (n - intOf d).toNat)
  case atStart => exact ⟨0, w.heap.size, 0, 0, rfl, rfl, by omega, O0, B0⟩
  case round =>
    clear O0 B0
    obtain ⟨i, g, off, cp, rfl, rfl, hi, ho, hb⟩ := hrel
    have e2 : IntKind.i64.wrap ((i : Int) + 1) = ((i + 1 : Nat) : Int) := IntWalk.i64_in _ (by omega)
    by_cases hlt : i < n
    · obtain ⟨g1, o1, rfl, hc1, -⟩ := (H1.out.below hb.out).here (by omega)
      obtain ⟨g2, o2, rfl, hc2, -⟩ := (H2.out.below hb.out).here (by omega)
      have x1 := hc1 i hlt
      have x2 := hc2 i (by omega)
      have hap := mkHid (lessT_succ q t row piv i)
      obtain ⟨x, hx⟩ : ∃ x, row.getD i 0 = x := ⟨_, rfl⟩
      obtain ⟨y, hy⟩ : ∃ x, piv.getD i 0 = x := ⟨_, rfl⟩
      rw [hx] at x1 hap
      rw [hy] at x2 hap
      obtain ⟨z, hz⟩ : ∃ x, mulI q t y = x := ⟨_, rfl⟩
      rw [hz] at hap
      obtain ⟨v, hv⟩ : ∃ v, subI q x z = v := ⟨_, rfl⟩
      rw [hv] at hap
      have kM := rmul_s q t y wr.drew
      have kS := rsub_s q x z wr.drew
      rw [hz] at kM
      rw [hv] at kS
      have ii : (i : Int) < n := by omega
      have im : (i : Int) < m := by omega
      have hlen := mkHid (lessT_len q t row piv i)
      have y1 : wr.drew.cell? ⟨g1, o1 + i, none⟩ = some (.int .i64 x) := x1
      have y2 : wr.drew.cell? ⟨g2, o2 + i, none⟩ = some (.int .i64 y) := x2
      clear hc1 hc2 hx hy hz hv
      go_upto_region 5 with (fail)
      refine wp_region_mst (.slice (some ⟨g, off, none⟩) i cp) 13 (by kernel_rfl) (by kernel_rfl) (fun _ _ _ h => h) (Or.inl ⟨by rfl, fun _ => rfl⟩) ?_
      simp only [List.take_succ_cons, List.take_zero, List.drop_succ_cons, List.drop_zero]
      repeat (first | still_step | still_call kM | still_call kS)
      try refine wpStill_nil ?_
      clear y1 y2 x1 x2 kM kS ii im
      have OD := mkHid (ho.out.of_block (w' := wr.drew) rfl (Nat.le_refl _))
      have BD := mkHid (hb.out.trans ((below_drew wr).mono hb.out.size))
      have SA : Hid (w.heap.size ≤ wr.drew.heap.size) := mkHid BD.out.size
      go_wp2_with (at_builtin; refine app_ints wr.drew w.heap.size rfl (.tmp 18) (.tmp 32) rfl (some ⟨g, off, none⟩) cp i (lessT q t row piv i) ?q1 ?q2 OD.out.s SA.out 1 1 #[.int .i64 v] 3 [v] ?q3 rfl rfl (by omega) ?q4 ?_; (case q1 => exact hlen.out.symm); (case q2 => rfl); (case q3 => rfl); (case q4 => omega); intro g4 off4 c4 wb o8 b8; have OB := mkHid o8; have B8 := mkHid b8; clear o8 b8)
      go_roundw
      case rel => exact ⟨i + 1, g4, off4, c4, rfl, rfl, by omega, mkHid (by rw [hap.out]; exact OB.out), mkHid (BD.out.trans B8.out)⟩
      case measure => simp only [intOf]; omega
    · obtain rfl : n = i := by omega
      have hall : lessT q t row piv n = lessR q t row piv := by rw [← HL.out]; rfl
      rw [hall] at ho
      clear hall
      go_wp2_with fail
      go_ret
      exact ⟨g, off, cp, rfl, ho.out, hb.out⟩
end Go.Proofs.YtbllanmhbfnagaaDoor
namespace Go.Proofs.YtbllanmhbfnagaaDoor
open Go.RowKit Go.Sort
theorem one_slice (a : Option Addr) (n c : Nat) : ∀ u ∈ (#[Value.slice a n c] : Array Value).toList, u.oneCell' = true := fun u hu => by
  have e : u = .slice a n c := by simpa using hu
  rw [e]; rfl
set_option maxHeartbeats 8000000 in
set_option maxRecDepth 100000 in
theorem rres_any (q : Int) (a b : Option Addr) (n c c2 C : Nat) (L : List (List Int)) (bl : List Int) (w : World) (hq1 : 1 ≤ q) (hq2 : q < 2305843009213693952) (hn : n ≤ 64) (hC : C ≤ 64) (hR : ArgR w a n L) (hI : ArgI w b n bl) (hw : ∀ i, i < n → (L.getD i []).length = C) :
    Calls Tryd.prog 99 #[.int .i64 q, .slice a n c, .slice b n c2] w fun e w' => ∃ ao cap hs, e = .returned (.slice ao n cap) ∧ PartR w' w.heap.size cap (C + 1) ao hs (augM q L bl n) ∧ (∃ R ro, ao = some ⟨R, ro, none⟩) ∧ Below w.heap.size w w' := by
  have HR := mkHid hR
  have HI := mkHid hI
  have HW := mkHid hw
  have HQ := mkHid (And.intro hq1 hq2)
  clear hR hI hw hq1 hq2
  go_enter Tryd.func99, Tryd.ntmps99
  go_wp2_with fail
  have P0 : Hid (PartR (w.alloc (.cells #[] 42)) w.heap.size 0 (C + 1) (some ⟨w.heap.size, 0, none⟩) [] (augM q L bl 0)) := mkHid (by
    have h : augM q L bl 0 = [] := rfl
    rw [h]
    exact ⟨(own_new0 w 42 w.heap.size (Nat.le_refl _)).s, rfl, fun i h hi => by simp at hi, fun i hi => by simp at hi, fun i j x y hi => by simp at hi, fun h hm => by simp at hm⟩)
  have B0 : Hid (Below w.heap.size w (w.alloc (.cells #[] 42))) := mkHid ((Below.refl _ w).alloc (Nat.le_refl _) _)
  have S0 : Hid (w.heap.size ≤ w.heap.size) := mkHid (Nat.le_refl _)
  generalize hG : w.heap.size = G at *
  have HG := mkHid hG
  clear hG
  generalize w.alloc (.cells #[] 42) = w1 at *
  go_loopw [7, 8] (fun s d wr => ∃ (i R ro cp : Nat) (hs : List (Nat × Nat × Nat)), s = .slice (some ⟨R, ro, none⟩) i cp ∧ d = .int .i64 i ∧ i ≤ n ∧ Hid (PartR wr G cp (C + 1) (some ⟨R, ro, none⟩) hs (augM q L bl i)) ∧ Hid (Below G w wr)) (fun _ d _ => (n - intOf d).toNat)
  case atStart => exact ⟨0, G, 0, 0, [], rfl, rfl, by omega, P0, B0⟩
  case round =>
    clear P0 B0
    obtain ⟨i, R, ro, cp, hs, rfl, rfl, hi, hp, hb⟩ := hrel
    have e1 : IntKind.i64.wrap ((i : Int) + 1) = ((i + 1 : Nat) : Int) := IntWalk.i64_in _ (by omega)
    by_cases hlt : i < n
    · as_aux_lemma =>
      have ii : (i : Int) < n := by omega
      have PT := mkHid hp.out.atT
      have GT : Hid (G ≤ wr.heap.size) := mkHid (by have := hb.out.size; have := HG.out; omega)
      obtain ⟨l, hl⟩ : ∃ l, L.getD i [] = l := ⟨_, rfl⟩
      have HL := mkHid hl
      have HLL : Hid (l.length = C) := mkHid (by rw [← hl]; exact HW.out i hlt)
      clear hl
      have hap := mkHid (augM_succ q L bl i)
      go_wp2_with fail
      have O0 : Hid (OwnS (wr.alloc (.cells #[] 3)) wr.heap.size 0 (iv (resRow q (l.take 0))) (some ⟨wr.heap.size, 0, none⟩)) := mkHid (own_new0 wr 3 wr.heap.size (Nat.le_refl _)).s
      have B0 : Hid (Below wr.heap.size wr (wr.alloc (.cells #[] 3))) := mkHid ((Below.refl _ wr).alloc (Nat.le_refl _) _)
      generalize wr.alloc (.cells #[] 3) = w2 at *
      generalize hT : wr.heap.size = T at *
      have HT := mkHid hT
      clear hT
      generalize wr = wo at *
      go_loopw [9, 10] (fun s d wq => ∃ (j : Nat) (ar : Option Addr) (cr : Nat), s = .slice ar j cr ∧ d = .int .i64 j ∧ j ≤ C ∧ Hid (OwnS wq T cr (iv (resRow q (l.take j))) ar) ∧ Hid (Below T wo wq)) (fun _ d _ => (C - intOf d).toNat)
      case atStart => exact ⟨0, some ⟨T, 0, none⟩, 0, rfl, rfl, by omega, O0, B0⟩
      case round =>
        clear O0 B0
        obtain ⟨j, ar, cr, rfl, rfl, hj, ho, hbq⟩ := hrel
        have e2 : IntKind.i64.wrap ((j : Int) + 1) = ((j + 1 : Nat) : Int) := IntWalk.i64_in _ (by omega)
        have BW : Hid (Below G w wr) := mkHid (hb.out.trans (hbq.out.mono GT.out))
        have SA : Hid (T ≤ wr.heap.size) := mkHid (by have := hbq.out.size; have := HT.out; omega)
        have hlen : Hid ((resRow q (l.take j)).length = j) := mkHid (by simp [resRow]; have := HLL.out; omega)
        obtain ⟨g, o, rfl, -, hcr⟩ := (HR.out.kept HG.out BW.out).here (by omega)
        obtain ⟨ra, rn, rc, x1, ai⟩ := hcr i hlt
        have hrn : rn = C := by rw [ai.len, HL.out, HLL.out]
        subst hrn
        clear hcr
        by_cases hjl : j < rn
        · rw [HL.out] at ai
          obtain ⟨gr, orr, rfl, hc1, -⟩ := ai.here (by omega)
          have x2 := hc1 j hjl
          have hap2 := mkHid (resRow_take q l j (by rw [HLL.out]; exact hjl))
          obtain ⟨x, hx⟩ : ∃ x, l.getD j 0 = x := ⟨_, rfl⟩
          rw [hx] at x2 hap2
          have kR := rresidue_any q x wr HQ.out.1 HQ.out.2
          obtain ⟨y, hy⟩ : ∃ y, x % q = y := ⟨_, rfl⟩
          rw [hy] at kR hap2
          have KR := mkHid kR
          have jn : (j : Int) < rn := by omega
          clear kR hx hy hc1 ai
          go_wp2_with fail
          refine KR.out.mono ?_
          rintro e w' ⟨rfl, rfl⟩
          go_wp2_with (at_builtin; refine app_ints wr T rfl (.tmp 28) (.tmp 38) rfl ar cr j (resRow q (l.take j)) ?q1 ?q2 ho.out SA.out 1 1 #[.int .i64 y] 3 [y] ?q3 rfl rfl (by omega) ?q4 ?_; (case q1 => exact hlen.out.symm); (case q2 => rfl); (case q3 => rfl); (case q4 => omega); intro g4 off4 c4 wb o8 b8; have OB := mkHid o8; have B8 := mkHid b8; clear o8 b8)
          go_roundw
          case rel => exact ⟨j + 1, some ⟨g4, off4, none⟩, c4, rfl, rfl, by omega, mkHid (by rw [hap2.out]; exact OB.out.s), mkHid (hbq.out.trans B8.out)⟩
          case measure => simp only [intOf]; omega
        · obtain rfl : rn = j := by omega
          have hlt2 : l.take rn = l := List.take_of_length_le (by rw [HLL.out]; exact Nat.le_refl _)
          rw [hlt2] at ho hlen
          clear hlt2 ai
          obtain ⟨gb, ob, rfl, hcb, -⟩ := (HI.out.kept HG.out.symm BW.out).here (by omega)
          have x3 := hcb i hlt
          obtain ⟨x, hx⟩ : ∃ x, bl.getD i 0 = x := ⟨_, rfl⟩
          rw [hx] at x3 hap
          rw [HL.out] at hap
          have kR := rresidue_any q x wr HQ.out.1 HQ.out.2
          obtain ⟨y, hy⟩ : ∃ y, x % q = y := ⟨_, rfl⟩
          rw [hy] at kR hap
          have KR := mkHid kR
          have jn2 : decide ((rn : Int) < rn) = false := decide_eq_false (by omega)
          clear kR hx hy hcb
          obtain ⟨i0, hi0, hz0, hz1, hz2⟩ := info_parts info_rows
          have HI0 := mkHid hi0; have HZ0 := mkHid hz0; have HZ1 := mkHid hz1; have HZ2 := mkHid hz2
          clear hi0 hz0 hz1 hz2
          go_wp2_with fail
          refine KR.out.mono ?_
          rintro e w' ⟨rfl, rfl⟩
          have hl6 : i ≤ 64 := by omega
          go_wp2_with (first
            | (at_builtin; refine app_ints wr T rfl (.tmp 41) (.tmp 48) rfl ar cr rn (resRow q l) ?q1 ?q2 ho.out SA.out 1 1 #[.int .i64 y] 3 [y] ?q3 rfl rfl (by omega) ?q4 ?_; (case q1 => exact hlen.out.symm); (case q2 => rfl); (case q3 => rfl); (case q4 => omega); intro g4 off4 c4 wb o8 b8; have OB := mkHid o8; have B8 := mkHid b8; clear o8 b8; have P5 := mkHid (PT.out.later (hbq.out.trans B8.out)); have Z5 : Hid (G ≤ wb.heap.size) := mkHid (by have := OB.out.lt; have := OB.out.own; have := GT.out; omega); have h1c : Hid (∀ u ∈ (#[Value.slice (some ⟨g4, off4, none⟩) (rn + 1) c4] : Array Value).toList, u.oneCell' = true) := mkHid (one_slice _ _ _))
            | (at_builtin; refine wpList_append_new wb G rfl (.tmp 40) (.tmp 50) 52 rfl 42 i0 (.slice none 0 0) 24 Tryd.underlying52 HI0.out HZ0.out HZ1.out HZ2.out rfl (some ⟨R, ro, none⟩) cp (hs.map (hv (rn + 1))) i ?p1 ?p2 P5.out.part.top Z5.out 1 1 #[.slice (some ⟨g4, off4, none⟩) (rn + 1) c4] 42 ?p3 rfl (by omega) ?p5 ?p6 ?p7 ?_; (case p1 => rw [List.length_map, P5.out.part.len, augM_len]); (case p2 => rfl); (case p3 => rfl); (case p5 => exact h1c.out); (case p6 => simp only [maxLen]; omega); (case p7 => omega); intro g6 off6 c6 w6 o6 gr6 b6 or6; have O6 := mkHid o6; have GR6 := mkHid gr6; have B6 := mkHid b6; have OR6 := mkHid or6; clear o6 gr6 b6 or6))
          have P6 := mkHid (P5.out.add (row := resRow q l ++ [y]) OB.out GT.out (by rw [List.length_append, hlen.out]; rfl) O6.out GR6.out OR6.out)
          have D6 : Hid (Below G w w6) := mkHid ((BW.out.trans (B8.out.mono GT.out)).trans B6.out)
          go_wp2_with fail
          go_roundw
          case rel => exact ⟨i + 1, g6, off6, c6, hs ++ [(g4, off4, c4)], rfl, rfl, by omega, mkHid (by rw [hap.out]; exact P6.out), D6⟩
          case measure => simp only [intOf]; omega
    · obtain rfl : n = i := by omega
      go_wp2_with fail
      go_ret
      exact ⟨some ⟨R, ro, none⟩, cp, hs, rfl, by rw [HG.out]; exact hp.out, ⟨R, ro, rfl⟩, by rw [HG.out]; exact hb.out⟩
end Go.Proofs.YtbllanmhbfnagaaDoor
namespace Go.Proofs.YtbllanmhbfnagaaDoor
open Go.RowKit Go.Sort
def BdM (q : Int) (M : List (List Int)) : Prop := ∀ i j, 0 ≤ (M.getD i []).getD j 0 ∧ (M.getD i []).getD j 0 < q
/-- The matrix of a step, ahead of the elimination. -/
def preF (q : Int) (M : List (List Int)) (k a col : Nat) : List (List Int) := (M.set a (M.getD k [])).set k (normR q (invI q ((M.getD a []).getD col 0)) (M.getD a []))
theorem set3 {α : Type} (M : List α) (k a : Nat) (x y z : α) : ((M.set k x).set a y).set k z = (M.set a y).set k z := by
  apply List.ext_getElem?
  intro i
  simp only [List.getElem?_set, List.length_set]
  by_cases h1 : k = i
  · simp [h1]
  · by_cases h2 : a = i
    · simp [h1, h2]
    · simp [h1, h2]
theorem stepF_pre {q : Int} {S : List (List Int)} {l : List Nat} {col a : Nat} (h : pickF S col l.length = some a) : stepF q (S, l) col = (elimF q l.length col (preF q S l.length a col), l ++ [col]) := by
  rw [stepF_yes h, set3]; rfl
theorem bd_set {q : Int} {M : List (List Int)} {i : Nat} {r : List Int} (h : BdM q M) (hr : ∀ j, 0 ≤ r.getD j 0 ∧ r.getD j 0 < q) : BdM q (M.set i r) := by
  intro k j
  by_cases hk : i < M.length
  · rw [getD_set _ _ _ _ _ hk]
    split
    · exact hr j
    · exact h k j
  · rw [List.set_eq_of_length_le (by omega)]; exact h k j
theorem norm_bd {q inv : Int} {r : List Int} (hq : modB q = true) (j : Nat) : 0 ≤ (normR q inv r).getD j 0 ∧ (normR q inv r).getD j 0 < q := by
  have := modB_iff.1 hq
  rw [norm_get hq]; exact emod_bd _ _ this.1
theorem less_bd {q t : Int} {r p : List Int} (hq : modB q = true) (j : Nat) : 0 ≤ (lessR q t r p).getD j 0 ∧ (lessR q t r p).getD j 0 < q := by
  have := modB_iff.1 hq
  by_cases h : j < r.length
  · rw [less_get hq j h]; exact emod_bd _ _ this.1
  · rw [less_out j h]; omega
theorem pre_bd {q : Int} {M : List (List Int)} {k a col : Nat} (hq : modB q = true) (h : BdM q M) : BdM q (preF q M k a col) := bd_set (bd_set h (fun j => h k j)) (fun j => norm_bd hq j)
theorem elim_bd {q : Int} {M : List (List Int)} {k col : Nat} (hq : modB q = true) (h : BdM q M) : BdM q (elimF q k col M) := by
  intro i j
  by_cases hi : i < M.length
  · rw [elimF_at q k col M i hi]
    split
    · exact h i j
    · exact less_bd hq j
  · have : (elimF q k col M).getD i [] = [] := by rw [List.getD, List.getElem?_eq_none (by rw [elimF_len]; omega)]; rfl
    rw [this]
    have := modB_iff.1 hq
    simp [List.getD]; omega
theorem step_bd {q : Int} {M : List (List Int)} {l : List Nat} {col : Nat} (hq : modB q = true) (h : BdM q M) : BdM q (stepF q (M, l) col).1 := by
  cases hp : pickF M col l.length with
  | none => rw [stepF_no hp]; exact h
  | some a => rw [stepF_pre hp]; exact elim_bd hq (pre_bd hq h)
theorem redF_bd {q : Int} {M : List (List Int)} (hq : modB q = true) (h : BdM q M) : ∀ n, BdM q (redF q M n).1
  | 0 => h
  | n + 1 => step_bd (M := (redF q M n).1) (l := (redF q M n).2) hq (redF_bd hq h n)
theorem less_zero {q : Int} {r p : List Int} (hq : modB q = true) (h : ∀ j, 0 ≤ r.getD j 0 ∧ r.getD j 0 < q) : lessR q 0 r p = r := by
  refine list_eq_of2 (by rw [lessR_len]) (fun j hj => ?_)
  rw [lessR_len] at hj
  rw [less_get hq j hj, Int.zero_mul, Int.sub_zero]
  exact Int.emod_eq_of_lt (h j).1 (h j).2
where
  list_eq_of2 {l1 l2 : List Int} (hl : l1.length = l2.length) (h : ∀ j, j < l1.length → l1.getD j 0 = l2.getD j 0) : l1 = l2 := by
    apply List.ext_getElem hl
    intro i h1 h2
    have := h i h1
    simpa [List.getD, h1, h2] using this
theorem elim_row {q : Int} {M : List (List Int)} {k col i : Nat} (hq : modB q = true) (h : BdM q M) (hi : i < M.length) (hk : i ≠ k) : (elimF q k col M).getD i [] = lessR q ((M.getD i []).getD col 0) (M.getD i []) (M.getD k []) := by
  rw [elimF_at q k col M i hi]
  by_cases e : (M.getD i []).getD col 0 = 0
  · rw [if_pos (.inr e), e, less_zero hq (fun j => h i j)]
  · rw [if_neg (fun x => x.elim hk e)]
theorem pre_len {q : Int} {M : List (List Int)} {k a col : Nat} : (preF q M k a col).length = M.length := by simp [preF]
theorem pre_k {q : Int} {M : List (List Int)} {k a col : Nat} (hk : k < M.length) : (preF q M k a col).getD k [] = normR q (invI q ((M.getD a []).getD col 0)) (M.getD a []) := by
  unfold preF; rw [getD_set _ _ _ _ _ (by rw [List.length_set]; exact hk), if_pos rfl]
/-- Rows that the reference reads: the headers are the call's own; what the rows hold is only read. -/
structure RefW (w : World) (B R ro cap C : Nat) (hs : List (Nat × Nat × Nat)) (M : List (List Int)) : Prop where
  top : OwnAt w B R ro cap (hs.map (hv C))
  len : hs.length = M.length
  each : ∀ (i : Nat) (h : Nat × Nat × Nat), hs[i]? = some h → ArgI w (some ⟨h.1, h.2.1, none⟩) C (M.getD i []) ∧ h.1 ≠ R
theorem PartR.ref {w : World} {B cap C R ro : Nat} {hs : List (Nat × Nat × Nat)} {M : List (List Int)} (h : PartR w B cap C (some ⟨R, ro, none⟩) hs M) : RefW w B R ro cap C hs M := by
  have ht := h.top
  refine ⟨?_, h.len, fun i x hx => ⟨(h.each i x hx).arg (h.wide i (by rw [← h.len]; exact (List.getElem?_eq_some_iff.1 hx).1)).symm, fun e => h.apart x (List.mem_of_getElem? hx) (by rw [← e]; rfl)⟩⟩
  cases ht with
  | «at» g o h' => exact h'
theorem RefW.step {w w' : World} {B R ro cap C : Nat} {hs : List (Nat × Nat × Nat)} {M : List (List Int)} (h : RefW w B R ro cap C hs M) (hb : Below w.heap.size w w') : RefW w' B R ro cap C hs M :=
  ⟨h.top.of_block (hb.block R h.top.lt) hb.size, h.len, fun i x hx => ⟨(h.each i x hx).1.below hb, (h.each i x hx).2⟩⟩
theorem RefW.wide {w : World} {B R ro cap C : Nat} {hs : List (Nat × Nat × Nat)} {M : List (List Int)} (h : RefW w B R ro cap C hs M) (i : Nat) (hi : i < M.length) : (M.getD i []).length = C := by
  have hl : i < hs.length := by rw [h.len]; exact hi
  exact (h.each i hs[i] (List.getElem?_eq_getElem hl)).1.len.symm
/-- Row i, told to the walk. -/
theorem RefW.row {w : World} {B R ro cap C : Nat} {hs : List (Nat × Nat × Nat)} {M : List (List Int)} (h : RefW w B R ro cap C hs M) (i : Nat) (hi : i < M.length) :
    ∃ b o c, hs[i]? = some (b, o, c) ∧ w.cell? ⟨R, ro + i, none⟩ = some (.slice (some ⟨b, o, none⟩) C c) ∧ ArgI w (some ⟨b, o, none⟩) C (M.getD i []) ∧ b ≠ R := by
  have hl : i < hs.length := by rw [h.len]; exact hi
  obtain ⟨⟨b, o, c⟩, hx⟩ : ∃ x, hs[i]? = some x := ⟨_, List.getElem?_eq_getElem hl⟩
  exact ⟨b, o, c, hx, h.top.cells i (hv C (b, o, c)) (by rw [List.getElem?_map, hx]; rfl), (h.each i _ hx).1, (h.each i _ hx).2⟩
theorem ArgI.at {w : World} {b o C : Nat} {l : List Int} (h : ArgI w (some ⟨b, o, none⟩) C l) (j : Nat) (hj : j < C) : w.cell? ⟨b, o + j, none⟩ = some (.int .i64 (l.getD j 0)) := by
  obtain ⟨g', o', he, hc, -⟩ := h.here (by omega)
  injection he with he; injection he with e1 e2
  subst e1 e2
  exact hc j hj
theorem ArgI.other {w : World} {b o C R k : Nat} {l : List Int} (h : ArgI w (some ⟨b, o, none⟩) C l) (hb : b ≠ R) (v : Value) : ArgI (w.setCell ⟨R, k, none⟩ v) (some ⟨b, o, none⟩) C l := by
  refine ⟨h.len, fun h0 => ?_⟩
  obtain ⟨g', o', he, hc, hl⟩ := h.here h0
  injection he with he'; injection he' with e1 e2
  subst e1 e2
  exact ⟨b, o, rfl, fun j hj => (World.cell?_of_block (w := w) (a := ⟨b, o + j, none⟩) (heap_setCell_other w _ b v hb)).trans (hc j hj), by rw [World.size_setCell]; exact hl⟩
/-- A header is set: row i is now the slice (g, o, c). -/
theorem RefW.setRow {w : World} {B R ro cap C : Nat} {hs : List (Nat × Nat × Nat)} {M : List (List Int)} (h : RefW w B R ro cap C hs M) (i : Nat) (x : Nat × Nat × Nat) (row : List Int) (hi : i < M.length) (hx : ArgI w (some ⟨x.1, x.2.1, none⟩) C row) (hg : x.1 ≠ R) :
    RefW (w.setCell ⟨R, ro + i, none⟩ (hv C x)) B R ro cap C (hs.set i x) (M.set i row) := by
  have hil : i < hs.length := by rw [h.len]; exact hi
  refine ⟨by rw [List.map_set]; exact h.top.set i (hv C x) (by rw [List.length_map]; exact hil), by simp [h.len], ?_⟩
  intro k y hy
  rw [getD_set _ _ _ _ _ hi]
  by_cases e : i = k
  · subst e
    rw [List.getElem?_set_self hil] at hy
    obtain rfl : x = y := Option.some.inj hy
    rw [if_pos rfl]
    exact ⟨hx.other hg _, hg⟩
  · rw [List.getElem?_set_ne e] at hy
    rw [if_neg e]
    obtain ⟨h1, h2⟩ := h.each k y hy
    exact ⟨h1.other h2 _, h2⟩
theorem RefW.warm {w : World} {B R ro cap C : Nat} {hs : List (Nat × Nat × Nat)} {M : List (List Int)} (h : RefW w B R ro cap C hs M) (i : Nat) (hi : i < M.length) : w.frozen? ⟨R, ro + i, none⟩ = false := by
  have h1 := h.top.le
  rw [List.length_map, h.len] at h1
  exact h.top.warm i (by omega)
/-- Where no memory but block R has turned. -/
theorem RefW.same {w w' : World} {B R ro cap C : Nat} {hs : List (Nat × Nat × Nat)} {M : List (List Int)} (h : RefW w B R ro cap C hs M) (hb : w'.heap = w.heap) : RefW w' B R ro cap C hs M :=
  ⟨h.top.of_block (by rw [hb]) (by rw [hb]; exact Nat.le_refl _), h.len, fun i x hx => ⟨⟨(h.each i x hx).1.len, fun h0 => by
    obtain ⟨g, o, e, hc, hl⟩ := (h.each i x hx).1.here h0
    exact ⟨g, o, e, fun j hj => (World.cell?_of_block (w := w) (a := ⟨g, o + j, none⟩) (by rw [hb])).trans (hc j hj), by rw [hb]; exact hl⟩⟩, (h.each i x hx).2⟩⟩
/-- No row lies in the block of a slice. -/
def Apt (hs : List (Nat × Nat × Nat)) (ao : Option Addr) : Prop := ∀ h ∈ hs, blk ao ≠ some h.1
theorem Apt.set {hs : List (Nat × Nat × Nat)} {ao : Option Addr} (h : Apt hs ao) (i : Nat) {x : Nat × Nat × Nat} (hx : blk ao ≠ some x.1) : Apt (hs.set i x) ao := by
  intro y hy
  rcases List.mem_or_eq_of_mem_set hy with h1 | rfl
  · exact h y h1
  · exact hx
theorem OwnS.blt {w : World} {B cap : Nat} {xs : List Value} {ao : Option Addr} (h : OwnS w B cap xs ao) {g : Nat} (hg : w.heap.size ≤ g) : blk ao ≠ some g := by
  intro e
  cases h with
  | nil => cases e
  | «at» g' o h' =>
    obtain rfl : g' = g := Option.some.inj e
    have := h'.lt
    omega
theorem RefW.blt {w : World} {B R ro cap C : Nat} {hs : List (Nat × Nat × Nat)} {M : List (List Int)} (h : RefW w B R ro cap C hs M) (hC : 0 < C) {x : Nat × Nat × Nat} (hx : x ∈ hs) : x.1 < w.heap.size := by
  obtain ⟨i, hi⟩ := List.mem_iff_getElem?.1 hx
  obtain ⟨g', o', he, -, hl⟩ := (h.each i x hi).1.here hC
  injection he with he; injection he with e1 e2
  omega
theorem RefW.grown {w w' : World} {B R ro cap C : Nat} {hs : List (Nat × Nat × Nat)} {M : List (List Int)} {ao : Option Addr} (h : RefW w B R ro cap C hs M) (hC : 0 < C) (hg : w.grownBy w' (blk ao)) (hR : blk ao ≠ some R) (ha : Apt hs ao) : RefW w' B R ro cap C hs M := by
  refine ⟨h.top.of_block (hg.block R h.top.lt (fun e => hR e.symm)) hg.size, h.len, fun i x hx => ?_⟩
  have hm := List.mem_of_getElem? hx
  obtain ⟨h1, h2⟩ := h.each i x hx
  refine ⟨⟨h1.len, fun h0 => ?_⟩, h2⟩
  obtain ⟨g', o', he, hc, hl⟩ := h1.here h0
  have he2 := he
  injection he2 with he2; injection he2 with e1 e2
  exact ⟨g', o', he, fun j hj => (World.cell?_of_block (w := w) (a := ⟨g', o' + j, none⟩) (hg.block g' hl (fun e => ha x hm (by rw [e1]; exact e.symm)))).trans (hc j hj), Nat.lt_of_lt_of_le hl hg.size⟩
end Go.Proofs.YtbllanmhbfnagaaDoor
namespace Go.Proofs.YtbllanmhbfnagaaDoor
open Go.RowKit Go.Sort
/-- What the search for a pivot has found when the rows from m on are seen. -/
def Found (M : List (List Int)) (col m n : Nat) (at' : Int) : Prop :=
  (at' = -1 ∧ ∀ j, m ≤ j → j < n → (M.getD j []).getD col 0 = 0) ∨ (∃ a : Nat, at' = (a : Int) ∧ m ≤ a ∧ a < n ∧ (M.getD a []).getD col 0 ≠ 0 ∧ ∀ j, m ≤ j → j < a → (M.getD j []).getD col 0 = 0)
theorem Found.bd {M : List (List Int)} {col m n : Nat} {a : Int} (h : Found M col m n a) : -1 ≤ a ∧ a < n := by
  rcases h with ⟨rfl, _⟩ | ⟨b, rfl, _, h, _⟩ <;> omega
theorem normR_take (q v : Int) (l : List Int) (j : Nat) (h : j < l.length) : normR q v (l.take (j + 1)) = normR q v (l.take j) ++ [mulI q (l.getD j 0) v] := by
  unfold normR
  rw [List.take_succ_eq_append_getElem h, List.map_append]
  simp [List.getD, h]
theorem cell_of_below2 {w w' : World} {a : Addr} {v : Value} (h : w.cell? a = some v) (hb : Below w.heap.size w w') : w'.cell? a = some v := (hb.cell (World.block_lt_of_cell? w a h)).trans h
theorem Only.set (w : World) (R k : Nat) (v : Value) : Only w (w.setCell ⟨R, k, none⟩ v) (fun g => g = R) := (Only.refl w _).setCell v rfl
set_option maxHeartbeats 8000000 in
set_option maxRecDepth 100000 in
theorem rreduced_any (q : Int) (B R ro cap C cn n : Nat) (hs : List (Nat × Nat × Nat)) (M : List (List Int)) (w : World) (hq : modB q = true) (hM : RefW w B R ro cap C hs M) (hn : M.length = n) (hcn : cn ≤ 64) (hcC : 0 < n → cn ≤ C) (hn64 : n ≤ 64) (hC : C ≤ 65) (hbd : BdM q M) (hapt : ∀ g, w.heap.size ≤ g → Apt hs (some ⟨g, 0, none⟩)) :
    Calls Tryd.prog 98 #[.int .i64 q, .slice (some ⟨R, ro, none⟩) n cap, .int .i64 cn] w fun e w' => ∃ ao cp hs', e = .returned (.tuple #[.slice (some ⟨R, ro, none⟩) n cap, .slice ao (redF q M cn).2.length cp]) ∧ OwnS w' w.heap.size cp (iv (pvI (redF q M cn).2)) ao ∧
      RefW w' B R ro cap C hs' (redF q M cn).1 ∧ Only w w' (fun g => g = R) := by
  have HM := mkHid hM
  have HQ := mkHid hq
  have HN := mkHid hn
  have HBD := mkHid hbd
  have HCC := mkHid hcC
  have RL := mkHid hM.top.lt
  clear hM hq hn hbd hcC
  go_enter Tryd.func98, Tryd.ntmps98
  go_wp2_with fail
  have O0 : Hid (OwnS (w.alloc (.cells #[] 3)) w.heap.size 0 (iv (pvI (redF q M 0).2)) (some ⟨w.heap.size, 0, none⟩)) := mkHid (own_new0 w 3 w.heap.size (Nat.le_refl _)).s
  have b0 : Below w.heap.size w (w.alloc (.cells #[] 3)) := (Below.refl _ w).alloc (Nat.le_refl _) _
  have M0 : Hid (RefW (w.alloc (.cells #[] 3)) B R ro cap C hs (redF q M 0).1) := mkHid (HM.out.step b0)
  have N0 : Hid (Only w (w.alloc (.cells #[] 3)) (fun g => g = R)) := mkHid (.of_below b0)
  have K0 : (redF q M 0).2.length = 0 := rfl
  have AP0 : Hid (Apt hs (some ⟨w.heap.size, 0, none⟩)) := mkHid (hapt _ (Nat.le_refl _))
  clear b0
  generalize hG : w.heap.size = G at *
  have HG := mkHid hG
  clear hG
  generalize w.alloc (.cells #[] 3) = w1 at *
  go_loopw [8, 9] (fun s d wr => ∃ (col k : Nat) (ao : Option Addr) (cp : Nat) (hs' : List (Nat × Nat × Nat)), s = .slice ao k cp ∧ d = .int .i64 col ∧ col ≤ cn ∧ Hid (k = (redF q M col).2.length) ∧ Hid (OwnS wr G cp (iv (pvI (redF q M col).2)) ao) ∧ Hid (RefW wr B R ro cap C hs' (redF q M col).1) ∧ Hid (Only w wr (fun g => g = R)) ∧ Hid (Apt hs' ao)) (fun _ d _ => (cn - intOf d).toNat)
  case atStart => exact ⟨0, 0, some ⟨G, 0, none⟩, 0, hs, rfl, rfl, by omega, mkHid rfl, O0, M0, N0, AP0⟩
  case round =>
    clear O0 M0 N0 K0
    obtain ⟨col, k, ao, cp, hs', rfl, rfl, hcol, hk, ho, hw, hon, hap0⟩ := hrel
    have hlen := redF_len q M col
    have hpv := redF_piv q M col
    have hbd := mkHid (redF_bd (M := M) HQ.out HBD.out col)
    by_cases hlt : col < cn
    · have hstep : Hid (redF q M (col + 1) = stepF q (redF q M col) col) := mkHid rfl
      obtain ⟨⟨S, pl⟩, hS⟩ : ∃ S, redF q M col = S := ⟨_, rfl⟩
      rw [hS] at hk ho hw hlen hpv hstep hbd
      clear hS
      replace hlen : S.length = M.length := hlen
      replace hk : Hid (k = pl.length) := hk
      replace ho : Hid (OwnS wr G cp (iv (pvI pl)) ao) := ho
      replace hw : Hid (RefW wr B R ro cap C hs' S) := hw
      replace hbd : Hid (BdM q S) := hbd
      have hkn : k ≤ n := by rw [hk.out, ← HN.out]; exact hpv.1
      have HSN : Hid (S.length = n) := mkHid (by rw [hlen, HN.out])
      clear hlen hpv
      have cc : (col : Int) < cn := by omega
      have e1 : IntKind.i64.wrap ((col : Int) + 1) = ((col + 1 : Nat) : Int) := IntWalk.i64_in _ (by omega)
      have e2 : IntKind.i64.wrap ((n : Int) - 1) = (n : Int) - 1 := IntWalk.i64_in _ (by omega)
      have SG : Hid (G ≤ wr.heap.size) := mkHid (by have := hon.out.size; have := HG.out; omega)
      generalize wr = wo at *
      go_wp2_with fail
      go_loopw [11, 12] (fun s d wq => ∃ (at' : Int) (d' : Nat), s = .int .i64 at' ∧ d = .int .i64 ((n : Int) - 1 - d') ∧ d' + k ≤ n ∧ Hid (Found S col (n - d') n at') ∧ Hid (wq = wo)) (fun _ d _ => (intOf d + 1 - k).toNat)
      case atStart => exact ⟨-1, 0, rfl, by simp, by omega, mkHid (.inl ⟨rfl, fun j h1 h2 => by omega⟩), mkHid rfl⟩
      case round =>
        obtain ⟨at', d', rfl, rfl, hd, hf, hwo⟩ := hrel
        have hwo2 := hwo.out
        subst hwo2
        clear hwo
        by_cases hdk : d' + k < n
        · obtain ⟨i, hi⟩ : ∃ i, n - 1 - d' = i := ⟨_, rfl⟩
          have hii : (n : Int) - 1 - d' = (i : Int) := by omega
          have hin : i < n := by omega
          rw [hii]
          obtain ⟨b, o, c, hx, hh, ha, -⟩ := hw.out.row i (by rw [HSN.out]; exact hin)
          have hcC := HCC.out (by omega)
          have x1 := ha.at col (by omega)
          have i0 : (i : Int) < n := by omega
          have ik : (k : Int) ≤ i := by omega
          have cC : (col : Int) < C := by omega
          have e3 : IntKind.i64.wrap ((i : Int) - 1) = (n : Int) - 1 - ((d' + 1 : Nat) : Int) := by rw [IntWalk.i64_in _ (by omega)]; omega
          obtain ⟨v, hv⟩ : ∃ v, (S.getD i []).getD col 0 = v := ⟨_, rfl⟩
          rw [hv] at x1
          have HV := mkHid hv
          clear hv ha hx
          by_cases hv0 : v = 0
          · subst hv0
            have hf2 : Hid (Found S col (n - (d' + 1)) n at') := mkHid (by
              rcases hf.out with ⟨h1, h2⟩ | ⟨a, h1, h2, h3, h4, h5⟩
              · exact .inl ⟨h1, fun j g1 g2 => by
                  rcases Nat.lt_or_ge j (n - d') with h | h
                  · obtain rfl : j = i := by omega
                    exact HV.out
                  · exact h2 j h g2⟩
              · exact .inr ⟨a, h1, by omega, h3, h4, fun j g1 g2 => by
                  rcases Nat.lt_or_ge j (n - d') with h | h
                  · obtain rfl : j = i := by omega
                    exact HV.out
                  · exact h5 j h g2⟩)
            go_wp2_with fail
            go_roundw
            case rel => exact ⟨at', d' + 1, rfl, rfl, by omega, hf2, mkHid trivial⟩
            case measure => simp only [intOf]; omega
          · have t1 : (v == 0) = false := by simp [hv0]
            have t2 : (v != 0) = true := by simp [hv0]
            have t3 : decide (v = 0) = false := decide_eq_false hv0
            have hf2 : Hid (Found S col (n - (d' + 1)) n (i : Int)) := mkHid (.inr ⟨i, rfl, by omega, hin, by rw [HV.out]; exact hv0, fun j g1 g2 => by omega⟩)
            have HV0 := mkHid hv0
            clear hv0
            go_wp2_with fail
            go_roundw
            case rel => exact ⟨(i : Int), d' + 1, rfl, rfl, by omega, hf2, mkHid trivial⟩
            case measure => simp only [intOf]; omega
        · have hnd : n - d' = k := by omega
          rw [hnd] at hf
          rw [show (n : Int) - 1 - d' = (k : Int) - 1 by omega]
          have nk : ¬ ((k : Int) ≤ (k : Int) - 1) := by omega
          have nk2 : decide ((k : Int) ≤ (k : Int) - 1) = false := decide_eq_false nk
          rcases hf.out with ⟨rfl, h2⟩ | ⟨a, rfl, h2, h3, h4, h5⟩
          · have hpk : pickF S col pl.length = none := pickF_no (fun i g1 g2 => h2 i (by rw [hk.out]; exact g1) (by rw [← HSN.out]; exact g2))
            have hst2 : Hid (redF q M (col + 1) = (S, pl)) := mkHid (by rw [hstep.out, stepF_no hpk])
            clear h2 hpk
            go_wp2_with fail
            go_roundw
            case rel => exact ⟨col + 1, k, ao, cp, hs', rfl, rfl, by omega, mkHid (by rw [hst2.out]; exact hk.out), mkHid (by rw [hst2.out]; exact ho.out), mkHid (by rw [hst2.out]; exact hw.out), hon, hap0⟩
            case measure => simp only [intOf]; omega
          · have hpk : pickF S col pl.length = some a := pickF_of (by rw [← hk.out]; exact h2) (by rw [HSN.out]; exact h3) h4 (fun i g1 g2 => h5 i (by rw [hk.out]; exact g1) g2)
            have hst2 : Hid (redF q M (col + 1) = (elimF q k col (preF q S k a col), pl ++ [col])) := mkHid (by rw [hstep.out, stepF_pre hpk, ← hk.out])
            clear h4 h5 hpk hf hstep hd hdk hnd
            have kn : k < n := by omega
            as_aux_lemma =>
            have an : decide ((a : Int) < 0) = false := decide_eq_false (by omega)
            have a0 : (a : Int) < n := by omega
            have k0 : (k : Int) < n := by omega
            have hcC : col < C := by have := HCC.out (by omega); omega
            have cC : (col : Int) < C := by omega
            obtain ⟨ba, oa, ca, hxa, hha, iaa, nba⟩ := hw.out.row a (by rw [HSN.out]; exact h3)
            obtain ⟨bk, ok, ck, hxk, hhk, iak, nbk⟩ := hw.out.row k (by rw [HSN.out]; exact kn)
            have z1 := hw.out.warm a (by rw [HSN.out]; exact h3)
            have x1 : (wr.setCell ⟨R, ro + a, none⟩ (hv C (bk, ok, ck))).cell? ⟨ba, oa + col, none⟩ = some (.int .i64 ((S.getD a []).getD col 0)) := (iaa.other nba (hv C (bk, ok, ck)) (k := ro + a)).at col hcC
            have W2 := mkHid (hw.out.setRow a (bk, ok, ck) (S.getD k []) (by rw [HSN.out]; exact h3) iak nbk)
            have A2 := mkHid (iaa.other nba (hv C (bk, ok, ck)) (k := ro + a))
            have ON2 := mkHid (hon.out.trans (Only.set wr R (ro + a) (hv C (bk, ok, ck))))
            have O2 := mkHid (ho.out.only (Only.set wr R (ro + a) (hv C (bk, ok, ck))) (fun g e => by rw [e]; have := RL.out; have := HG.out; omega))
            have AP1 : Hid (Apt (hs'.set a (bk, ok, ck)) ao) := mkHid (hap0.out.set a (hap0.out _ (List.mem_of_getElem? hxk)))
            obtain ⟨r, hr⟩ : ∃ r, S.getD a [] = r := ⟨_, rfl⟩
            rw [hr] at x1 A2
            have HR := mkHid hr
            have HRL : Hid (r.length = C) := mkHid (by rw [← hr]; exact hw.out.wide a (by rw [HSN.out]; exact h3))
            obtain ⟨v, hv2⟩ : ∃ v, r.getD col 0 = v := ⟨_, rfl⟩
            rw [hv2] at x1
            have HV2 := mkHid hv2
            have KI := mkHid (fun W => rinv_any q v W)
            obtain ⟨iv', hiv⟩ : ∃ x, invI q v = x := ⟨_, rfl⟩
            obtain ⟨ib, hib⟩ : ∃ x, invB q v = x := ⟨_, rfl⟩
            rw [hiv, hib] at KI
            have HIV := mkHid hiv
            clear iaa iak nba nbk hxa hxk hr hv2 hiv hib hw ho hon hap0
            go_upto_region 15 with (fail)
            clear hha hhk z1
            show Code.wp _ _ _ _ (wr.setCell ⟨R, ro + a, none⟩ (hv C (bk, ok, ck)))
            generalize wr.setCell ⟨R, ro + a, none⟩ (hv C (bk, ok, ck)) = w2 at *
            go_wp2_with fail
            refine (KI.out w2).mono ?_
            rintro e w' ⟨rfl, rfl⟩
            go_wp2_with fail
            clear x1 KI
            have R0 : Hid (OwnAt (w2.alloc (.cells #[] 3)) w2.heap.size w2.heap.size 0 0 (iv (normR q iv' (r.take 0)))) := mkHid (own_new0 w2 3 w2.heap.size (Nat.le_refl _))
            have B0 : Hid (Below w2.heap.size w2 (w2.alloc (.cells #[] 3))) := mkHid ((Below.refl _ w2).alloc (Nat.le_refl _) _)
            generalize w2.alloc (.cells #[] 3) = w3 at *
            generalize hT : w2.heap.size = T at *
            have HT := mkHid hT
            clear hT
            have GT : Hid (G ≤ T ∧ R < G) := mkHid ⟨by have := ON2.out.size; have := HG.out; have := HT.out; omega, by have := RL.out; have := HG.out; omega⟩
            go_loopw [16, 17] (fun s d wq => ∃ (l g off cr : Nat), s = .slice (some ⟨g, off, none⟩) l cr ∧ d = .int .i64 l ∧ l ≤ C ∧ Hid (OwnAt wq T g off cr (iv (normR q iv' (r.take l)))) ∧ Hid (Below T w2 wq)) (fun _ d _ => (C - intOf d).toNat)
            case atStart => exact ⟨0, T, 0, 0, rfl, rfl, by omega, R0, B0⟩
            case round =>
              clear R0 B0
              obtain ⟨l, g, off, cr, rfl, rfl, hl, hor, hbq⟩ := hrel
              have e4 : IntKind.i64.wrap ((l : Int) + 1) = ((l + 1 : Nat) : Int) := IntWalk.i64_in _ (by omega)
              have hlen : Hid ((normR q iv' (r.take l)).length = l) := mkHid (by rw [normR_len, List.length_take, HRL.out]; omega)
              have IA := mkHid (A2.out.keptS HT.out hbq.out)
              by_cases hll : l < C
              · have y1 := IA.out.at l hll
                have hap := mkHid (normR_take q iv' r l (by rw [HRL.out]; exact hll))
                obtain ⟨x, hx⟩ : ∃ x, r.getD l 0 = x := ⟨_, rfl⟩
                rw [hx] at y1 hap
                have KM := mkHid (fun W => rmul_any q x iv' W)
                obtain ⟨y, hy⟩ : ∃ y, mulI q x iv' = y := ⟨_, rfl⟩
                rw [hy] at KM hap
                have lC : (l : Int) < C := by omega
                have SA : Hid (T ≤ wr.heap.size) := mkHid (by have := hor.out.lt; have := hor.out.own; omega)
                clear hx hy
                go_wp2_with fail
                refine (KM.out wr).mono ?_
                rintro e w' ⟨rfl, rfl⟩
                go_wp2_with (at_builtin; refine app_ints wr T rfl (.tmp 73) (.tmp 81) rfl (some ⟨g, off, none⟩) cr l (normR q iv' (r.take l)) ?q1 ?q2 hor.out.s SA.out 1 1 #[.int .i64 y] 3 [y] ?q3 rfl rfl (by omega) ?q4 ?_; (case q1 => exact hlen.out.symm); (case q2 => rfl); (case q3 => rfl); (case q4 => omega); intro g4 off4 c4 wb o8 b8; have OB := mkHid o8; have B8 := mkHid b8; clear o8 b8)
                go_roundw
                case rel => exact ⟨l + 1, g4, off4, c4, rfl, rfl, by omega, mkHid (by rw [hap.out]; exact OB.out), mkHid (hbq.out.trans B8.out)⟩
                case measure => simp only [intOf]; omega
              · obtain rfl : C = l := by omega
                as_aux_lemma =>
                have hrt : r.take C = r := List.take_of_length_le (by rw [HRL.out]; exact Nat.le_refl _)
                rw [hrt] at hor hlen
                clear hrt e4 hll IA
                obtain ⟨nr, hnr⟩ : ∃ nr, normR q iv' r = nr := ⟨_, rfl⟩
                rw [hnr] at hor hlen
                have HNR := mkHid hnr
                clear hnr
                have W4 := mkHid (W2.out.step (by rw [HT.out]; exact hbq.out))
                have O4 := mkHid (O2.out.below (by rw [HT.out]; exact hbq.out))
                have ON4 := mkHid (ON2.out.step (by rw [HT.out]; exact hbq.out))
                have hRA : Hid (ArgI wr (some ⟨g, off, none⟩) C nr) := mkHid (hor.out.arg hlen.out.symm)
                have GR : Hid (g ≠ R) := mkHid (by have := hor.out.own; have := GT.out; omega)
                have hS2 : Hid ((S.set a (S.getD k [])).length = n) := mkHid (by rw [List.length_set]; exact HSN.out)
                have z1 := W4.out.warm k (by rw [hS2.out]; exact kn)
                obtain ⟨bz, oz, cz, -, hhz, -, -⟩ := W4.out.row k (by rw [hS2.out]; exact kn)
                have W5 := mkHid (W4.out.setRow k (g, off, cr) nr (by rw [hS2.out]; exact kn) hRA.out GR.out)
                have R5 := mkHid (hRA.out.other GR.out (hv C (g, off, cr)) (k := ro + k))
                have ON5 := mkHid (ON4.out.trans (Only.set wr R (ro + k) (hv C (g, off, cr))))
                have O5 := mkHid (O4.out.only (Only.set wr R (ro + k) (hv C (g, off, cr))) (fun g e => by rw [e]; have := GT.out; omega))
                have AP2 : Hid (Apt ((hs'.set a (bk, ok, ck)).set k (g, off, cr)) ao) := mkHid (AP1.out.set k (O2.out.blt (by rw [HT.out]; exact hor.out.own)))
                clear W4 O4 ON4 hRA hbq hor AP1
                go_upto_region 23 with (fail)
                show Code.wp _ _ _ _ (wr.setCell ⟨R, ro + k, none⟩ (hv C (g, off, cr)))
                generalize wr.setCell ⟨R, ro + k, none⟩ (hv C (g, off, cr)) = w6 at *
                have hPE : (S.set a (S.getD k [])).set k nr = preF q S k a col := by unfold preF; rw [HR.out, HV2.out, HIV.out, HNR.out]
                have HPB : Hid (BdM q (preF q S k a col)) := mkHid (pre_bd HQ.out hbd.out)
                have HPL : Hid ((preF q S k a col).length = n) := mkHid (by rw [pre_len]; exact HSN.out)
                have HPK : Hid ((preF q S k a col).getD k [] = nr) := mkHid (by rw [pre_k (by rw [HSN.out]; exact kn), HR.out, HV2.out, HIV.out, HNR.out])
                rw [hPE] at W5
                obtain ⟨P, hP⟩ : ∃ P, preF q S k a col = P := ⟨_, rfl⟩
                rw [hP] at W5 HPB HPL HPK hst2
                clear hPE hP z1 hhz
                obtain ⟨E, hE⟩ : ∃ E, elimF q k col P = E := ⟨_, rfl⟩
                have HEL : Hid (E.length = P.length) := mkHid (by rw [← hE, elimF_len])
                have HEK : Hid (E.getD k [] = nr) := mkHid (by rw [← hE, elimF_k _ _ _ _ (by rw [HPL.out]; exact kn)]; exact HPK.out)
                have HER : Hid (∀ i, i < n → i ≠ k → E.getD i [] = lessR q ((P.getD i []).getD col 0) (P.getD i []) nr) := mkHid (fun i hi hk => by rw [← hE, elim_row HQ.out HPB.out (by rw [HPL.out]; exact hi) hk, HPK.out])
                rw [hE] at hst2
                have W6 : Hid (RefW w6 B R ro cap C ((hs'.set a (bk, ok, ck)).set k (g, off, cr)) (partL P E 0)) := mkHid (by rw [partL_zero]; exact W5.out)
                clear hE W5
                go_loopw [18] (fun d wq => ∃ (i : Nat) (hs4 : List (Nat × Nat × Nat)), d = .int .i64 i ∧ i ≤ n ∧ Hid (RefW wq B R ro cap C hs4 (partL P E i)) ∧ Hid (Only w wq (fun g => g = R)) ∧ Hid (OwnS wq G cp (iv (pvI pl)) ao) ∧ Hid (ArgI wq (some ⟨g, off, none⟩) C nr) ∧ Hid (Apt hs4 ao)) (fun d _ => (n - intOf d).toNat)
                case atStart => exact ⟨0, _, rfl, by omega, W6, ON5, O5, R5, AP2⟩
                case round =>
                  clear W6 ON5 O5 R5 AP2
                  obtain ⟨i, hs4, rfl, hi, hw4, hon4, ho4, hr4, hap4⟩ := hrel
                  have e5 : IntKind.i64.wrap ((i : Int) + 1) = ((i + 1 : Nat) : Int) := IntWalk.i64_in _ (by omega)
                  by_cases hil : i < n
                  · have ii : (i : Int) < n := by omega
                    have hpset : Hid ((partL P E i).set i (E.getD i []) = partL P E (i + 1)) := mkHid (partL_set [] HEL.out (by rw [HPL.out]; exact hil))
                    have hpat : Hid ((partL P E i).getD i [] = P.getD i []) := mkHid (partL_ge [] HEL.out (by rw [HPL.out]; omega) (Nat.le_refl i))
                    have hplen : Hid ((partL P E i).length = n) := mkHid (by rw [partL_len HEL.out, HPL.out])
                    by_cases hik : i = k
                    · have t1 : ((i : Int) == (k : Int)) = true := by rw [beq_iff_eq]; omega
                      have t2 : ((i : Int) != (k : Int)) = false := by rw [bne, t1]; rfl
                      have hsame : Hid (partL P E (i + 1) = partL P E i) := mkHid (by
                        rw [← hpset.out]
                        refine set_self _ (by rw [hplen.out]; exact hil) ?_
                        rw [hpat.out, hik, HPK.out, HEK.out])
                      have HIK := mkHid hik
                      clear hik
                      go_wp2_with fail
                      go_roundw
                      case rel => exact ⟨i + 1, hs4, rfl, by omega, mkHid (by rw [hsame.out]; exact hw4.out), hon4, ho4, hr4, hap4⟩
                      case measure => simp only [intOf]; omega
                    · as_aux_lemma =>
                      have t1 : ((i : Int) == (k : Int)) = false := by rw [beq_eq_false_iff_ne]; omega
                      have t2 : ((i : Int) != (k : Int)) = true := by rw [bne, t1]; rfl
                      have t3 : decide (i = k) = false := decide_eq_false hik
                      have hER := mkHid (HER.out i hil hik)
                      have HIK := mkHid hik
                      clear hik
                      obtain ⟨b, o, c, hx, hh, ha, nb⟩ := hw4.out.row i (by rw [hplen.out]; exact hil)
                      rw [hpat.out] at ha
                      obtain ⟨p, hp⟩ : ∃ p, P.getD i [] = p := ⟨_, rfl⟩
                      rw [hp] at ha hER
                      have HA := mkHid ha
                      have NB := mkHid nb
                      have HPN : Hid (p.length = C) := mkHid ha.len.symm
                      have y1 := ha.at col hcC
                      obtain ⟨t, ht⟩ : ∃ t, p.getD col 0 = t := ⟨_, rfl⟩
                      rw [ht] at y1 hER
                      clear ha nb hx hp ht
                      go_upto_region 26 with (fail)
                      clear t1 t2 t3
                      refine wp_region_tail_x 15 (fun w' => w'.cell? ⟨R, ro + i, none⟩ = some (.slice (some ⟨b, o, none⟩) C c) ∧ w'.cell? ⟨b, o + col, none⟩ = some (.int .i64 t)) (by kernel_rfl) (by kernel_rfl) (by kernel_rfl) (fun _ _ d _ _ h => by cases d <;> exact h) ⟨hh, y1⟩ ?_
                      apply Exists.intro
                      refine ⟨?hh, ?ht⟩
                      case hh =>
                        intro w' hw'
                        obtain ⟨t1, t2⟩ := hw'
                        simp only [List.take_succ_cons, List.take_zero]
                        repeat still_step
                        exact wpStill_nil rfl
                      case ht =>
                        simp only [List.drop_succ_cons, List.drop_zero]
                        have s3 : wr.drew.cell? ⟨R, ro + i, none⟩ = some (.slice (some ⟨b, o, none⟩) C c) := hh
                        have s4 : wr.drew.cell? ⟨b, o + col, none⟩ = some (.int .i64 t) := y1
                        have WD := mkHid (hw4.out.step (below_drew wr))
                        have OD := mkHid (ho4.out.below (below_drew wr))
                        have ND := mkHid (hon4.out.step (below_drew wr))
                        have RD := mkHid (hr4.out.below (below_drew wr))
                        have AD := mkHid (HA.out.below (below_drew wr))
                        clear hh y1 hw4 hon4 ho4 hr4 HA
                        generalize wr.drew = wd at *
                        refine wpTailT_cons ?_
                        go_wp2_with fail
                        refine (rless_any q t _ _ C c C cr p nr wd (by omega) (Nat.le_refl C) AD.out RD.out).mono ?_
                        rintro e we ⟨g5, o5, c5, rfl, ow5, b5⟩
                        have OW5 := mkHid ow5
                        have WE := mkHid (WD.out.step b5)
                        have OE := mkHid (OD.out.below b5)
                        have AP7 : Hid (Apt (hs4.set i (g5, o5, c5)) ao) := mkHid (hap4.out.set i (OD.out.blt ow5.own))
                        have NE := mkHid (ND.out.step b5)
                        have RE := mkHid (RD.out.below b5)
                        have S3 := mkHid (cell_of_below2 s3 b5)
                        have S4 := mkHid (cell_of_below2 s4 b5)
                        have RLd : Hid (R < wd.heap.size) := mkHid WD.out.top.lt
                        clear ow5 b5 WD OD ND RD AD s3 s4
                        go_wp2_with fail
                        refine postOf_normal ⟨⟨S3.out, S4.out⟩, ?_⟩
                        refine wpTailT_cons ?_
                        go_wp2_with fail
                        refine postOf_normal ⟨⟨S3.out, S4.out⟩, ?_⟩
                        refine wpTailT_one ?_
                        have s3 := S3.out
                        have z1 := WE.out.warm i (by rw [hplen.out]; exact hil)
                        have G5 : Hid (g5 ≠ R) := mkHid (by have := OW5.out.own; have := RLd.out; omega)
                        rw [← hER.out] at OW5
                        have hEL : Hid ((E.getD i []).length = C) := mkHid (by rw [hER.out, lessR_len]; exact HPN.out)
                        have W7 := mkHid (WE.out.setRow i (g5, o5, c5) (E.getD i []) (by rw [hplen.out]; exact hil) (OW5.out.arg hEL.out.symm) G5.out)
                        rw [hpset.out] at W7
                        have O7 := mkHid (OE.out.only (Only.set we R (ro + i) (hv C (g5, o5, c5))) (fun g e => by rw [e]; have := GT.out; omega))
                        have N7 := mkHid (NE.out.trans (Only.set we R (ro + i) (hv C (g5, o5, c5))))
                        have R7 := mkHid (RE.out.other GR.out (hv C (g5, o5, c5)) (k := ro + i))
                        go_wp2_with fail
                        go_roundw
                        case rel => exact ⟨i + 1, _, rfl, by omega, W7, N7, O7, R7, AP7⟩
                        case measure => simp only [intOf]; omega
                  · obtain rfl : n = i := by omega
                    have hfull : partL P E n = E := by rw [← HPL.out]; exact partL_full HEL.out
                    rw [hfull] at hw4
                    have SA : Hid (G ≤ wr.heap.size) := mkHid (by have := hon4.out.size; have := HG.out; omega)
                    have hk64 : k ≤ 64 := by omega
                    clear hfull hr4
                    obtain ⟨i0, hi0, hz0, hz1, hz2⟩ := info_parts info_int
                    have HI0 := mkHid hi0; have HZ0 := mkHid hz0; have HZ1 := mkHid hz1; have HZ2 := mkHid hz2
                    clear hi0 hz0 hz1 hz2
                    have h1c : Hid (∀ u ∈ (#[Value.int .i64 (col : Int)] : Array Value).toList, u.oneCell' = true) := mkHid (iv_one [(col : Int)])
                    go_wp2_with (at_builtin; refine wpList_append_new wr G rfl (.tmp 113) (.tmp 115) 42 rfl 3 i0 (.int .i64 0) 8 Tryd.underlying42 HI0.out HZ0.out HZ1.out HZ2.out rfl ao cp (iv (pvI pl)) k ?q1 ?q2 ho4.out SA.out 1 1 #[.int .i64 (col : Int)] 3 ?q3 rfl (by omega) ?q5 ?q6 ?q7 ?_; (case q1 => rw [iv_length, pvI_len]; exact hk.out); (case q2 => rfl); (case q3 => rfl); (case q5 => exact h1c.out); (case q6 => simp only [maxLen]; omega); (case q7 => omega); intro g4 off4 c4 wb o8 gr8 b8 or8; have OB : Hid (OwnAt wb G g4 off4 c4 (iv (pvI pl ++ [(col : Int)]))) := mkHid (by rw [iv_append]; exact o8); have GR8 := mkHid gr8; have B8 := mkHid b8; have OR8 := mkHid or8; clear o8 gr8 b8 or8)
                    have hRao : blk ao ≠ some R := fun e => by
                      have h := ho4.out
                      cases h with
                      | nil => cases e
                      | «at» g' o h' =>
                        obtain rfl : g' = R := Option.some.inj e
                        have := h'.own; have := GT.out; omega
                    have W9 := mkHid (hw4.out.grown (by omega) GR8.out hRao hap4.out)
                    have AP9 : Hid (Apt hs4 (some ⟨g4, off4, none⟩)) := mkHid (fun x hx => by
                      rcases OR8.out with e | e
                      · have := hap4.out x hx; rw [e] at this; exact this
                      · intro e2
                        have e3 : g4 = x.1 := Option.some.inj e2
                        have := hw4.out.blt (by omega) hx
                        omega)
                    clear hRao
                    go_roundw
                    case rel => exact ⟨col + 1, k + 1, some ⟨g4, off4, none⟩, c4, hs4, rfl, rfl, by omega, mkHid (by rw [hst2.out, List.length_append, ← hk.out]; rfl), mkHid (by rw [hst2.out, pvI_app]; exact OB.out.s), mkHid (by rw [hst2.out]; exact W9.out), mkHid (hon4.out.old (by rw [HG.out]; exact B8.out)), AP9⟩
                    case measure => simp only [intOf]; omega
    · obtain rfl : cn = col := by omega
      go_wp2_with fail
      go_ret2
      rw [HG.out]
      exact ⟨ao, cp, hs', by rw [← hk.out]; rfl, ho.out, hw.out, hon.out⟩
end Go.Proofs.YtbllanmhbfnagaaDoor
