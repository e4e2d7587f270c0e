/- FieldLinear: what the property's function computes (walks; printed by wip/tools/genlin.py). -/
import Derived.Test.YtbllanmhbfnagaaDoorUL0
import Derived.Test.YtbllanmhbfnagaaDoorUL3
import Derived.Test.YtbllanmhbfnagaaDoorU36
set_option linter.unusedVariables false
set_option linter.unusedSimpArgs false
namespace Go.Proofs.YtbllanmhbfnagaaDoor
open Go.RowKit Go.Sort
theorem fewI_bd {n m : Nat} (h : fewI n m = true) (hm : m ≤ 60) : n ≤ 66 := by
  unfold fewI at h
  simp at h
  omega
theorem solF_len (q : Int) (L : List (List Int)) (bl : List Int) (nb : Nat) : (solF q L bl nb).length ≤ 1000000 := by
  unfold solF
  split
  · rename_i h
    rw [outF_len]
    have : rdB q L nb = true := by unfold solOk at h; exact ((Bool.and_eq_true _ _).mp h).1
    have := colsN_le this
    omega
  · exact Nat.zero_le _
theorem kerOk_bd {q : Int} {L : List (List Int)} {cols : Int} (h : kerOk q L cols = true) : cols.toNat ≤ 64 := by
  unfold kerOk at h
  have h1 := ((Bool.and_eq_true _ _).mp ((Bool.and_eq_true _ _).mp h).1).2
  have h2 := ((Bool.and_eq_true _ _).mp h1).2
  have := of_decide_eq_true h2
  omega
theorem kerF_len (q : Int) (L : List (List Int)) (cols : Int) : (kerF q L cols).length ≤ 1000000 := by
  unfold kerF
  split
  · rename_i h
    have := kerL_le q cols.toNat (redL q L (zeroR L)).2 (redL q L (zeroR L)).1 cols.toNat
    have := kerOk_bd h
    omega
  · exact Nat.zero_le _
theorem kerF_wide (q : Int) (L : List (List Int)) (cols : Int) (i : Nat) : ((kerF q L cols).getD i []).length ≤ 1000000 := by
  unfold kerF
  split
  · rename_i h
    have hb := kerOk_bd h
    rw [List.getD]
    cases e : (kerL q cols.toNat (redL q L (zeroR L)).2 (redL q L (zeroR L)).1 cols.toNat)[i]? with
    | none => exact Nat.zero_le _
    | some r =>
      have := kerL_wide q cols.toNat (redL q L (zeroR L)).2 (redL q L (zeroR L)).1 cols.toNat r (List.mem_of_getElem? e)
      show r.length ≤ 1000000
      omega
  · exact Nat.zero_le _
set_option maxHeartbeats 8000000 in
set_option maxRecDepth 100000 in
theorem lin_many (q cols : Int) (a1 a2 : Option Addr) (n c1 nb c2 : Nat) (L : List (List Int)) (bl : List Int) (w : World) (hT : Tab w) (hR : ArgR w a1 n L) (hI : ArgI w a2 nb bl) (hf : (fewI n 7 && fewB L 7 n) = false) :
    Calls Tryd.prog 12 #[.int .i64 q, .slice a1 n c1, .slice a2 nb c2, .int .i64 cols] w fun e w' => e = .returned (.bool true) ∧ Below w.heap.size w w' := by
  have HT := mkHid hT
  have HR := mkHid hR
  have HI := mkHid hI
  clear hT hR hI
  have HF := mkHid hf
  clear hf
  go_enter Tryd.func12, Tryd.ntmps12
  go_wp2_with fail
  refine (saneL_any _ HT.out).mono ?_
  rintro e w1 ⟨rfl, b1⟩
  have B1 := mkHid b1
  have R1 := mkHid (HR.out.below b1)
  have I1 := mkHid (HI.out.below b1)
  clear b1
  go_wp2_with fail
  have KF := few_any a1 n c1 7 L w1 (by omega) R1.out
  rw [HF.out] at KF
  refine KF.mono ?_
  rintro e w2 ⟨rfl, rfl⟩
  clear KF
  go_wp2
  go_ret
  exact ⟨rfl, B1.out⟩
set_option maxHeartbeats 8000000 in
set_option maxRecDepth 100000 in
theorem lin_b0 (q cols : Int) (a1 a2 : Option Addr) (n c1 nb c2 : Nat) (L : List (List Int)) (bl : List Int) (w : World) (hT : Tab w) (hR : ArgR w a1 n L) (hI : ArgI w a2 nb bl) (hf : (fewI n 7 && fewB L 7 n) = true) (hb : n ≤ 7) (hnb : 70 < nb) :
    Calls Tryd.prog 12 #[.int .i64 q, .slice a1 n c1, .slice a2 nb c2, .int .i64 cols] w fun e w' => e = .returned (.bool true) ∧ Below w.heap.size w w' := by
  have HT := mkHid hT
  have HR := mkHid hR
  have HI := mkHid hI
  clear hT hR hI
  have HF := mkHid hf
  have hn7 : n ≤ 7 ∨ (65 ≤ n ∧ n ≤ 66) := by
    have h1 := (Bool.and_eq_true _ _).mp hf
    have h2 := h1.1
    unfold fewI at h2
    simp at h2
    omega
  clear hf
  have f1 : decide ((7 : Int) < n) = false := decide_eq_false (by omega)
  have f1' : ¬ ((7 : Int) < n) := by omega
  have f3 : decide ((70 : Int) < nb) = true := decide_eq_true (by omega)
  go_enter Tryd.func12, Tryd.ntmps12
  go_wp2_with fail
  refine (saneL_any _ HT.out).mono ?_
  rintro e w1 ⟨rfl, b1⟩
  have B1 := mkHid b1
  have R1 := mkHid (HR.out.below b1)
  have I1 := mkHid (HI.out.below b1)
  clear b1
  go_wp2_with fail
  have KF := few_any a1 n c1 7 L w1 (by omega) R1.out
  rw [HF.out] at KF
  refine KF.mono ?_
  rintro e w2 ⟨rfl, rfl⟩
  clear KF
  go_wp2
  go_ret
  exact ⟨rfl, B1.out⟩
set_option maxHeartbeats 8000000 in
set_option maxRecDepth 100000 in
theorem lin_c0 (q cols : Int) (a1 a2 : Option Addr) (n c1 nb c2 : Nat) (L : List (List Int)) (bl : List Int) (w : World) (hT : Tab w) (hR : ArgR w a1 n L) (hI : ArgI w a2 nb bl) (hf : (fewI n 7 && fewB L 7 n) = true) (hb : n ≤ 7) (hnb : nb ≤ 70) (hc : 9 < cols ∧ cols < 60) :
    Calls Tryd.prog 12 #[.int .i64 q, .slice a1 n c1, .slice a2 nb c2, .int .i64 cols] w fun e w' => e = .returned (.bool true) ∧ Below w.heap.size w w' := by
  have HT := mkHid hT
  have HR := mkHid hR
  have HI := mkHid hI
  clear hT hR hI
  have HF := mkHid hf
  have hn7 : n ≤ 7 ∨ (65 ≤ n ∧ n ≤ 66) := by
    have h1 := (Bool.and_eq_true _ _).mp hf
    have h2 := h1.1
    unfold fewI at h2
    simp at h2
    omega
  clear hf
  have f1 : decide ((7 : Int) < n) = false := decide_eq_false (by omega)
  have f1' : ¬ ((7 : Int) < n) := by omega
  have f3 : decide ((70 : Int) < nb) = false := decide_eq_false (by omega)
  have f3' : ¬ ((70 : Int) < nb) := by omega
  have f4 : decide (9 < cols) = true := decide_eq_true hc.1
  have f5 : decide (cols < 60) = true := decide_eq_true hc.2
  go_enter Tryd.func12, Tryd.ntmps12
  go_wp2_with fail
  refine (saneL_any _ HT.out).mono ?_
  rintro e w1 ⟨rfl, b1⟩
  have B1 := mkHid b1
  have R1 := mkHid (HR.out.below b1)
  have I1 := mkHid (HI.out.below b1)
  clear b1
  go_wp2_with fail
  have KF := few_any a1 n c1 7 L w1 (by omega) R1.out
  rw [HF.out] at KF
  refine KF.mono ?_
  rintro e w2 ⟨rfl, rfl⟩
  clear KF
  go_wp2
  go_ret
  exact ⟨rfl, B1.out⟩
set_option maxHeartbeats 8000000 in
set_option maxRecDepth 100000 in
theorem lin_m0 (q cols : Int) (a1 a2 : Option Addr) (n c1 nb c2 : Nat) (L : List (List Int)) (bl : List Int) (w : World) (hT : Tab w) (hR : ArgR w a1 n L) (hI : ArgI w a2 nb bl) (hf : (fewI n 7 && fewB L 7 n) = true) (hb : n ≤ 7) (hnb : nb ≤ 70) (hc : ¬ (9 < cols ∧ cols < 60)) :
    Calls Tryd.prog 12 #[.int .i64 q, .slice a1 n c1, .slice a2 nb c2, .int .i64 cols] w fun e w' => e = .returned (.bool true) ∧ Below w.heap.size w w' := by
  have HT := mkHid hT
  have HR := mkHid hR
  have HI := mkHid hI
  clear hT hR hI
  have HF := mkHid hf
  have hn7 : n ≤ 7 ∨ (65 ≤ n ∧ n ≤ 66) := by
    have h1 := (Bool.and_eq_true _ _).mp hf
    have h2 := h1.1
    unfold fewI at h2
    simp at h2
    omega
  clear hf
  have f1 : decide ((7 : Int) < n) = false := decide_eq_false (by omega)
  have f1' : ¬ ((7 : Int) < n) := by omega
  have f3 : decide ((70 : Int) < nb) = false := decide_eq_false (by omega)
  have f3' : ¬ ((70 : Int) < nb) := by omega
  have hnle : n ≤ 66 := by omega
  have HBIG : Hid (∀ i, (L.getD i []).length ≤ 1000000) := mkHid (fun i => by
    rcases Nat.lt_or_ge i n with h | h
    · have h1 := fewB_at ((Bool.and_eq_true _ _).mp HF.out).2 i h
      exact Nat.le_trans (fewI_bd h1 (by omega)) (by omega)
    · rw [List.getD, List.getElem?_eq_none (by rw [← HR.out.len]; exact h)]; exact Nat.zero_le _)
  have HL : Hid (L.length = n) := mkHid HR.out.len.symm
  have f6 : decide (9 < cols) = false ∨ (decide (9 < cols) = true ∧ decide (cols < 60) = false) := by
    by_cases h : 9 < cols
    · exact .inr ⟨decide_eq_true h, decide_eq_false (by omega)⟩
    · exact .inl (decide_eq_false h)
  go_enter Tryd.func12, Tryd.ntmps12
  go_wp2_with fail
  refine (saneL_any _ HT.out).mono ?_
  rintro e w1 ⟨rfl, b1⟩
  have B1 := mkHid b1
  have R1 := mkHid (HR.out.below b1)
  have I1 := mkHid (HI.out.below b1)
  clear b1
  go_wp2_with fail
  have KF := few_any a1 n c1 7 L w1 (by omega) R1.out
  rw [HF.out] at KF
  refine KF.mono ?_
  rintro e w2 ⟨rfl, rfl⟩
  clear KF
  rcases f6 with f6 | ⟨f6, f7⟩
  · go_wp2_with fail
    clear f3 f3' f6
    as_aux_lemma =>
      go_loop [11] (fun c => ∃ i : Nat, c = .int .i64 i ∧ i ≤ n) (fun c => (n - intOf c).toNat)
      case atStart => exact ⟨0, rfl, by omega⟩
      case round =>
        obtain ⟨i, rfl, hi⟩ := hrel
        have e2 : IntKind.i64.wrap ((i : Int) + 1) = ((i + 1 : Nat) : Int) := IntWalk.i64_in _ (by omega)
        by_cases hlt : i < n
        · obtain ⟨g, o, rfl, -, hc⟩ := R1.out.here (by omega)
          obtain ⟨r, k, p, x1, -⟩ := hc i hlt
          have ii : (i : Int) < n := by omega
          clear hc
          go_wp2
          go_round
          case rel => exact ⟨i + 1, rfl, by omega⟩
          case measure => simp [intOf]; omega
        · obtain rfl : n = i := by omega
          clear hlt e2 hi
          have i7 : decide ((n : Int) < n) = false := decide_eq_false (by omega)
          as_aux_lemma =>
            go_wp2_with fail
            have K1 := solve_any q a1 a2 c1 nb c2 L bl w1 (HT.out.step B1.out) (by rw [HL.out]; exact R1.out) I1.out (by rw [HL.out]; omega) (by omega) HBIG.out
            rw [HL.out] at K1
            refine K1.mono ?_
            rintro e w2 ⟨x2, y2, rfl, s2, b2⟩
            have X2 := mkHid s2
            have B2 := mkHid (B1.out.trans (b2.mono B1.out.size))
            have R2 := mkHid (R1.out.below b2)
            have I2 := mkHid (I1.out.below b2)
            clear K1 s2 b2 R1 I1
            go_wp2_with fail
            refine (rsolve_any q a1 a2 c1 nb c2 L bl n HL.out w2 R2.out I2.out (by omega) HBIG.out (by omega)).mono ?_
            rintro e w3 ⟨x3, y3, rfl, s3, b3⟩
            have X3 := mkHid s3
            have X2' := mkHid (X2.out.below b3)
            have B3 := mkHid (B2.out.trans (b3.mono B2.out.size))
            have R3 := mkHid (R2.out.below b3)
            clear s3 b3 R2 I2 B2 X2
            go_wp2_with fail
            have K4 := kernel_any q cols a1 c1 L w3 (HT.out.step B3.out) (by rw [HL.out]; exact R3.out) (by rw [HL.out]; omega) HBIG.out
            rw [HL.out] at K4
            refine K4.mono ?_
            rintro e w4 ⟨x4, y4, rfl, s4, b4⟩
            have X4 := mkHid s4
            have X2 := mkHid (X2'.out.below b4)
            have X3' := mkHid (X3.out.below b4)
            have B4 := mkHid (B3.out.trans (b4.mono B3.out.size))
            have R4 := mkHid (R3.out.below b4)
            clear K4 s4 b4 R3 B3 X2' X3
            go_wp2_with fail
            refine (rkernel_any q cols a1 c1 L n HL.out w4 R4.out (by omega) HBIG.out).mono ?_
            rintro e w5 ⟨x5, y5, rfl, s5, b5⟩
            have X5 := mkHid s5
            have X2' := mkHid (X2.out.below b5)
            have X3 := mkHid (X3'.out.below b5)
            have X4' := mkHid (X4.out.below b5)
            have B5 := mkHid (B4.out.trans (b5.mono B4.out.size))
            have R5 := mkHid (R4.out.below b5)
            clear s5 b5 R4 B4 X2 X3' X4
            have HSL : Hid ((solF q L bl nb).length ≤ 1000000) := mkHid (solF_len q L bl nb)
            have HKL : Hid ((kerF q L cols).length ≤ 1000000) := mkHid (kerF_len q L cols)
            have HKW : Hid (∀ i, ((kerF q L cols).getD i []).length ≤ 1000000) := mkHid (kerF_wide q L cols)
            obtain ⟨so, hso⟩ : ∃ so, solOk q L bl nb = so := ⟨_, rfl⟩
            obtain ⟨sf, hsf⟩ : ∃ so, solF q L bl nb = so := ⟨_, rfl⟩
            obtain ⟨ko, hko⟩ : ∃ so, kerOk q L cols = so := ⟨_, rfl⟩
            obtain ⟨kf, hkf⟩ : ∃ so, kerF q L cols = so := ⟨_, rfl⟩
            rw [hsf] at X2' X3 HSL
            rw [hkf] at X4' X5 HKL HKW
            rw [hso, hko, hsf, hkf]
            clear hso hsf hko hkf
            have hsl := HSL.out
            have hkl := HKL.out
            have u1 : (so == so) = true := by simp
            have u2 : (ko == ko) = true := by simp
            go_wp2_with fail
            refine (same_any _ _ _ _ _ _ _ _ _ hsl X2'.out X3.out).mono ?_
            rintro e w6 ⟨rfl, b6⟩
            rw [decide_eq_true rfl]
            have X4 := mkHid (X4'.out.below b6)
            have X5' := mkHid (X5.out.below b6)
            have B6 := mkHid (B5.out.trans (b6.mono B5.out.size))
            have R6 := mkHid (R5.out.below b6)
            clear b6 R5 B5 X4' X5
            go_wp2_with fail
            refine (sameRows_any _ _ _ _ _ _ _ _ _ hkl X4.out X5'.out HKW.out).mono ?_
            rintro e w7 ⟨rfl, b7⟩
            rw [decide_eq_true rfl]
            have B7 := mkHid (B6.out.trans (b7.mono B6.out.size))
            have R7 := mkHid (R6.out.below b7)
            clear b7 R6 B6 X4 X5'
            go_wp2_with fail
            have K8 := rank_any q a1 c1 L w7 (HT.out.step B7.out) (by rw [HL.out]; exact R7.out) (by rw [HL.out]; omega) HBIG.out
            rw [HL.out] at K8
            refine K8.mono ?_
            rintro e w8 ⟨rfl, b8⟩
            have B8 := mkHid (B7.out.trans (b8.mono B7.out.size))
            have R8 := mkHid (R7.out.below b8)
            clear K8 b8 R7 B7
            go_wp2_with fail
            refine (rrank_any q a1 c1 L n HL.out w8 R8.out (by omega) HBIG.out).mono ?_
            rintro e w9 ⟨rfl, b9⟩
            have B9 := mkHid (B8.out.trans (b9.mono B8.out.size))
            obtain ⟨rk, hrk⟩ : ∃ r, rankF q L = r := ⟨_, rfl⟩
            rw [hrk]
            have u3 : (rk == rk) = true := by simp
            clear b9 hrk
            go_wp2_with fail
            go_ret
            exact ⟨rfl, B9.out⟩
  · go_wp2_with fail
    clear f3 f3' f6 f7
    as_aux_lemma =>
      go_loop [11] (fun c => ∃ i : Nat, c = .int .i64 i ∧ i ≤ n) (fun c => (n - intOf c).toNat)
      case atStart => exact ⟨0, rfl, by omega⟩
      case round =>
        obtain ⟨i, rfl, hi⟩ := hrel
        have e2 : IntKind.i64.wrap ((i : Int) + 1) = ((i + 1 : Nat) : Int) := IntWalk.i64_in _ (by omega)
        by_cases hlt : i < n
        · obtain ⟨g, o, rfl, -, hc⟩ := R1.out.here (by omega)
          obtain ⟨r, k, p, x1, -⟩ := hc i hlt
          have ii : (i : Int) < n := by omega
          clear hc
          go_wp2
          go_round
          case rel => exact ⟨i + 1, rfl, by omega⟩
          case measure => simp [intOf]; omega
        · obtain rfl : n = i := by omega
          clear hlt e2 hi
          have i7 : decide ((n : Int) < n) = false := decide_eq_false (by omega)
          as_aux_lemma =>
            go_wp2_with fail
            have K1 := solve_any q a1 a2 c1 nb c2 L bl w1 (HT.out.step B1.out) (by rw [HL.out]; exact R1.out) I1.out (by rw [HL.out]; omega) (by omega) HBIG.out
            rw [HL.out] at K1
            refine K1.mono ?_
            rintro e w2 ⟨x2, y2, rfl, s2, b2⟩
            have X2 := mkHid s2
            have B2 := mkHid (B1.out.trans (b2.mono B1.out.size))
            have R2 := mkHid (R1.out.below b2)
            have I2 := mkHid (I1.out.below b2)
            clear K1 s2 b2 R1 I1
            go_wp2_with fail
            refine (rsolve_any q a1 a2 c1 nb c2 L bl n HL.out w2 R2.out I2.out (by omega) HBIG.out (by omega)).mono ?_
            rintro e w3 ⟨x3, y3, rfl, s3, b3⟩
            have X3 := mkHid s3
            have X2' := mkHid (X2.out.below b3)
            have B3 := mkHid (B2.out.trans (b3.mono B2.out.size))
            have R3 := mkHid (R2.out.below b3)
            clear s3 b3 R2 I2 B2 X2
            go_wp2_with fail
            have K4 := kernel_any q cols a1 c1 L w3 (HT.out.step B3.out) (by rw [HL.out]; exact R3.out) (by rw [HL.out]; omega) HBIG.out
            rw [HL.out] at K4
            refine K4.mono ?_
            rintro e w4 ⟨x4, y4, rfl, s4, b4⟩
            have X4 := mkHid s4
            have X2 := mkHid (X2'.out.below b4)
            have X3' := mkHid (X3.out.below b4)
            have B4 := mkHid (B3.out.trans (b4.mono B3.out.size))
            have R4 := mkHid (R3.out.below b4)
            clear K4 s4 b4 R3 B3 X2' X3
            go_wp2_with fail
            refine (rkernel_any q cols a1 c1 L n HL.out w4 R4.out (by omega) HBIG.out).mono ?_
            rintro e w5 ⟨x5, y5, rfl, s5, b5⟩
            have X5 := mkHid s5
            have X2' := mkHid (X2.out.below b5)
            have X3 := mkHid (X3'.out.below b5)
            have X4' := mkHid (X4.out.below b5)
            have B5 := mkHid (B4.out.trans (b5.mono B4.out.size))
            have R5 := mkHid (R4.out.below b5)
            clear s5 b5 R4 B4 X2 X3' X4
            have HSL : Hid ((solF q L bl nb).length ≤ 1000000) := mkHid (solF_len q L bl nb)
            have HKL : Hid ((kerF q L cols).length ≤ 1000000) := mkHid (kerF_len q L cols)
            have HKW : Hid (∀ i, ((kerF q L cols).getD i []).length ≤ 1000000) := mkHid (kerF_wide q L cols)
            obtain ⟨so, hso⟩ : ∃ so, solOk q L bl nb = so := ⟨_, rfl⟩
            obtain ⟨sf, hsf⟩ : ∃ so, solF q L bl nb = so := ⟨_, rfl⟩
            obtain ⟨ko, hko⟩ : ∃ so, kerOk q L cols = so := ⟨_, rfl⟩
            obtain ⟨kf, hkf⟩ : ∃ so, kerF q L cols = so := ⟨_, rfl⟩
            rw [hsf] at X2' X3 HSL
            rw [hkf] at X4' X5 HKL HKW
            rw [hso, hko, hsf, hkf]
            clear hso hsf hko hkf
            have hsl := HSL.out
            have hkl := HKL.out
            have u1 : (so == so) = true := by simp
            have u2 : (ko == ko) = true := by simp
            go_wp2_with fail
            refine (same_any _ _ _ _ _ _ _ _ _ hsl X2'.out X3.out).mono ?_
            rintro e w6 ⟨rfl, b6⟩
            rw [decide_eq_true rfl]
            have X4 := mkHid (X4'.out.below b6)
            have X5' := mkHid (X5.out.below b6)
            have B6 := mkHid (B5.out.trans (b6.mono B5.out.size))
            have R6 := mkHid (R5.out.below b6)
            clear b6 R5 B5 X4' X5
            go_wp2_with fail
            refine (sameRows_any _ _ _ _ _ _ _ _ _ hkl X4.out X5'.out HKW.out).mono ?_
            rintro e w7 ⟨rfl, b7⟩
            rw [decide_eq_true rfl]
            have B7 := mkHid (B6.out.trans (b7.mono B6.out.size))
            have R7 := mkHid (R6.out.below b7)
            clear b7 R6 B6 X4 X5'
            go_wp2_with fail
            have K8 := rank_any q a1 c1 L w7 (HT.out.step B7.out) (by rw [HL.out]; exact R7.out) (by rw [HL.out]; omega) HBIG.out
            rw [HL.out] at K8
            refine K8.mono ?_
            rintro e w8 ⟨rfl, b8⟩
            have B8 := mkHid (B7.out.trans (b8.mono B7.out.size))
            have R8 := mkHid (R7.out.below b8)
            clear K8 b8 R7 B7
            go_wp2_with fail
            refine (rrank_any q a1 c1 L n HL.out w8 R8.out (by omega) HBIG.out).mono ?_
            rintro e w9 ⟨rfl, b9⟩
            have B9 := mkHid (B8.out.trans (b9.mono B8.out.size))
            obtain ⟨rk, hrk⟩ : ∃ r, rankF q L = r := ⟨_, rfl⟩
            rw [hrk]
            have u3 : (rk == rk) = true := by simp
            clear b9 hrk
            go_wp2_with fail
            go_ret
            exact ⟨rfl, B9.out⟩
set_option maxHeartbeats 8000000 in
set_option maxRecDepth 100000 in
theorem lin_b1 (q cols : Int) (a1 a2 : Option Addr) (n c1 nb c2 : Nat) (L : List (List Int)) (bl : List Int) (w : World) (hT : Tab w) (hR : ArgR w a1 n L) (hI : ArgI w a2 nb bl) (hf : (fewI n 7 && fewB L 7 n) = true) (hb : 65 ≤ n) (hnb : 70 < nb) :
    Calls Tryd.prog 12 #[.int .i64 q, .slice a1 n c1, .slice a2 nb c2, .int .i64 cols] w fun e w' => e = .returned (.bool true) ∧ Below w.heap.size w w' := by
  have HT := mkHid hT
  have HR := mkHid hR
  have HI := mkHid hI
  clear hT hR hI
  have HF := mkHid hf
  have hn7 : n ≤ 7 ∨ (65 ≤ n ∧ n ≤ 66) := by
    have h1 := (Bool.and_eq_true _ _).mp hf
    have h2 := h1.1
    unfold fewI at h2
    simp at h2
    omega
  clear hf
  have f1 : decide ((7 : Int) < n) = true := decide_eq_true (by omega)
  have f1' : (7 : Int) < n := by omega
  have f2 : decide ((n : Int) < 65) = false := decide_eq_false (by omega)
  have f2' : ¬ ((n : Int) < 65) := by omega
  have f3 : decide ((70 : Int) < nb) = true := decide_eq_true (by omega)
  go_enter Tryd.func12, Tryd.ntmps12
  go_wp2_with fail
  refine (saneL_any _ HT.out).mono ?_
  rintro e w1 ⟨rfl, b1⟩
  have B1 := mkHid b1
  have R1 := mkHid (HR.out.below b1)
  have I1 := mkHid (HI.out.below b1)
  clear b1
  go_wp2_with fail
  have KF := few_any a1 n c1 7 L w1 (by omega) R1.out
  rw [HF.out] at KF
  refine KF.mono ?_
  rintro e w2 ⟨rfl, rfl⟩
  clear KF
  go_wp2
  go_ret
  exact ⟨rfl, B1.out⟩
set_option maxHeartbeats 8000000 in
set_option maxRecDepth 100000 in
theorem lin_c1 (q cols : Int) (a1 a2 : Option Addr) (n c1 nb c2 : Nat) (L : List (List Int)) (bl : List Int) (w : World) (hT : Tab w) (hR : ArgR w a1 n L) (hI : ArgI w a2 nb bl) (hf : (fewI n 7 && fewB L 7 n) = true) (hb : 65 ≤ n) (hnb : nb ≤ 70) (hc : 9 < cols ∧ cols < 60) :
    Calls Tryd.prog 12 #[.int .i64 q, .slice a1 n c1, .slice a2 nb c2, .int .i64 cols] w fun e w' => e = .returned (.bool true) ∧ Below w.heap.size w w' := by
  have HT := mkHid hT
  have HR := mkHid hR
  have HI := mkHid hI
  clear hT hR hI
  have HF := mkHid hf
  have hn7 : n ≤ 7 ∨ (65 ≤ n ∧ n ≤ 66) := by
    have h1 := (Bool.and_eq_true _ _).mp hf
    have h2 := h1.1
    unfold fewI at h2
    simp at h2
    omega
  clear hf
  have f1 : decide ((7 : Int) < n) = true := decide_eq_true (by omega)
  have f1' : (7 : Int) < n := by omega
  have f2 : decide ((n : Int) < 65) = false := decide_eq_false (by omega)
  have f2' : ¬ ((n : Int) < 65) := by omega
  have f3 : decide ((70 : Int) < nb) = false := decide_eq_false (by omega)
  have f3' : ¬ ((70 : Int) < nb) := by omega
  have f4 : decide (9 < cols) = true := decide_eq_true hc.1
  have f5 : decide (cols < 60) = true := decide_eq_true hc.2
  go_enter Tryd.func12, Tryd.ntmps12
  go_wp2_with fail
  refine (saneL_any _ HT.out).mono ?_
  rintro e w1 ⟨rfl, b1⟩
  have B1 := mkHid b1
  have R1 := mkHid (HR.out.below b1)
  have I1 := mkHid (HI.out.below b1)
  clear b1
  go_wp2_with fail
  have KF := few_any a1 n c1 7 L w1 (by omega) R1.out
  rw [HF.out] at KF
  refine KF.mono ?_
  rintro e w2 ⟨rfl, rfl⟩
  clear KF
  go_wp2
  go_ret
  exact ⟨rfl, B1.out⟩
set_option maxHeartbeats 8000000 in
set_option maxRecDepth 100000 in
theorem lin_m1 (q cols : Int) (a1 a2 : Option Addr) (n c1 nb c2 : Nat) (L : List (List Int)) (bl : List Int) (w : World) (hT : Tab w) (hR : ArgR w a1 n L) (hI : ArgI w a2 nb bl) (hf : (fewI n 7 && fewB L 7 n) = true) (hb : 65 ≤ n) (hnb : nb ≤ 70) (hc : ¬ (9 < cols ∧ cols < 60)) :
    Calls Tryd.prog 12 #[.int .i64 q, .slice a1 n c1, .slice a2 nb c2, .int .i64 cols] w fun e w' => e = .returned (.bool true) ∧ Below w.heap.size w w' := by
  have HT := mkHid hT
  have HR := mkHid hR
  have HI := mkHid hI
  clear hT hR hI
  have HF := mkHid hf
  have hn7 : n ≤ 7 ∨ (65 ≤ n ∧ n ≤ 66) := by
    have h1 := (Bool.and_eq_true _ _).mp hf
    have h2 := h1.1
    unfold fewI at h2
    simp at h2
    omega
  clear hf
  have f1 : decide ((7 : Int) < n) = true := decide_eq_true (by omega)
  have f1' : (7 : Int) < n := by omega
  have f2 : decide ((n : Int) < 65) = false := decide_eq_false (by omega)
  have f2' : ¬ ((n : Int) < 65) := by omega
  have f3 : decide ((70 : Int) < nb) = false := decide_eq_false (by omega)
  have f3' : ¬ ((70 : Int) < nb) := by omega
  have hnle : n ≤ 66 := by omega
  have HBIG : Hid (∀ i, (L.getD i []).length ≤ 1000000) := mkHid (fun i => by
    rcases Nat.lt_or_ge i n with h | h
    · have h1 := fewB_at ((Bool.and_eq_true _ _).mp HF.out).2 i h
      exact Nat.le_trans (fewI_bd h1 (by omega)) (by omega)
    · rw [List.getD, List.getElem?_eq_none (by rw [← HR.out.len]; exact h)]; exact Nat.zero_le _)
  have HL : Hid (L.length = n) := mkHid HR.out.len.symm
  have f6 : decide (9 < cols) = false ∨ (decide (9 < cols) = true ∧ decide (cols < 60) = false) := by
    by_cases h : 9 < cols
    · exact .inr ⟨decide_eq_true h, decide_eq_false (by omega)⟩
    · exact .inl (decide_eq_false h)
  go_enter Tryd.func12, Tryd.ntmps12
  go_wp2_with fail
  refine (saneL_any _ HT.out).mono ?_
  rintro e w1 ⟨rfl, b1⟩
  have B1 := mkHid b1
  have R1 := mkHid (HR.out.below b1)
  have I1 := mkHid (HI.out.below b1)
  clear b1
  go_wp2_with fail
  have KF := few_any a1 n c1 7 L w1 (by omega) R1.out
  rw [HF.out] at KF
  refine KF.mono ?_
  rintro e w2 ⟨rfl, rfl⟩
  clear KF
  rcases f6 with f6 | ⟨f6, f7⟩
  · go_wp2_with fail
    clear f3 f3' f6
    as_aux_lemma =>
      go_loop [11] (fun c => ∃ i : Nat, c = .int .i64 i ∧ i ≤ n) (fun c => (n - intOf c).toNat)
      case atStart => exact ⟨0, rfl, by omega⟩
      case round =>
        obtain ⟨i, rfl, hi⟩ := hrel
        have e2 : IntKind.i64.wrap ((i : Int) + 1) = ((i + 1 : Nat) : Int) := IntWalk.i64_in _ (by omega)
        by_cases hlt : i < n
        · obtain ⟨g, o, rfl, -, hc⟩ := R1.out.here (by omega)
          obtain ⟨r, k, p, x1, -⟩ := hc i hlt
          have ii : (i : Int) < n := by omega
          clear hc
          by_cases hk : 1 < k
          · have t1 : decide ((1 : Int) < k) = true := decide_eq_true (by omega)
            go_wp2
            go_ret
            exact ⟨rfl, B1.out⟩
          · have t1 : decide ((1 : Int) < k) = false := decide_eq_false (by omega)
            have t2 : ¬ ((1 : Int) < k) := by omega
            go_wp2
            go_round
            case rel => exact ⟨i + 1, rfl, by omega⟩
            case measure => simp [intOf]; omega
        · obtain rfl : n = i := by omega
          clear hlt e2 hi
          have i7 : decide ((n : Int) < n) = false := decide_eq_false (by omega)
          as_aux_lemma =>
            go_wp2_with fail
            have K1 := solve_any q a1 a2 c1 nb c2 L bl w1 (HT.out.step B1.out) (by rw [HL.out]; exact R1.out) I1.out (by rw [HL.out]; omega) (by omega) HBIG.out
            rw [HL.out] at K1
            refine K1.mono ?_
            rintro e w2 ⟨x2, y2, rfl, s2, b2⟩
            have X2 := mkHid s2
            have B2 := mkHid (B1.out.trans (b2.mono B1.out.size))
            have R2 := mkHid (R1.out.below b2)
            have I2 := mkHid (I1.out.below b2)
            clear K1 s2 b2 R1 I1
            go_wp2_with fail
            refine (rsolve_any q a1 a2 c1 nb c2 L bl n HL.out w2 R2.out I2.out (by omega) HBIG.out (by omega)).mono ?_
            rintro e w3 ⟨x3, y3, rfl, s3, b3⟩
            have X3 := mkHid s3
            have X2' := mkHid (X2.out.below b3)
            have B3 := mkHid (B2.out.trans (b3.mono B2.out.size))
            have R3 := mkHid (R2.out.below b3)
            clear s3 b3 R2 I2 B2 X2
            go_wp2_with fail
            have K4 := kernel_any q cols a1 c1 L w3 (HT.out.step B3.out) (by rw [HL.out]; exact R3.out) (by rw [HL.out]; omega) HBIG.out
            rw [HL.out] at K4
            refine K4.mono ?_
            rintro e w4 ⟨x4, y4, rfl, s4, b4⟩
            have X4 := mkHid s4
            have X2 := mkHid (X2'.out.below b4)
            have X3' := mkHid (X3.out.below b4)
            have B4 := mkHid (B3.out.trans (b4.mono B3.out.size))
            have R4 := mkHid (R3.out.below b4)
            clear K4 s4 b4 R3 B3 X2' X3
            go_wp2_with fail
            refine (rkernel_any q cols a1 c1 L n HL.out w4 R4.out (by omega) HBIG.out).mono ?_
            rintro e w5 ⟨x5, y5, rfl, s5, b5⟩
            have X5 := mkHid s5
            have X2' := mkHid (X2.out.below b5)
            have X3 := mkHid (X3'.out.below b5)
            have X4' := mkHid (X4.out.below b5)
            have B5 := mkHid (B4.out.trans (b5.mono B4.out.size))
            have R5 := mkHid (R4.out.below b5)
            clear s5 b5 R4 B4 X2 X3' X4
            have HSL : Hid ((solF q L bl nb).length ≤ 1000000) := mkHid (solF_len q L bl nb)
            have HKL : Hid ((kerF q L cols).length ≤ 1000000) := mkHid (kerF_len q L cols)
            have HKW : Hid (∀ i, ((kerF q L cols).getD i []).length ≤ 1000000) := mkHid (kerF_wide q L cols)
            obtain ⟨so, hso⟩ : ∃ so, solOk q L bl nb = so := ⟨_, rfl⟩
            obtain ⟨sf, hsf⟩ : ∃ so, solF q L bl nb = so := ⟨_, rfl⟩
            obtain ⟨ko, hko⟩ : ∃ so, kerOk q L cols = so := ⟨_, rfl⟩
            obtain ⟨kf, hkf⟩ : ∃ so, kerF q L cols = so := ⟨_, rfl⟩
            rw [hsf] at X2' X3 HSL
            rw [hkf] at X4' X5 HKL HKW
            rw [hso, hko, hsf, hkf]
            clear hso hsf hko hkf
            have hsl := HSL.out
            have hkl := HKL.out
            have u1 : (so == so) = true := by simp
            have u2 : (ko == ko) = true := by simp
            go_wp2_with fail
            refine (same_any _ _ _ _ _ _ _ _ _ hsl X2'.out X3.out).mono ?_
            rintro e w6 ⟨rfl, b6⟩
            rw [decide_eq_true rfl]
            have X4 := mkHid (X4'.out.below b6)
            have X5' := mkHid (X5.out.below b6)
            have B6 := mkHid (B5.out.trans (b6.mono B5.out.size))
            have R6 := mkHid (R5.out.below b6)
            clear b6 R5 B5 X4' X5
            go_wp2_with fail
            refine (sameRows_any _ _ _ _ _ _ _ _ _ hkl X4.out X5'.out HKW.out).mono ?_
            rintro e w7 ⟨rfl, b7⟩
            rw [decide_eq_true rfl]
            have B7 := mkHid (B6.out.trans (b7.mono B6.out.size))
            have R7 := mkHid (R6.out.below b7)
            clear b7 R6 B6 X4 X5'
            go_wp2_with fail
            have K8 := rank_any q a1 c1 L w7 (HT.out.step B7.out) (by rw [HL.out]; exact R7.out) (by rw [HL.out]; omega) HBIG.out
            rw [HL.out] at K8
            refine K8.mono ?_
            rintro e w8 ⟨rfl, b8⟩
            have B8 := mkHid (B7.out.trans (b8.mono B7.out.size))
            have R8 := mkHid (R7.out.below b8)
            clear K8 b8 R7 B7
            go_wp2_with fail
            refine (rrank_any q a1 c1 L n HL.out w8 R8.out (by omega) HBIG.out).mono ?_
            rintro e w9 ⟨rfl, b9⟩
            have B9 := mkHid (B8.out.trans (b9.mono B8.out.size))
            obtain ⟨rk, hrk⟩ : ∃ r, rankF q L = r := ⟨_, rfl⟩
            rw [hrk]
            have u3 : (rk == rk) = true := by simp
            clear b9 hrk
            go_wp2_with fail
            go_ret
            exact ⟨rfl, B9.out⟩
  · go_wp2_with fail
    clear f3 f3' f6 f7
    as_aux_lemma =>
      go_loop [11] (fun c => ∃ i : Nat, c = .int .i64 i ∧ i ≤ n) (fun c => (n - intOf c).toNat)
      case atStart => exact ⟨0, rfl, by omega⟩
      case round =>
        obtain ⟨i, rfl, hi⟩ := hrel
        have e2 : IntKind.i64.wrap ((i : Int) + 1) = ((i + 1 : Nat) : Int) := IntWalk.i64_in _ (by omega)
        by_cases hlt : i < n
        · obtain ⟨g, o, rfl, -, hc⟩ := R1.out.here (by omega)
          obtain ⟨r, k, p, x1, -⟩ := hc i hlt
          have ii : (i : Int) < n := by omega
          clear hc
          by_cases hk : 1 < k
          · have t1 : decide ((1 : Int) < k) = true := decide_eq_true (by omega)
            go_wp2
            go_ret
            exact ⟨rfl, B1.out⟩
          · have t1 : decide ((1 : Int) < k) = false := decide_eq_false (by omega)
            have t2 : ¬ ((1 : Int) < k) := by omega
            go_wp2
            go_round
            case rel => exact ⟨i + 1, rfl, by omega⟩
            case measure => simp [intOf]; omega
        · obtain rfl : n = i := by omega
          clear hlt e2 hi
          have i7 : decide ((n : Int) < n) = false := decide_eq_false (by omega)
          as_aux_lemma =>
            go_wp2_with fail
            have K1 := solve_any q a1 a2 c1 nb c2 L bl w1 (HT.out.step B1.out) (by rw [HL.out]; exact R1.out) I1.out (by rw [HL.out]; omega) (by omega) HBIG.out
            rw [HL.out] at K1
            refine K1.mono ?_
            rintro e w2 ⟨x2, y2, rfl, s2, b2⟩
            have X2 := mkHid s2
            have B2 := mkHid (B1.out.trans (b2.mono B1.out.size))
            have R2 := mkHid (R1.out.below b2)
            have I2 := mkHid (I1.out.below b2)
            clear K1 s2 b2 R1 I1
            go_wp2_with fail
            refine (rsolve_any q a1 a2 c1 nb c2 L bl n HL.out w2 R2.out I2.out (by omega) HBIG.out (by omega)).mono ?_
            rintro e w3 ⟨x3, y3, rfl, s3, b3⟩
            have X3 := mkHid s3
            have X2' := mkHid (X2.out.below b3)
            have B3 := mkHid (B2.out.trans (b3.mono B2.out.size))
            have R3 := mkHid (R2.out.below b3)
            clear s3 b3 R2 I2 B2 X2
            go_wp2_with fail
            have K4 := kernel_any q cols a1 c1 L w3 (HT.out.step B3.out) (by rw [HL.out]; exact R3.out) (by rw [HL.out]; omega) HBIG.out
            rw [HL.out] at K4
            refine K4.mono ?_
            rintro e w4 ⟨x4, y4, rfl, s4, b4⟩
            have X4 := mkHid s4
            have X2 := mkHid (X2'.out.below b4)
            have X3' := mkHid (X3.out.below b4)
            have B4 := mkHid (B3.out.trans (b4.mono B3.out.size))
            have R4 := mkHid (R3.out.below b4)
            clear K4 s4 b4 R3 B3 X2' X3
            go_wp2_with fail
            refine (rkernel_any q cols a1 c1 L n HL.out w4 R4.out (by omega) HBIG.out).mono ?_
            rintro e w5 ⟨x5, y5, rfl, s5, b5⟩
            have X5 := mkHid s5
            have X2' := mkHid (X2.out.below b5)
            have X3 := mkHid (X3'.out.below b5)
            have X4' := mkHid (X4.out.below b5)
            have B5 := mkHid (B4.out.trans (b5.mono B4.out.size))
            have R5 := mkHid (R4.out.below b5)
            clear s5 b5 R4 B4 X2 X3' X4
            have HSL : Hid ((solF q L bl nb).length ≤ 1000000) := mkHid (solF_len q L bl nb)
            have HKL : Hid ((kerF q L cols).length ≤ 1000000) := mkHid (kerF_len q L cols)
            have HKW : Hid (∀ i, ((kerF q L cols).getD i []).length ≤ 1000000) := mkHid (kerF_wide q L cols)
            obtain ⟨so, hso⟩ : ∃ so, solOk q L bl nb = so := ⟨_, rfl⟩
            obtain ⟨sf, hsf⟩ : ∃ so, solF q L bl nb = so := ⟨_, rfl⟩
            obtain ⟨ko, hko⟩ : ∃ so, kerOk q L cols = so := ⟨_, rfl⟩
            obtain ⟨kf, hkf⟩ : ∃ so, kerF q L cols = so := ⟨_, rfl⟩
            rw [hsf] at X2' X3 HSL
            rw [hkf] at X4' X5 HKL HKW
            rw [hso, hko, hsf, hkf]
            clear hso hsf hko hkf
            have hsl := HSL.out
            have hkl := HKL.out
            have u1 : (so == so) = true := by simp
            have u2 : (ko == ko) = true := by simp
            go_wp2_with fail
            refine (same_any _ _ _ _ _ _ _ _ _ hsl X2'.out X3.out).mono ?_
            rintro e w6 ⟨rfl, b6⟩
            rw [decide_eq_true rfl]
            have X4 := mkHid (X4'.out.below b6)
            have X5' := mkHid (X5.out.below b6)
            have B6 := mkHid (B5.out.trans (b6.mono B5.out.size))
            have R6 := mkHid (R5.out.below b6)
            clear b6 R5 B5 X4' X5
            go_wp2_with fail
            refine (sameRows_any _ _ _ _ _ _ _ _ _ hkl X4.out X5'.out HKW.out).mono ?_
            rintro e w7 ⟨rfl, b7⟩
            rw [decide_eq_true rfl]
            have B7 := mkHid (B6.out.trans (b7.mono B6.out.size))
            have R7 := mkHid (R6.out.below b7)
            clear b7 R6 B6 X4 X5'
            go_wp2_with fail
            have K8 := rank_any q a1 c1 L w7 (HT.out.step B7.out) (by rw [HL.out]; exact R7.out) (by rw [HL.out]; omega) HBIG.out
            rw [HL.out] at K8
            refine K8.mono ?_
            rintro e w8 ⟨rfl, b8⟩
            have B8 := mkHid (B7.out.trans (b8.mono B7.out.size))
            have R8 := mkHid (R7.out.below b8)
            clear K8 b8 R7 B7
            go_wp2_with fail
            refine (rrank_any q a1 c1 L n HL.out w8 R8.out (by omega) HBIG.out).mono ?_
            rintro e w9 ⟨rfl, b9⟩
            have B9 := mkHid (B8.out.trans (b9.mono B8.out.size))
            obtain ⟨rk, hrk⟩ : ∃ r, rankF q L = r := ⟨_, rfl⟩
            rw [hrk]
            have u3 : (rk == rk) = true := by simp
            clear b9 hrk
            go_wp2_with fail
            go_ret
            exact ⟨rfl, B9.out⟩
theorem lin_walk (q cols : Int) (a1 a2 : Option Addr) (n c1 nb c2 : Nat) (L : List (List Int)) (bl : List Int) (w : World) (hT : Tab w) (hR : ArgR w a1 n L) (hI : ArgI w a2 nb bl) :
    Calls Tryd.prog 12 #[.int .i64 q, .slice a1 n c1, .slice a2 nb c2, .int .i64 cols] w fun e w' => e = .returned (.bool true) ∧ Below w.heap.size w w' := by
  cases hf : (fewI n 7 && fewB L 7 n) with
  | false => exact lin_many q cols a1 a2 n c1 nb c2 L bl w hT hR hI hf
  | true =>
    have hn7 : n ≤ 7 ∨ 65 ≤ n := by
      have h2 := ((Bool.and_eq_true _ _).mp hf).1
      unfold fewI at h2
      simp at h2
      omega
    rcases hn7 with h | h
    · by_cases hnb : nb ≤ 70
      · by_cases hc : 9 < cols ∧ cols < 60
        · exact lin_c0 q cols a1 a2 n c1 nb c2 L bl w hT hR hI hf h hnb hc
        · exact lin_m0 q cols a1 a2 n c1 nb c2 L bl w hT hR hI hf h hnb hc
      · exact lin_b0 q cols a1 a2 n c1 nb c2 L bl w hT hR hI hf h (by omega)
    · by_cases hnb : nb ≤ 70
      · by_cases hc : 9 < cols ∧ cols < 60
        · exact lin_c1 q cols a1 a2 n c1 nb c2 L bl w hT hR hI hf h hnb hc
        · exact lin_m1 q cols a1 a2 n c1 nb c2 L bl w hT hR hI hf h hnb hc
      · exact lin_b1 q cols a1 a2 n c1 nb c2 L bl w hT hR hI hf h (by omega)
end Go.Proofs.YtbllanmhbfnagaaDoor
