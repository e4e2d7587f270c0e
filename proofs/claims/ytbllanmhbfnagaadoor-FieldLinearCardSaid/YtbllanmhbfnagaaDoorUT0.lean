/- Plain laws: how many solutions (no program in sight). -/
import Derived.Test.YtbllanmhbfnagaaDoorU21
import Derived.Test.YtbllanmhbfnagaaDoorU33
import Derived.Test.YtbllanmhbfnagaaDoorU30
set_option linter.unusedVariables false
set_option linter.unusedSimpArgs false
namespace Go.Proofs.YtbllanmhbfnagaaDoor
/-- The product of a row and a vector, as the property reckons it. -/
def dotQ (q : Int) (r v : List Int) : Nat → Int
  | 0 => 0
  | k + 1 => addI q (dotQ q r v k) (mulI q (r.getD k 0) (v.getD k 0))
theorem dotQ_mod {q : Int} (hq : modB q = true) (r v : List Int) : ∀ k, dotQ q r v k = dotN r v k % q
  | 0 => by simp [dotQ, dotN]
  | k + 1 => by rw [dotQ, dotQ_mod hq r v k, addI_of hq, mulI_of hq, add_mod_l, add_mod_r]; rfl
def mvL (q : Int) (L : List (List Int)) (v : List Int) (C : Nat) : List Int := L.map (fun r => dotQ q r v C)
def resL (q : Int) (b : List Int) : List Int := b.map (fun x => addI q x 0)
theorem aug_at (q : Int) (L : List (List Int)) (bl : List Int) (n i : Nat) (h : i < n) : (augM q L bl n).getD i [] = resRow q (L.getD i []) ++ [bl.getD i 0 % q] := by simp [augM, List.getD, h]
theorem aug_col {q : Int} {r : List Int} {x : Int} {C : Nat} (hr : r.length = C) : (∀ j, j < C → (resRow q r ++ [x]).getD j 0 = r.getD j 0 % q) ∧ (resRow q r ++ [x]).getD C 0 = x ∧ (resRow q r ++ [x]).length = C + 1 := by
  have hl : (resRow q r).length = C := by simp [resRow, hr]
  refine ⟨fun j hj => ?_, ?_, by simp [hl]⟩
  · rw [List.getD, List.getElem?_append_left (by omega)]
    simp [resRow, List.getD, show j < r.length by omega]
  · rw [List.getD, List.getElem?_append_right (by omega), hl, Nat.sub_self]; rfl
theorem dot_cong {q : Int} {r s v : List Int} : ∀ k, (∀ j, j < k → q ∣ s.getD j 0 - r.getD j 0) → q ∣ dotN s v k - dotN r v k
  | 0, _ => ⟨0, by simp [dotN]⟩
  | k + 1, h => by
    obtain ⟨a, ha⟩ := dot_cong (v := v) k (fun j hj => h j (by omega))
    obtain ⟨b, hb⟩ := h k (by omega)
    refine ⟨a + b * v.getD k 0, ?_⟩
    simp only [dotN]
    generalize v.getD k 0 = y at *
    generalize s.getD k 0 = s0 at *
    generalize r.getD k 0 = r0 at *
    grind
theorem emod_eq_iff {q x y : Int} : x % q = y % q ↔ q ∣ x - y := by
  constructor
  · intro h; exact Int.dvd_of_emod_eq_zero (by rw [Int.sub_emod, h, Int.sub_self]; exact Int.zero_emod q)
  · rintro ⟨k, hk⟩
    rw [show x = y + q * k by omega, Int.add_mul_emod_self_left]
theorem van_aug {q : Int} {r v : List Int} {b : Int} {C : Nat} (hr : r.length = C) : Van q C (resRow q r ++ [b % q]) v ↔ dotN r v C % q = b % q := by
  obtain ⟨h1, h2, -⟩ := aug_col (q := q) (x := b % q) hr
  unfold Van
  rw [h2, emod_eq_iff]
  obtain ⟨a, ha⟩ := dot_cong (q := q) (r := r) (s := resRow q r ++ [b % q]) (v := v) C (fun j hj => by rw [h1 j hj]; exact dvd_emod_sub q _)
  obtain ⟨c, hc⟩ := dvd_emod_sub q b
  constructor
  · rintro ⟨k, hk⟩
    exact ⟨k - a + c, by rw [Int.mul_add, Int.mul_sub]; omega⟩
  · rintro ⟨k, hk⟩
    exact ⟨k + a - c, by rw [Int.mul_sub, Int.mul_add]; omega⟩
theorem same_pre {q : Int} (hq : modB q = true) {L : List (List Int)} {bl : List Int} {C : Nat} (hw : ∀ i, i < L.length → (L.getD i []).length = C) (hb : bl.length = L.length) (v : List Int) :
    decide (mvL q L v C = resL q bl) = preB q C (augM q L bl L.length) v L.length := by
  rw [Bool.eq_iff_iff, decide_eq_true_eq, preB_iff]
  have hrow : ∀ i, i < L.length → ((mvL q L v C).getD i 0 = (resL q bl).getD i 0 ↔ Van q C ((augM q L bl L.length).getD i []) v) := fun i hi => by
    rw [aug_at q L bl _ i hi, van_aug (hw i hi)]
    have e1 : (mvL q L v C).getD i 0 = dotN (L.getD i []) v C % q := by
      rw [← dotQ_mod hq]
      simp [mvL, List.getD, hi]
    have e2 : (resL q bl).getD i 0 = bl.getD i 0 % q := by
      simp [resL, List.getD, show i < bl.length by omega, addI_of hq]
    rw [e1, e2]
  constructor
  · intro h i hi
    exact (hrow i hi).1 (by rw [h])
  · intro h
    exact list_eq_of (by simp [mvL, resL, hb]) (fun j hj => (hrow j (by simpa [mvL] using hj)).2 (h j (by simpa [mvL] using hj)))
/-- Two matrices that agree in the first C columns. -/
structure Agree (C : Nat) (M M' : List (List Int)) : Prop where
  len : M.length = M'.length
  wide : ∀ i, i < M.length → (M.getD i []).length = C + 1 ∧ (M'.getD i []).length = C + 1
  cols : ∀ i j, i < M.length → j < C → (M.getD i []).getD j 0 = (M'.getD i []).getD j 0
theorem Agree.pick {C n : Nat} {M M' : List (List Int)} (h : Agree C M M') (hn : n < C) (k : Nat) : pickF M n k = pickF M' n k := by
  cases hp : pickF M n k with
  | none => rw [pickF_no (fun i h1 h2 => by rw [← h.cols i n (by rw [h.len]; exact h2) hn]; exact pickF_none hp i h1 (by rw [h.len]; exact h2))]
  | some a =>
    obtain ⟨a1, a2, a3, a4⟩ := pickF_some hp
    rw [pickF_of a1 (by rw [← h.len]; exact a2) (by rw [← h.cols a n a2 hn]; exact a3) (fun i h1 h2 => by rw [← h.cols i n (by omega) hn]; exact a4 i h1 h2)]
theorem Agree.step {q : Int} {C n : Nat} {M M' : List (List Int)} {pl : List Nat} (h : Agree C M M') (hq : modB q = true) (hn : n < C) : Agree C (stepF q (M, pl) n).1 (stepF q (M', pl) n).1 ∧ (stepF q (M, pl) n).2 = (stepF q (M', pl) n).2 := by
  cases hp : pickF M n pl.length with
  | none =>
    have hp' : pickF M' n pl.length = none := by rw [← h.pick hn]; exact hp
    rw [stepF_no hp, stepF_no hp']
    exact ⟨h, rfl⟩
  | some a =>
    have hp' : pickF M' n pl.length = some a := by rw [← h.pick hn]; exact hp
    obtain ⟨a1, a2, a3, a4⟩ := pickF_some hp
    obtain ⟨nr, hnr, s2, sl, sk, si⟩ := step_rows (q := q) hp
    obtain ⟨nr', hnr', s2', sl', sk', si'⟩ := step_rows (q := q) hp'
    refine ⟨⟨by rw [sl, sl', h.len], ?_, ?_⟩, by rw [s2, s2']⟩
    · intro i hi
      rw [sl] at hi
      have hsw : swk a pl.length i < M.length := swk_lt (by omega) hi
      by_cases hk : i = pl.length
      · rw [hk, sk, sk', hnr, hnr', normR_len, normR_len]; exact h.wide a a2
      · rw [si i hi hk, si' i (by rw [← h.len]; exact hi) hk]
        have hw := h.wide _ hsw
        constructor
        · split
          · exact hw.1
          · rw [lessR_len]; exact hw.1
        · split
          · exact hw.2
          · rw [lessR_len]; exact hw.2
    · intro i j hi hj
      rw [sl] at hi
      have hsw : swk a pl.length i < M.length := swk_lt (by omega) hi
      have hnrj : nr.getD j 0 = nr'.getD j 0 := by rw [hnr, hnr', norm_get hq, norm_get hq, h.cols a j a2 hj, h.cols a n a2 hn]
      by_cases hk : i = pl.length
      · rw [hk, sk, sk', hnrj]
      · rw [si i hi hk, si' i (by rw [← h.len]; exact hi) hk, ← h.cols _ n hsw hn]
        have hw := h.wide _ hsw
        split
        · exact h.cols _ j hsw hj
        · rw [less_get hq j (by omega), less_get hq j (by omega), h.cols _ j hsw hj, hnrj]
theorem Agree.red {q : Int} {C : Nat} {M M' : List (List Int)} (h : Agree C M M') (hq : modB q = true) : ∀ n, n ≤ C → Agree C (redF q M n).1 (redF q M' n).1 ∧ (redF q M n).2 = (redF q M' n).2
  | 0, _ => ⟨h, rfl⟩
  | n + 1, hn => by
    obtain ⟨h1, h2⟩ := h.red hq n (by omega)
    show Agree C (stepF q (redF q M n) n).1 (stepF q (redF q M' n) n).1 ∧ (stepF q (redF q M n) n).2 = (stepF q (redF q M' n) n).2
    obtain ⟨⟨S, l⟩, hS⟩ : ∃ S, redF q M n = S := ⟨_, rfl⟩
    obtain ⟨⟨S', l'⟩, hS'⟩ : ∃ S, redF q M' n = S := ⟨_, rfl⟩
    rw [hS, hS'] at h1 h2 ⊢
    obtain rfl : l = l' := h2
    exact h1.step hq (by omega)
/-- The pivots do not look at the right side. -/
theorem rank_same {q : Int} (hq : modB q = true) {L : List (List Int)} (hw : ∀ i, i < L.length → (L.getD i []).length = colsN L) (b b' : List Int) : (redL q L b).2 = (redL q L b').2 := by
  refine (Agree.red (C := colsN L) ⟨by rw [augM_len, augM_len], fun i hi => ?_, fun i j hi hj => ?_⟩ hq (colsN L) (Nat.le_refl _)).2
  · rw [augM_len] at hi
    rw [aug_at _ _ _ _ _ hi, aug_at _ _ _ _ _ hi]
    exact ⟨(aug_col (hw i hi)).2.2, (aug_col (hw i hi)).2.2⟩
  · rw [augM_len] at hi
    rw [aug_at _ _ _ _ _ hi, aug_at _ _ _ _ _ hi, (aug_col (hw i hi)).1 j hj, (aug_col (hw i hi)).1 j hj]
theorem aug_bd {q : Int} (hq : 1 ≤ q) (L : List (List Int)) (bl : List Int) (n i j : Nat) : 0 ≤ ((augM q L bl n).getD i []).getD j 0 ∧ ((augM q L bl n).getD i []).getD j 0 < q := by
  by_cases hi : i < n
  · rw [aug_at _ _ _ _ _ hi]
    rw [List.getD]
    cases h : (resRow q (L.getD i []) ++ [bl.getD i 0 % q])[j]? with
    | none => simp; omega
    | some x =>
      have hm := List.mem_of_getElem? h
      rcases List.mem_append.1 hm with hm | hm
      · obtain ⟨y, _, rfl⟩ := List.mem_map.1 hm
        exact emod_bd y q hq
      · rw [List.mem_singleton.1 hm]; exact emod_bd _ q hq
  · have : (augM q L bl n).getD i [] = [] := by rw [List.getD, List.getElem?_eq_none (by rw [augM_len]; omega)]; rfl
    rw [this]; simp [List.getD]; omega
/-- What FieldSolutions asks. -/
theorem solutions_fact {p : Nat} (hp : p ∈ primes13) {L : List (List Int)} {bl : List Int} {C : Nat} (hC : colsN L = C) (hw : ∀ i, i < L.length → (L.getD i []).length = C) (h64 : C ≤ 64) (hL : L.length ≤ 64) (hb : bl.length = L.length) :
    ∃ r : Nat, rankF (p : Int) L = (r : Int) ∧ r ≤ C ∧ cntN (p ^ C) (fun n => decide (mvL (p : Int) L (pvI (digN p C n)) C = resL (p : Int) bl)) = (if solOk (p : Int) L bl L.length then p ^ (C - r) else 0) ∧
      (solOk (p : Int) L bl L.length = true → (solF (p : Int) L bl L.length).length = C ∧ mvL (p : Int) L (solF (p : Int) L bl L.length) C = resL (p : Int) bl) := by
  have hq := p13_mod hp
  have hb2 := p13_bd hp
  have hprime : primeB (p : Int) = true := by
    have : ∀ p ∈ primes13, primeB (p : Int) = true := by decide +kernel
    exact this p hp
  have hrd : rdB (p : Int) L L.length = true := by
    unfold rdB
    rw [Bool.and_eq_true, readB_iff, wideB_iff]
    exact ⟨⟨hprime, hL, rfl⟩, fun j hj => ⟨by rw [hw j hj, hC], by rw [hw j hj]; exact h64⟩⟩
  have hwA : ∀ i, i < (augM (p : Int) L bl L.length).length → ((augM (p : Int) L bl L.length).getD i []).length = C + 1 := fun i hi => by
    rw [augM_len] at hi
    rw [aug_at _ _ _ _ _ hi]
    exact (aug_col (hw i hi)).2.2
  obtain ⟨hred, hvan⟩ := redF_red hwA (aug_bd (by omega) L bl L.length) hq (by omega) (p13_inv hp) C (by omega)
  have hRL : redF (p : Int) (augM (p : Int) L bl L.length) C = redL (p : Int) L bl := by unfold redL; rw [hC]
  rw [hRL] at hred hvan
  have hlen : (redL (p : Int) L bl).1.length = L.length := by unfold redL; rw [redF_len, augM_len]
  rw [augM_len] at hvan
  have hrank : rankF (p : Int) L = ((redL (p : Int) L bl).2.length : Int) := by
    unfold rankF
    rw [hrd, if_pos rfl, rank_same hq (fun i hi => by rw [hw i hi, hC]) (List.replicate L.length 0) bl]
  have hsol : solOk (p : Int) L bl L.length = noneB (redL (p : Int) L bl).1 (redL (p : Int) L bl).2.length C := by unfold solOk; rw [hrd, hC]; rfl
  have hpre : ∀ v, decide (mvL (p : Int) L v C = resL (p : Int) bl) = preB (p : Int) C (redL (p : Int) L bl).1 v (redL (p : Int) L bl).1.length := fun v => by
    rw [same_pre hq hw hb v, Bool.eq_iff_iff, preB_iff, preB_iff, hlen]
    exact (hvan v).symm
  have hcnt : cntN (p ^ C) (fun n => decide (mvL (p : Int) L (pvI (digN p C n)) C = resL (p : Int) bl)) = sumV p C (fun v => (preB (p : Int) C (redL (p : Int) L bl).1 (pvI v) (redL (p : Int) L bl).1.length).toNat) := by
    rw [← sum_digits p (by omega)]
    unfold cntN
    exact sumN_cong _ (fun n _ => congrArg Bool.toNat (hpre _))
  refine ⟨(redL (p : Int) L bl).2.length, hrank, ?_, ?_, ?_⟩
  · have := (redF_piv (p : Int) (augM (p : Int) L bl L.length) C).2
    rwa [hRL] at this
  · rw [hcnt]
    cases hn : noneB (redL (p : Int) L bl).1 (redL (p : Int) L bl).2.length C with
    | true => rw [hsol, hn, if_pos rfl]; exact (count_yes hred (by omega) hn).2
    | false =>
      rw [hsol, hn]
      simp only [Bool.false_eq_true, if_false]
      have h0 : sumV p C (fun _ => 0) = 0 := by have := sumV_mul p 0 C (fun _ => 0); simpa using this
      rw [← h0]
      exact sumV_cong C (fun v _ _ => by rw [count_no hred hn]; rfl)
  · intro hok
    have hn : noneB (redL (p : Int) L bl).1 (redL (p : Int) L bl).2.length C = true := by rw [← hsol]; exact hok
    have hf : solF (p : Int) L bl L.length = outF (redL (p : Int) L bl).2 (redL (p : Int) L bl).1 C (redL (p : Int) L bl).2.length := by unfold solF; rw [hok, if_pos rfl, hC]
    rw [hf]
    refine ⟨outF_len _ _ _ _, ?_⟩
    have h1 := hpre (outF (redL (p : Int) L bl).2 (redL (p : Int) L bl).1 C (redL (p : Int) L bl).2.length)
    rw [out_solves hred hn] at h1
    exact of_decide_eq_true h1
end Go.Proofs.YtbllanmhbfnagaaDoor
