/- The property's shaped, reduced, product (walks). -/
import Derived.Test.YtbllanmhbfnagaaDoorUT0
import Derived.Test.YtbllanmhbfnagaaDoorU30
import Derived.Test.YtbllanmhbfnagaaDoorU34
import Derived.Test.YtbllanmhbfnagaaDoorU1
set_option linter.unusedVariables false
set_option linter.unusedSimpArgs false
namespace Go.Proofs.YtbllanmhbfnagaaDoor
open Go.RowKit Go.Sort
def shB (L : List (List Int)) (C : Nat) (i : Nat) : Bool := (List.range i).all (fun j => (L.getD j []).length == C)
theorem shB_succ (L : List (List Int)) (C i : Nat) : shB L C (i + 1) = (shB L C i && ((L.getD i []).length == C)) := by simp [shB, List.range_succ]
theorem shB_iff {L : List (List Int)} {C i : Nat} : shB L C i = true ↔ ∀ j, j < i → (L.getD j []).length = C := by simp [shB]
theorem shB_no {L : List (List Int)} {C i n : Nat} (h : i < n) (hi : (L.getD i []).length ≠ C) : shB L C n = false := by
  cases e : shB L C n with
  | false => rfl
  | true => exact absurd (shB_iff.1 e i h) hi
set_option maxHeartbeats 4000000 in
set_option maxRecDepth 100000 in
theorem shaped_any (a : Option Addr) (n c C : Nat) (L : List (List Int)) (w : World) (hn : n ≤ 4) (hR : ArgR w a n L) :
    Calls Tryd.prog 69 #[.slice a n c, .int .i64 C] w fun e w' => e = .returned (.bool (shB L C n)) ∧ w = w' := by
  have HR := mkHid hR
  clear hR
  have d4 : decide ((n : Int) ≤ 4) = true := decide_eq_true (by omega)
  go_enter Tryd.func69, Tryd.ntmps69
  go_wp2_with fail
  go_loop [5] (fun c => ∃ i : Nat, c = .int .i64 i ∧ i ≤ n ∧ Hid (shB L C i = true)) (fun c => (n - intOf c).toNat)
  case atStart => exact ⟨0, rfl, by omega, mkHid rfl⟩
  case round =>
    obtain ⟨i, rfl, hi, hs⟩ := hrel
    have e2 : IntKind.i64.wrap ((i : Int) + 1) = ((i + 1 : Nat) : Int) := IntWalk.i64_in _ (by omega)
    by_cases hlt : i < n
    · obtain ⟨g, o, rfl, -, hc⟩ := HR.out.here (by omega)
      obtain ⟨r, k, p, x1, ai⟩ := hc i hlt
      have hk : Hid (k = (L.getD i []).length) := mkHid ai.len
      have ii : (i : Int) < n := by omega
      have i5 : (i : Int) < 5 := by omega
      have i6 : decide ((i : Int) < 5) = true := decide_eq_true i5
      have i7 : decide ((i : Int) < n) = true := decide_eq_true ii
      clear hc ai
      by_cases hkc : k = C
      · have t1 : ((k : Int) == (C : Int)) = true := by rw [beq_iff_eq]; omega
        have t2 : ((k : Int) != (C : Int)) = false := by rw [bne, t1]; rfl
        have hst : Hid (shB L C (i + 1) = true) := mkHid (by rw [shB_succ, hs.out, ← hk.out, hkc]; simp)
        have HKC := mkHid hkc
        clear hkc
        go_wp2
        go_round
        case rel => exact ⟨i + 1, rfl, by omega, hst⟩
        case measure => simp [intOf]; omega
      · have t1 : ((k : Int) == (C : Int)) = false := by rw [beq_eq_false_iff_ne]; omega
        have t2 : ((k : Int) != (C : Int)) = true := by rw [bne, t1]; rfl
        have t3 : decide (k = C) = false := decide_eq_false hkc
        have hst : Hid (shB L C n = false) := mkHid (shB_no hlt (by rw [← hk.out]; exact hkc))
        have HKC := mkHid hkc
        clear hkc
        go_wp2
        go_ret
        rw [hst.out]
        exact ⟨rfl, rfl⟩
    · obtain rfl : i = n := by omega
      have i7 : decide ((i : Int) < i) = false := decide_eq_false (by omega)
      go_wp2
      go_ret
      rw [hs.out]
      exact ⟨rfl, rfl⟩
theorem resL_take (q : Int) (l : List Int) (j : Nat) (h : j < l.length) : resL q (l.take (j + 1)) = resL q (l.take j) ++ [addI q (l.getD j 0) 0] := by
  unfold resL
  rw [List.take_succ_eq_append_getElem h, List.map_append]
  simp [List.getD, h]
set_option maxHeartbeats 4000000 in
set_option maxRecDepth 100000 in
theorem lreduced_any (q : Int) (a : Option Addr) (n c : Nat) (l : List Int) (w : World) (hn : n ≤ 1000000) (hI : ArgI w a n l) :
    Calls Tryd.prog 71 #[.int .i64 q, .slice a n c] w fun e w' => ∃ ao cap, e = .returned (.slice ao n cap) ∧ ArgI w' ao n (resL q l) ∧ Below w.heap.size w w' := by
  have HI := mkHid hI
  have HL := mkHid hI.len
  clear hI
  go_enter Tryd.func71, Tryd.ntmps71
  go_wp2_with fail
  have O0 : Hid (OwnS (w.alloc (.cells #[] 3)) w.heap.size 0 (iv (resL q (l.take 0))) (some ⟨w.heap.size, 0, none⟩)) := mkHid (own_new0 w 3 w.heap.size (Nat.le_refl _)).s
  have B0 : Hid (Below w.heap.size w (w.alloc (.cells #[] 3))) := mkHid ((Below.refl _ w).alloc (Nat.le_refl _) _)
  generalize w.alloc (.cells #[] 3) = w1 at *
  go_loopw [5, 6] (fun s c wr => ∃ (i : Nat) (ao : Option Addr) (cp : Nat), s = .slice ao i cp ∧ c = .int .i64 i ∧ i ≤ n ∧ Hid (OwnS wr w.heap.size cp (iv (resL q (l.take i))) ao) ∧ Hid (Below w.heap.size w wr)) (fun _ c _ => (n - intOf c).toNat)
  case atStart => exact ⟨0, some ⟨w.heap.size, 0, none⟩, 0, rfl, rfl, by omega, O0, B0⟩
  case round =>
    clear O0 B0
    obtain ⟨i, ao, cp, rfl, rfl, hi, ho, hb⟩ := hrel
    have e2 : IntKind.i64.wrap ((i : Int) + 1) = ((i + 1 : Nat) : Int) := IntWalk.i64_in _ (by omega)
    by_cases hlt : i < n
    · have ii : (i : Int) < n := by omega
      obtain ⟨g, o, rfl, hc, -⟩ := (HI.out.below hb.out).here (by omega)
      have x1 := hc i hlt
      have hap := mkHid (resL_take q l i (by rw [← HL.out]; exact hlt))
      obtain ⟨x, hx⟩ : ∃ x, l.getD i 0 = x := ⟨_, rfl⟩
      rw [hx] at x1 hap
      clear hc hx
      have hlen : Hid ((resL q (l.take i)).length = i) := mkHid (by simp [resL]; have := HL.out; omega)
      go_wp2_with fail
      refine (add_bb2 q x 0 wr).mono ?_
      rintro e w4 ⟨rfl, b4⟩
      obtain ⟨y, hy⟩ : ∃ y, addI q x 0 = y := ⟨_, rfl⟩
      rw [hy] at hap ⊢
      clear hy
      have O4 := mkHid (ho.out.below b4)
      have B4 := mkHid (hb.out.trans (b4.mono hb.out.size))
      have SA : Hid (w.heap.size ≤ w4.heap.size) := mkHid B4.out.size
      clear b4 ho hb
      go_wp2_with (at_builtin; refine app_ints w4 w.heap.size rfl (.tmp 14) (.tmp 21) rfl ao cp i (resL q (l.take i)) ?q1 ?q2 O4.out SA.out 1 1 #[.int .i64 y] 3 [y] ?q3 rfl rfl (by omega) ?q4 ?_; (case q1 => exact hlen.out.symm); (case q2 => rfl); (case q3 => rfl); (case q4 => omega); intro g4 off4 c4 wb o8 b8; have OB := mkHid o8; have B8 := mkHid b8; clear o8 b8)
      go_roundw
      case rel => exact ⟨i + 1, some ⟨g4, off4, none⟩, c4, rfl, rfl, by omega, mkHid (by rw [hap.out]; exact OB.out.s), mkHid (B4.out.trans B8.out)⟩
      case measure => simp only [intOf]; omega
    · obtain rfl : n = i := by omega
      have hlt2 : l.take n = l := List.take_of_length_le (by rw [HL.out]; exact Nat.le_refl _)
      rw [hlt2] at ho
      have hlen : Hid (n = (resL q l).length) := mkHid (by simp [resL]; exact HL.out)
      clear hlt2
      go_wp2_with fail
      go_ret
      exact ⟨ao, cp, rfl, ho.out.arg hlen.out, hb.out⟩
theorem mvL_take (q : Int) (L : List (List Int)) (v : List Int) (C j : Nat) (h : j < L.length) : mvL q (L.take (j + 1)) v C = mvL q (L.take j) v C ++ [dotQ q (L.getD j []) v C] := by
  unfold mvL
  rw [List.take_succ_eq_append_getElem h, List.map_append]
  simp [List.getD, h]
set_option maxHeartbeats 4000000 in
set_option maxRecDepth 100000 in
theorem product_mv (q : Int) (a b : Option Addr) (n c C c2 : Nat) (L : List (List Int)) (v : List Int) (w : World) (hn : n ≤ 64) (hC : C ≤ 64) (hR : ArgR w a n L) (hV : ArgI w b C v) (hw : ∀ i, i < n → (L.getD i []).length = C) :
    Calls Tryd.prog 72 #[.int .i64 q, .slice a n c, .slice b C c2] w fun e w' => ∃ ao cap, e = .returned (.slice ao n cap) ∧ ArgI w' ao n (mvL q L v C) ∧ Below w.heap.size w w' := by
  have HR := mkHid hR
  have HV := mkHid hV
  have HL := mkHid hR.len
  have HW := mkHid hw
  clear hR hV hw
  go_enter Tryd.func72, Tryd.ntmps72
  go_wp2_with fail
  have O0 : Hid (OwnS (w.alloc (.cells #[] 3)) w.heap.size 0 (iv (mvL q (L.take 0) v C)) (some ⟨w.heap.size, 0, none⟩)) := mkHid (own_new0 w 3 w.heap.size (Nat.le_refl _)).s
  have B0 : Hid (Below w.heap.size w (w.alloc (.cells #[] 3))) := mkHid ((Below.refl _ w).alloc (Nat.le_refl _) _)
  generalize w.alloc (.cells #[] 3) = w1 at *
  go_loopw [7, 8] (fun s d wr => ∃ (i : Nat) (ao : Option Addr) (cp : Nat), s = .slice ao i cp ∧ d = .int .i64 i ∧ i ≤ n ∧ Hid (OwnS wr w.heap.size cp (iv (mvL q (L.take i) v C)) ao) ∧ Hid (Below w.heap.size w wr)) (fun _ d _ => (n - intOf d).toNat)
  case atStart => exact ⟨0, some ⟨w.heap.size, 0, none⟩, 0, rfl, rfl, by omega, O0, B0⟩
  case round =>
    clear O0 B0
    obtain ⟨i, ao, cp, rfl, rfl, hi, ho, hb⟩ := hrel
    have e2 : IntKind.i64.wrap ((i : Int) + 1) = ((i + 1 : Nat) : Int) := IntWalk.i64_in _ (by omega)
    by_cases hlt : i < n
    · as_aux_lemma =>
      have ii : (i : Int) < n := by omega
      have hap := mkHid (mvL_take q L v C i (by rw [← HL.out]; exact hlt))
      obtain ⟨r, hr⟩ : ∃ r, L.getD i [] = r := ⟨_, rfl⟩
      rw [hr] at hap
      have HRR := mkHid hr
      have HRL : Hid (r.length = C) := mkHid (by rw [← hr]; exact HW.out i hlt)
      have hd0 := mkHid (rfl : dotQ q r v 0 = 0)
      clear hr
      generalize wr = wo at *
      go_wp2_with fail
      go_loopw [9, 10] (fun s d wq => ∃ j : Nat, s = .int .i64 (dotQ q r v j) ∧ d = .int .i64 j ∧ j ≤ C ∧ Hid (Below wo.heap.size wo wq)) (fun _ d _ => (C - intOf d).toNat)
      case atStart => exact ⟨0, rfl, rfl, by omega, mkHid (Below.refl _ _)⟩
      case round =>
        obtain ⟨j, rfl, rfl, hj, hbq⟩ := hrel
        have e3 : IntKind.i64.wrap ((j : Int) + 1) = ((j + 1 : Nat) : Int) := IntWalk.i64_in _ (by omega)
        have BW := mkHid (hb.out.trans (hbq.out.mono hb.out.size))
        obtain ⟨g, o, rfl, -, hcr⟩ := (HR.out.below BW.out).here (by omega)
        obtain ⟨ra, rn, rc, x1, ai⟩ := hcr i hlt
        have hrn : rn = C := by rw [ai.len, HRR.out, HRL.out]
        subst hrn
        clear hcr
        by_cases hjl : j < rn
        · rw [HRR.out] at ai
          obtain ⟨gr, orr, rfl, hc1, -⟩ := ai.here (by omega)
          obtain ⟨gv, ov, rfl, hc2, -⟩ := (HV.out.below BW.out).here (by omega)
          have x2 := hc1 j hjl
          have x3 := hc2 j hjl
          have hst : Hid (dotQ q r v (j + 1) = addI q (dotQ q r v j) (mulI q (r.getD j 0) (v.getD j 0))) := mkHid rfl
          obtain ⟨s, hs⟩ : ∃ s, dotQ q r v j = s := ⟨_, rfl⟩
          obtain ⟨x, hx⟩ : ∃ s, r.getD j 0 = s := ⟨_, rfl⟩
          obtain ⟨y, hy⟩ : ∃ s, v.getD j 0 = s := ⟨_, rfl⟩
          rw [hs] at hst ⊢
          rw [hx] at x2 hst
          rw [hy] at x3 hst
          have kM0 : ∀ W : World, Calls Tryd.prog 28 #[.int .i64 q, .int .i64 x, .int .i64 y] W fun e w' => e = .returned (.int .i64 (mulI q x y)) ∧ Below W.heap.size W w' := fun W => mul_bb2 q x y W
          have kA0 : ∀ W : World, Calls Tryd.prog 24 #[.int .i64 q, .int .i64 s, .int .i64 (mulI q x y)] W fun e w' => e = .returned (.int .i64 (addI q s (mulI q x y))) ∧ Below W.heap.size W w' := fun W => add_bb2 q s (mulI q x y) W
          rw [← hst.out] at kA0
          obtain ⟨z, hz⟩ : ∃ z, mulI q x y = z := ⟨_, rfl⟩
          rw [hz] at kM0 kA0
          obtain ⟨s2, hs2⟩ : ∃ z, dotQ q r v (j + 1) = z := ⟨_, rfl⟩
          rw [hs2] at kA0
          have HS2 := mkHid hs2
          have kM := regr wr (fun W _ => kM0 W)
          have kA := regr wr (fun W _ => kA0 W)
          have jn : (j : Int) < rn := by omega
          have jn2 : decide ((j : Int) < rn) = true := decide_eq_true jn
          clear hs hx hy hz hs2 kM0 kA0 hc1 hc2 ai hst
          go_upto_region 9 with (fail)
          have m1 := cell_regrown x1
          have m2 := cell_regrown x2
          have m3 := cell_regrown x3
          clear x1 x2 x3
          refine wp_region_quiet_below (by kernel_rfl) (by kernel_rfl) ?_
          repeat (go_big_quiet_step (with_reducible (first | exact kM _ _ | exact kA _ _)))
          refine wpQuiet_nil ?_
          intro _ hw'
          obtain ⟨⟨dq, osq⟩, hw''⟩ := hw'
          subst hw''
          have hbb := below_regrown wr dq osq
          have B5 := mkHid (hbq.out.trans (hbb.mono hbq.out.size))
          clear m1 m2 m3 hbb hbq kM kA
          generalize grow (redrawn wr dq) osq = wd at *
          go_wp2
          go_roundw
          case rel => exact ⟨j + 1, by rw [HS2.out], rfl, by omega, B5⟩
          case measure => simp only [intOf]; omega
        · obtain rfl : rn = j := by omega
          obtain ⟨y, hy⟩ : ∃ s, dotQ q r v rn = s := ⟨_, rfl⟩
          rw [hy] at hap ⊢
          clear hy ai
          have hlen : Hid ((mvL q (L.take i) v rn).length = i) := mkHid (by simp [mvL]; have := HL.out; omega)
          have O4 := mkHid (ho.out.below hbq.out)
          have SA : Hid (w.heap.size ≤ wr.heap.size) := mkHid BW.out.size
          have jn2 : decide ((rn : Int) < rn) = false := decide_eq_false (by omega)
          go_wp2_with (at_builtin; refine app_ints wr w.heap.size rfl (.tmp 49) (.tmp 51) rfl ao cp i (mvL q (L.take i) v rn) ?q1 ?q2 O4.out SA.out 1 1 #[.int .i64 y] 3 [y] ?q3 rfl rfl (by omega) ?q4 ?_; (case q1 => exact hlen.out.symm); (case q2 => rfl); (case q3 => rfl); (case q4 => omega); intro g4 off4 c4 wb o8 b8; have OB := mkHid o8; have B8 := mkHid b8; clear o8 b8)
          go_roundw
          case rel => exact ⟨i + 1, some ⟨g4, off4, none⟩, c4, rfl, rfl, by omega, mkHid (by rw [hap.out]; exact OB.out.s), mkHid (BW.out.trans B8.out)⟩
          case measure => simp only [intOf]; omega
    · obtain rfl : n = i := by omega
      have hlt2 : L.take n = L := List.take_of_length_le (by rw [HL.out]; exact Nat.le_refl _)
      rw [hlt2] at ho
      have hlen : Hid (n = (mvL q L v C).length) := mkHid (by simp [mvL]; exact HL.out)
      clear hlt2
      go_wp2_with fail
      go_ret
      exact ⟨ao, cp, rfl, ho.out.arg hlen.out, hb.out⟩
end Go.Proofs.YtbllanmhbfnagaaDoor
