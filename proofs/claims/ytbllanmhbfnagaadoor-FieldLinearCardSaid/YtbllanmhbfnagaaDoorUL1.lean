/- The reference's Rank, Solve (walks). The reference's Solve (walk). -/
import Derived.Test.YtbllanmhbfnagaaDoorUL0
import Derived.Test.YtbllanmhbfnagaaDoorUT0
import Derived.Test.YtbllanmhbfnagaaDoorU30
set_option linter.unusedVariables false
set_option linter.unusedSimpArgs false
namespace Go.Proofs.YtbllanmhbfnagaaDoor
open Go.RowKit Go.Sort
theorem rdB_mt (q : Int) (L : List (List Int)) (nb : Nat) : rdB q L nb = (primeB q && (mtB L L.length && (nb == L.length))) := by
  unfold rdB readB mtB
  cases primeB q <;> cases decide (L.length ≤ 64) <;> cases (nb == L.length) <;> cases wideB L L.length <;> rfl
theorem rprime_bb (q : Int) (w : World) : Calls Tryd.prog 23 #[.int .i64 q] w fun e w' => e = .returned (.bool (primeB q)) ∧ Below w.heap.size w w' := rprime_any q w
theorem PartR.apt {w : World} {B cap C : Nat} {ao : Option Addr} {hs : List (Nat × Nat × Nat)} {M : List (List Int)} (h : PartR w B cap C ao hs M) (g : Nat) (hg : w.heap.size ≤ g) : Apt hs (some ⟨g, 0, none⟩) := fun x hx e => by
  have e2 : g = x.1 := Option.some.inj e
  have := h.atT.rb x.1 ⟨x, hx, rfl⟩
  omega
theorem Only.refB {w0 w w' : World} {R : Nat} (h0 : Below w0.heap.size w0 w) (ho : Only w w' (fun g => g = R)) (hR : w0.heap.size ≤ R) : Below w0.heap.size w0 w' := ho.later h0 (fun g e => by rw [e]; exact hR)
set_option maxHeartbeats 4000000 in
set_option maxRecDepth 100000 in
theorem rrank_any (q : Int) (a : Option Addr) (c : Nat) (L : List (List Int)) (n : Nat) (hn : L.length = n) (w : World) (hR : ArgR w a n L) (hl : n ≤ 1000000) (hbig : ∀ i, (L.getD i []).length ≤ 1000000) :
    Calls Tryd.prog 62 #[.int .i64 q, .slice a n c] w fun e w' => e = .returned (.int .i64 (rankF q L)) ∧ Below w.heap.size w w' := by
  have HR := mkHid hR
  have HBIG := mkHid hbig
  have HN := mkHid hn
  have hrm := rdB_mt q L n
  rw [hn] at hrm
  simp only [beq_self_eq_true, Bool.and_true] at hrm
  have HRM := mkHid hrm
  clear hR hbig hn hrm
  cases hP : primeB q with
  | false =>
    have HF : Hid (rankF q L = -1) := mkHid (by unfold rankF; rw [HN.out, HRM.out, hP]; rfl)
    have HP := mkHid hP
    clear hP
    go_enter Tryd.func62, Tryd.ntmps62
    go_wp2_with fail
    refine (rprime_bb q w).mono ?_
    rintro e w1 ⟨rfl, b1⟩
    rw [HP.out]
    have B1 := mkHid b1
    clear b1
    go_wp2
    go_ret
    rw [HF.out]
    exact ⟨rfl, B1.out⟩
  | true =>
    have HP := mkHid hP
    clear hP
    cases hM : mtB L n with
    | false =>
      have HF : Hid (rankF q L = -1) := mkHid (by unfold rankF; rw [HN.out, HRM.out, HP.out, hM]; rfl)
      have HM := mkHid hM
      clear hM
      go_enter Tryd.func62, Tryd.ntmps62
      go_wp2_with fail
      refine (rprime_bb q w).mono ?_
      rintro e w1 ⟨rfl, b1⟩
      rw [HP.out]
      have B1 := mkHid b1
      have R1 := mkHid (HR.out.below b1)
      clear b1
      go_wp2_with fail
      refine (rmatrix_any a n c L w1 hl R1.out HBIG.out).mono ?_
      rintro e w2 ⟨rfl, b2⟩
      rw [HM.out]
      have B2 := mkHid (B1.out.trans (b2.mono B1.out.size))
      clear b2
      go_wp2
      go_ret
      rw [HF.out]
      exact ⟨rfl, B2.out⟩
    | true =>
      have hrd : rdB q L L.length = true := by rw [HN.out, HRM.out, HP.out, hM]; rfl
      have HF : Hid (rankF q L = ((redL q L (zeroR L)).2.length : Int)) := mkHid (by unfold rankF; rw [hrd]; rfl)
      have hpr := prime_of_rdB hrd
      have HW : Hid (∀ i, i < n → (L.getD i []).length = colsN L) := mkHid (fun i hi => (hpr.2.2.2 i (by rw [HN.out]; exact hi)).1)
      have hc64 := colsN_le hrd
      have hn64 : n ≤ 64 := by rw [← HN.out]; exact hpr.2.1
      have hqb := primeB_bd hpr.1
      have HQ := mkHid hqb
      have HQM : Hid (modB q = true) := mkHid (modB_iff.2 hqb)
      have hred : redF q (augM q L (zeroR L) n) (colsN L) = redL q L (zeroR L) := by unfold redL; rw [HN.out]
      have HRD := mkHid hred
      have HM := mkHid hM
      obtain ⟨C, hC⟩ : ∃ C, colsN L = C := ⟨_, rfl⟩
      have HC := mkHid hC
      rw [hC] at hc64 HW HRD
      clear hM hrd hpr hqb hred hC
      go_enter Tryd.func62, Tryd.ntmps62
      go_wp2_with fail
      refine (rprime_bb q w).mono ?_
      rintro e w1 ⟨rfl, b1⟩
      rw [HP.out]
      have B1 := mkHid b1
      have R1 := mkHid (HR.out.below b1)
      clear b1
      go_wp2_with fail
      refine (rmatrix_any a n c L w1 hl R1.out HBIG.out).mono ?_
      rintro e w2 ⟨rfl, b2⟩
      rw [HM.out]
      have B2 := mkHid (B1.out.trans (b2.mono B1.out.size))
      have R2 := mkHid (R1.out.below b2)
      clear b2 R1 B1
      go_wp2_with (refine wpList_make_ints w2 rfl (.tmp 20) (.tmp 20) rfl n rfl rfl hl ?_; intro w3 o3 b3 z3; have O3 := mkHid o3; have B3 := mkHid (B2.out.trans (b3.mono B2.out.size)); have R3 := mkHid (R2.out.below b3); clear o3 b3 z3)
      have hb3 : Hid (ArgI w3 (some ⟨w2.heap.size, 0, none⟩) n (zeroR L)) := mkHid (by unfold zeroR; rw [HN.out]; exact O3.out.arg (by simp))
      refine (rres_any q a (some ⟨w2.heap.size, 0, none⟩) n c n C L (zeroR L) w3 HQ.out.1 HQ.out.2 hn64 hc64 R3.out hb3.out HW.out).mono ?_
      rintro e w4 ⟨ao, cap, hs, rfl, pr, ⟨R, ro, rfl⟩, b4⟩
      have PR := mkHid pr
      have R4 := mkHid (R3.out.below b4)
      have B4 := mkHid (B3.out.trans (b4.mono B3.out.size))
      have RB : Hid (w.heap.size ≤ R) := mkHid (Nat.le_trans B3.out.size pr.ref.top.own)
      clear pr b4 R3 B3 O3 hb3 R2 B2
      go_wp2_with fail
      refine (rwidth_any a n c L w4 R4.out).mono ?_
      rintro e w' ⟨rfl, rfl⟩
      rw [HC.out]
      go_wp2_with fail
      refine (rreduced_any q w3.heap.size R ro cap (C + 1) C n hs _ w4 HQM.out PR.out.ref (augM_len _ _ _ _) hc64 (fun _ => by omega) hn64 (by omega) (fun i j => aug_bd HQ.out.1 L (zeroR L) n i j) (fun g hg => PR.out.apt g hg)).mono ?_
      rintro e w5 ⟨ap, cp, hs', rfl, -, -, o5⟩
      have B5 := mkHid (Only.refB B4.out o5 RB.out)
      rw [HRD.out]
      clear o5
      obtain ⟨k, hk⟩ : ∃ k, (redL q L (zeroR L)).2.length = k := ⟨_, rfl⟩
      rw [hk] at HF ⊢
      clear hk
      go_wp2_with fail
      go_ret
      rw [HF.out]
      exact ⟨rfl, B5.out⟩
end Go.Proofs.YtbllanmhbfnagaaDoor
namespace Go.Proofs.YtbllanmhbfnagaaDoor
open Go.RowKit Go.Sort
set_option maxHeartbeats 4000000 in
set_option maxRecDepth 100000 in
theorem rsolve_not (q : Int) (a b : Option Addr) (c nb c2 : Nat) (L : List (List Int)) (n : Nat) (hn : L.length = n) (w : World) (hR : ArgR w a n L) (hl : n ≤ 1000000) (hbig : ∀ i, (L.getD i []).length ≤ 1000000) (hnb : nb ≤ 1000000) (hrd : rdB q L nb = false) :
    Calls Tryd.prog 56 #[.int .i64 q, .slice a n c, .slice b nb c2] w fun e w' => e = .returned (.tuple #[.slice none 0 0, .bool false]) ∧ Below w.heap.size w w' := by
  have HR := mkHid hR
  have HBIG := mkHid hbig
  have hrm := rdB_mt q L nb
  rw [hn, hrd] at hrm
  have HRM := mkHid hrm
  clear hR hbig hrm hrd
  cases hP : primeB q with
  | false =>
    have HP := mkHid hP
    clear hP
    go_enter Tryd.func56, Tryd.ntmps56
    go_wp2_with fail
    refine (rprime_bb q w).mono ?_
    rintro e w1 ⟨rfl, b1⟩
    rw [HP.out]
    have B1 := mkHid b1
    clear b1
    go_wp2
    go_ret2
    exact ⟨rfl, B1.out⟩
  | true =>
    have HP := mkHid hP
    clear hP
    cases hM : mtB L n with
    | false =>
      have HM := mkHid hM
      clear hM
      go_enter Tryd.func56, Tryd.ntmps56
      go_wp2_with fail
      refine (rprime_bb q w).mono ?_
      rintro e w1 ⟨rfl, b1⟩
      rw [HP.out]
      have B1 := mkHid b1
      have R1 := mkHid (HR.out.below b1)
      clear b1
      go_wp2_with fail
      refine (rmatrix_any a n c L w1 hl R1.out HBIG.out).mono ?_
      rintro e w2 ⟨rfl, b2⟩
      rw [HM.out]
      have B2 := mkHid (B1.out.trans (b2.mono B1.out.size))
      clear b2
      go_wp2
      go_ret2
      exact ⟨rfl, B2.out⟩
    | true =>
      have hne : (nb == n) = false := by have := HRM.out; rw [HP.out, hM] at this; simpa using this.symm
      have hne2 : nb ≠ n := by simpa using hne
      have t1 : ((nb : Int) == (n : Int)) = false := by rw [beq_eq_false_iff_ne]; omega
      have t2 : ((nb : Int) != (n : Int)) = true := by rw [bne, t1]; rfl
      have t3 : decide (nb = n) = false := decide_eq_false hne2
      have HM := mkHid hM
      have HNE := mkHid hne2
      clear hM hne hne2
      go_enter Tryd.func56, Tryd.ntmps56
      go_wp2_with fail
      refine (rprime_bb q w).mono ?_
      rintro e w1 ⟨rfl, b1⟩
      rw [HP.out]
      have B1 := mkHid b1
      have R1 := mkHid (HR.out.below b1)
      clear b1
      go_wp2_with fail
      refine (rmatrix_any a n c L w1 hl R1.out HBIG.out).mono ?_
      rintro e w2 ⟨rfl, b2⟩
      rw [HM.out]
      have B2 := mkHid (B1.out.trans (b2.mono B1.out.size))
      clear b2
      go_wp2
      go_ret2
      exact ⟨rfl, B2.out⟩
set_option maxHeartbeats 8000000 in
set_option maxRecDepth 100000 in
theorem rsolve_yes (q : Int) (a b : Option Addr) (c c2 : Nat) (L : List (List Int)) (bl : List Int) (n : Nat) (hn : L.length = n) (w : World) (hR : ArgR w a n L) (hI : ArgI w b n bl) (hl : n ≤ 1000000) (hbig : ∀ i, (L.getD i []).length ≤ 1000000) (hrd : rdB q L n = true) :
    Calls Tryd.prog 56 #[.int .i64 q, .slice a n c, .slice b n c2] w fun e w' => ∃ ao cap, e = .returned (.tuple #[.slice ao (solF q L bl n).length cap, .bool (solOk q L bl n)]) ∧ ArgI w' ao (solF q L bl n).length (solF q L bl n) ∧ Below w.heap.size w w' := by
  have HR := mkHid hR
  have HI := mkHid hI
  have HBIG := mkHid hbig
  have HN := mkHid hn
  have hrm := rdB_mt q L n
  rw [hn, hrd] at hrm
  simp only [beq_self_eq_true, Bool.and_true] at hrm
  have hPM := (Bool.and_eq_true _ _).mp hrm.symm
  have HP := mkHid hPM.1
  have HM := mkHid hPM.2
  have hpr := prime_of_rdB hrd
  have HW : Hid (∀ i, i < n → (L.getD i []).length = colsN L) := mkHid (fun i hi => (hpr.2.2.2 i (by rw [HN.out]; exact hi)).1)
  have hc64 := colsN_le hrd
  have hn64 : n ≤ 64 := by rw [← HN.out]; exact hpr.2.1
  have hqb := primeB_bd hpr.1
  have HQ := mkHid hqb
  have HQM : Hid (modB q = true) := mkHid (modB_iff.2 hqb)
  have hred : redF q (augM q L bl n) (colsN L) = redL q L bl := by unfold redL; rw [HN.out]
  have hSO : Hid (solOk q L bl n = noneB (redL q L bl).1 (redL q L bl).2.length (colsN L)) := mkHid (by unfold solOk; rw [hrd]; rfl)
  have hSF : Hid (solF q L bl n = if noneB (redL q L bl).1 (redL q L bl).2.length (colsN L) then outF (redL q L bl).2 (redL q L bl).1 (colsN L) (redL q L bl).2.length else []) := mkHid (by unfold solF; rw [hSO.out])
  have HRD := mkHid hred
  have HLEN : Hid ((redL q L bl).1.length = n) := mkHid (by unfold redL; rw [redF_len, augM_len, hn])
  obtain ⟨C, hC⟩ : ∃ C, colsN L = C := ⟨_, rfl⟩
  have HC := mkHid hC
  have HPV : Hid ((redL q L bl).2.length ≤ n ∧ (redL q L bl).2.length ≤ C) := mkHid (by have := redF_piv q (augM q L bl L.length) (colsN L); rw [augM_len, hn, hC] at this; unfold redL; rw [hn, hC]; exact this)
  have HUP : Hid (∀ i, i < (redL q L bl).2.length → (redL q L bl).2.getD i 0 < C) := mkHid (by unfold redL; rw [hC]; exact (redF_up C).1)
  rw [hC] at hc64 HW HRD hSO hSF
  clear hR hI hbig hn hrm hPM hpr hqb hred hC hrd
  have d1 : ((n : Int) == (n : Int)) = true := by simp
  have d2 : ((n : Int) != (n : Int)) = false := by simp
  go_enter Tryd.func56, Tryd.ntmps56
  go_wp2_with fail
  refine (rprime_bb q w).mono ?_
  rintro e w1 ⟨rfl, b1⟩
  rw [HP.out]
  have B1 := mkHid b1
  have R1 := mkHid (HR.out.below b1)
  have I1 := mkHid (HI.out.below b1)
  clear b1
  go_wp2_with fail
  refine (rmatrix_any a n c L w1 hl R1.out HBIG.out).mono ?_
  rintro e w2 ⟨rfl, b2⟩
  rw [HM.out]
  have B2 := mkHid (B1.out.trans (b2.mono B1.out.size))
  have R2 := mkHid (R1.out.below b2)
  have I2 := mkHid (I1.out.below b2)
  clear b2 R1 B1 I1
  go_wp2_with fail
  clear d1 d2
  refine (rwidth_any a n c L w2 R2.out).mono ?_
  rintro e w' ⟨rfl, rfl⟩
  rw [HC.out]
  go_wp2_with fail
  refine (rres_any q a b n c c2 C L bl w2 HQ.out.1 HQ.out.2 hn64 hc64 R2.out I2.out HW.out).mono ?_
  rintro e w4 ⟨ao, cap, hs, rfl, pr, ⟨R, ro, rfl⟩, b4⟩
  have PR := mkHid pr
  have B4 := mkHid (B2.out.trans (b4.mono B2.out.size))
  have RB : Hid (w.heap.size ≤ R) := mkHid (Nat.le_trans B2.out.size pr.ref.top.own)
  clear pr b4 R2 I2
  go_wp2_with fail
  refine (rreduced_any q w2.heap.size R ro cap (C + 1) C n hs _ w4 HQM.out PR.out.ref (augM_len _ _ _ _) hc64 (fun _ => by omega) hn64 (by omega) (fun i j => aug_bd HQ.out.1 L bl n i j) (fun g hg => PR.out.apt g hg)).mono ?_
  rintro e w5 ⟨ap, cp, hs', rfl, ow, ref5, o5⟩
  have B5 := mkHid (Only.refB B4.out o5 RB.out)
  rw [HRD.out] at ow ref5 ⊢
  have O5 := mkHid ow
  have F5 := mkHid ref5
  clear o5 ow ref5 PR B4 RB B2
  obtain ⟨S, hS⟩ : ∃ S, (redL q L bl).1 = S := ⟨_, rfl⟩
  obtain ⟨pl, hpl⟩ : ∃ S, (redL q L bl).2 = S := ⟨_, rfl⟩
  rw [hS] at F5 hSO hSF HLEN
  rw [hpl] at O5 hSO hSF HPV HUP ⊢
  clear hS hpl
  obtain ⟨k, hk⟩ : ∃ k, pl.length = k := ⟨_, rfl⟩
  have HK := mkHid hk
  have hkn : k ≤ n := by rw [← hk]; exact HPV.out.1
  rw [hk] at hSO hSF HUP ⊢
  clear hk
  have P5 := mkHid (O5.out.arg (n := k) (by rw [pvI_len, HK.out]))
  obtain ⟨C1, hC1⟩ : ∃ C1, C + 1 = C1 := ⟨_, rfl⟩
  rw [hC1] at F5
  have HC1 : Hid (C < C1) := mkHid (by omega)
  have cc : (C : Int) < C1 := by omega
  clear hC1 O5
  as_aux_lemma =>
    go_wp2_with fail
    go_loopw [11] (fun d wr => ∃ i : Nat, d = .int .i64 i ∧ k ≤ i ∧ i ≤ n ∧ Hid (∀ j, k ≤ j → j < i → (S.getD j []).getD C 0 = 0) ∧ Hid (wr = w5)) (fun d _ => (n - intOf d).toNat)
    case atStart => exact ⟨k, rfl, Nat.le_refl k, hkn, mkHid (fun j h1 h2 => by omega), mkHid rfl⟩
    case round =>
      obtain ⟨i, rfl, hki, hi, hz, hwr⟩ := hrel
      have hwr2 := hwr.out
      subst hwr2
      clear hwr
      have e1 : IntKind.i64.wrap ((i : Int) + 1) = ((i + 1 : Nat) : Int) := IntWalk.i64_in _ (by omega)
      by_cases hlt : i < n
      · obtain ⟨bb, oo, c5, -, hh, ha, -⟩ := F5.out.row i (by rw [HLEN.out]; exact hlt)
        have x1 := ha.at C HC1.out
        obtain ⟨v, hv⟩ : ∃ v, (S.getD i []).getD C 0 = v := ⟨_, rfl⟩
        rw [hv] at x1
        have HV := mkHid hv
        have ii : (i : Int) < n := by omega
        clear ha hv
        by_cases hv0 : v = 0
        · subst hv0
          go_wp2_with fail
          go_roundw
          case rel => exact ⟨i + 1, rfl, by omega, by omega, mkHid (fun j h1 h2 => by
            rcases Nat.lt_or_ge j i with h | h
            · exact hz.out j h1 h
            · obtain rfl : j = i := by omega
              exact HV.out), mkHid trivial⟩
          case measure => simp only [intOf]; omega
        · have t1 : (v == 0) = false := by simp [hv0]
          have t2 : (v != 0) = true := by simp [hv0]
          have t3 : decide (v = 0) = false := decide_eq_false hv0
          have hno : noneB S k C = false := by
            cases e : noneB S k C with
            | false => rfl
            | true => exact absurd (by rw [← HV.out]; exact noneB_iff.1 e i hki (by rw [HLEN.out]; exact hlt)) hv0
          rw [hno] at hSO hSF
          have HV0 := mkHid hv0
          clear hv0 hno
          go_wp2_with fail
          go_ret2
          rw [hSO.out, hSF.out]
          exact ⟨none, 0, rfl, ⟨rfl, fun h => absurd h (Nat.lt_irrefl 0)⟩, B5.out⟩
      · obtain rfl : n = i := by omega
        have hyes : noneB S k C = true := noneB_iff.2 (fun j h1 h2 => hz.out j h1 (by rw [← HLEN.out]; exact h2))
        rw [hyes] at hSO hSF
        have hSF2 : Hid (solF q L bl n = outF pl S C k) := hSF
        clear hyes hSF hz
        have hC6 : C ≤ 1000000 := by omega
        as_aux_lemma =>
        go_wp2_with (refine wpList_make_ints wr rfl (.tmp 57) (.tmp 57) rfl C rfl rfl hC6 ?_; intro w6 o6 b6 z6; have O6 := mkHid o6; have B6 := mkHid b6; clear o6 b6 z6)
        have V6 : Hid (OwnAt w6 wr.heap.size wr.heap.size 0 C (iv (outF pl S C 0))) := O6
        have S5 : Hid (w.heap.size ≤ wr.heap.size) := mkHid B5.out.size
        clear O6
        generalize wr = w5' at *
        generalize hG : w5'.heap.size = G at *
        have HG := mkHid hG
        clear hG
        go_loopw [13] (fun d wr => ∃ i : Nat, d = .int .i64 i ∧ i ≤ k ∧ Hid (OwnAt wr G G 0 C (iv (outF pl S C i))) ∧ Hid (Below G w5' wr)) (fun d _ => (k - intOf d).toNat)
        case atStart => exact ⟨0, rfl, by omega, V6, B6⟩
        case round =>
          clear V6 B6
          obtain ⟨i, rfl, hi2, ho, hb⟩ := hrel
          have e2 : IntKind.i64.wrap ((i : Int) + 1) = ((i + 1 : Nat) : Int) := IntWalk.i64_in _ (by omega)
          by_cases hlt2 : i < k
          · obtain ⟨gp, op, rfl, hpc, -⟩ := (P5.out.keptS HG.out hb.out).here (by omega)
            have x1 := hpc i hlt2
            rw [pvI_at] at x1
            have hcol := HUP.out i hlt2
            have hst : Hid (outF pl S C (i + 1) = (outF pl S C i).set (pl.getD i 0) ((S.getD i []).getD C 0)) := mkHid rfl
            obtain ⟨col, hcl⟩ : ∃ col, pl.getD i 0 = col := ⟨_, rfl⟩
            rw [hcl] at x1 hcol hst
            obtain ⟨bb, oo, c5, -, hh, ha, -⟩ := (F5.out.step (by rw [HG.out]; exact hb.out)).row i (by rw [HLEN.out]; omega)
            have x2 := ha.at C HC1.out
            have z1 := ho.out.warm col hcol
            have x3 := ho.out.cell_i col (by rw [outF_len]; exact hcol)
            rw [Nat.zero_add] at z1 x3
            have HCOL := mkHid hcol
            obtain ⟨v, hv⟩ : ∃ v, (S.getD i []).getD C 0 = v := ⟨_, rfl⟩
            rw [hv] at x2 hst
            clear hpc hcl ha hv
            have ci : (col : Int) < C := by omega
            have ii : (i : Int) < n := by omega
            have ik : (i : Int) < k := by omega
            go_upto_region 14 with (fail)
            go_region
            have E : ∀ W : World, OwnAt W G G 0 C (iv (outF pl S C i)) → OwnAt (W.setCell ⟨G, col, none⟩ (.int .i64 v)) G G 0 C (iv (outF pl S C (i + 1))) := fun W h => by
              have h2 := h.set col (.int .i64 v) (by rw [iv_length, outF_len]; exact HCOL.out)
              rw [Nat.zero_add, iv_set, ← hst.out] at h2
              exact h2
            have F6 := mkHid ((E wr ho.out).of_block (w' := (wr.setCell ⟨G, col, none⟩ (.int .i64 v)).drew) rfl (Nat.le_refl _))
            have B6 : Hid (Below G w5' (wr.setCell ⟨G, col, none⟩ (.int .i64 v)).drew) := mkHid ((below_setCell hb.out (p := ⟨G, col, none⟩) (Nat.le_refl G) _).trans ((below_drew _).mono (by rw [World.size_setCell]; have := hb.out.size; have := HG.out; omega)))
            go_wp2_with fail
            go_roundw
            case rel => exact ⟨i + 1, rfl, by omega, F6, B6⟩
            case measure => simp only [intOf]; omega
          · obtain rfl : k = i := by omega
            go_wp2_with fail
            go_ret2
            rw [hSO.out, hSF2.out, outF_len]
            exact ⟨some ⟨G, 0, none⟩, C, rfl, ho.out.arg (by rw [outF_len]), B5.out.trans (hb.out.mono S5.out)⟩
theorem rsolve_any (q : Int) (a b : Option Addr) (c nb c2 : Nat) (L : List (List Int)) (bl : List Int) (n : Nat) (hn : L.length = n) (w : World) (hR : ArgR w a n L) (hI : ArgI w b nb bl) (hl : n ≤ 1000000) (hbig : ∀ i, (L.getD i []).length ≤ 1000000) (hnb : nb ≤ 1000000) :
    Calls Tryd.prog 56 #[.int .i64 q, .slice a n c, .slice b nb c2] w fun e w' => ∃ ao cap, e = .returned (.tuple #[.slice ao (solF q L bl nb).length cap, .bool (solOk q L bl nb)]) ∧ ArgI w' ao (solF q L bl nb).length (solF q L bl nb) ∧ Below w.heap.size w w' := by
  cases hrd : rdB q L nb with
  | false =>
    refine (rsolve_not q a b c nb c2 L n hn w hR hl hbig hnb hrd).mono ?_
    rintro e w' ⟨rfl, h⟩
    have h1 : solOk q L bl nb = false := by unfold solOk; rw [hrd]; rfl
    have h2 : solF q L bl nb = [] := by unfold solF; rw [h1]; rfl
    rw [h1, h2]
    exact ⟨none, 0, rfl, ⟨rfl, fun h => absurd h (Nat.lt_irrefl 0)⟩, h⟩
  | true =>
    obtain rfl : nb = n := by rw [(prime_of_rdB hrd).2.2.1, hn]
    exact rsolve_yes q a b c c2 L bl nb hn w hR hI hl hbig hrd
end Go.Proofs.YtbllanmhbfnagaaDoor
