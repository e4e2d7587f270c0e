/- The reference's Kernel (walk). -/
import Derived.Test.YtbllanmhbfnagaaDoorUL1
set_option linter.unusedVariables false
set_option linter.unusedSimpArgs false
namespace Go.Proofs.YtbllanmhbfnagaaDoor
open Go.RowKit Go.Sort
theorem redF_nil (q : Int) : ∀ m, redF q [] m = ([], [])
  | 0 => rfl
  | m + 1 => by
    show stepF q (redF q [] m) m = _
    rw [redF_nil q m]
    exact stepF_no (pickF_no (fun i _ h => absurd h (Nat.not_lt_zero i)))
theorem rsub_bb (n a b : Int) (w : World) : Calls Tryd.prog 27 #[.int .i64 n, .int .i64 a, .int .i64 b] w fun e w' => e = .returned (.int .i64 (subI n a b)) ∧ Below w.heap.size w w' :=
  (rsub_any n a b w).mono fun _ _ h => ⟨h.1, h.2 ▸ Below.refl _ _⟩
/-- How many pivots lie before a column. -/
def Cnt (pl : List Nat) (j k : Nat) : Prop := k ≤ pl.length ∧ (∀ i, i < k → pl.getD i 0 < j) ∧ ∀ i, k ≤ i → i < pl.length → j ≤ pl.getD i 0
theorem Cnt.mem {pl : List Nat} {j k : Nat} (h : Cnt pl j k) (hup : ∀ i i', i < i' → i' < pl.length → pl.getD i 0 < pl.getD i' 0) : j ∈ pl ↔ k < pl.length ∧ pl.getD k 0 = j := by
  constructor
  · intro hm
    obtain ⟨i, hi⟩ := List.mem_iff_getElem?.1 hm
    have hl := (List.getElem?_eq_some_iff.1 hi).1
    have he : pl.getD i 0 = j := by rw [List.getD, hi]; rfl
    have hki : k ≤ i := by
      rcases Nat.lt_or_ge i k with h1 | h1
      · have := h.2.1 i h1; omega
      · exact h1
    have hkl : k < pl.length := by omega
    refine ⟨hkl, ?_⟩
    have h1 := h.2.2 k (Nat.le_refl k) hkl
    rcases Nat.lt_or_ge k i with h2 | h2
    · have := hup k i h2 hl; omega
    · obtain rfl : k = i := by omega
      exact he
  · rintro ⟨h1, h2⟩
    rw [← h2]
    have : pl.getD k 0 = pl[k] := by simp [List.getD, h1]
    rw [this]; exact List.getElem_mem h1
theorem Cnt.yes {pl : List Nat} {j k : Nat} (h : Cnt pl j k) (hup : ∀ i i', i < i' → i' < pl.length → pl.getD i 0 < pl.getD i' 0) (h1 : k < pl.length) (h2 : pl.getD k 0 = j) : Cnt pl (j + 1) (k + 1) :=
  ⟨h1, fun i hi => by
    rcases Nat.lt_or_ge i k with g | g
    · have := h.2.1 i g; omega
    · obtain rfl : i = k := by omega
      omega, fun i g1 g2 => by have := hup k i (by omega) g2; omega⟩
theorem Cnt.no {pl : List Nat} {j k : Nat} (h : Cnt pl j k) (hup : ∀ i i', i < i' → i' < pl.length → pl.getD i 0 < pl.getD i' 0) (h1 : j ∉ pl) : Cnt pl (j + 1) k :=
  ⟨h.1, fun i hi => by have := h.2.1 i hi; omega, fun i g1 g2 => by
    have h3 := h.2.2 i g1 g2
    have : pl.getD i 0 ≠ j := fun e => h1 (by
      rw [← e]
      have : pl.getD i 0 = pl[i] := by simp [List.getD, g2]
      rw [this]; exact List.getElem_mem g2)
    omega⟩
set_option maxHeartbeats 8000000 in
set_option maxRecDepth 100000 in
theorem rkernel_yes0 (q : Int) (a : Option Addr) (c : Nat) (L : List (List Int)) (n C : Nat) (hn : L.length = n) (w : World) (hR : ArgR w a n L) (hl : n ≤ 1000000) (hbig : ∀ i, (L.getD i []).length ≤ 1000000) (hrd : rdB q L n = true) (hC : C ≤ 64) (hcc : 0 < n → colsN L = C) (h0 : n = 0) :
    Calls Tryd.prog 58 #[.int .i64 q, .slice a n c, .int .i64 C] w fun e w' => ∃ ao cap, e = .returned (.tuple #[.slice ao (kerL q C (redL q L (zeroR L)).2 (redL q L (zeroR L)).1 C).length cap, .bool true]) ∧
      ArgR w' ao (kerL q C (redL q L (zeroR L)).2 (redL q L (zeroR L)).1 C).length (kerL q C (redL q L (zeroR L)).2 (redL q L (zeroR L)).1 C) ∧ Below w.heap.size w w' := by
  have HR := mkHid hR
  have HBIG := mkHid hbig
  have HN := mkHid hn
  have hrm := rdB_mt q L n
  rw [hn, hrd] at hrm
  simp only [beq_self_eq_true, Bool.and_true] at hrm
  have hPM := (Bool.and_eq_true _ _).mp hrm.symm
  have HP := mkHid hPM.1
  have HM := mkHid hPM.2
  have hpr := prime_of_rdB hrd
  have HW : Hid (∀ i, i < n → (L.getD i []).length = C) := mkHid (fun i hi => by rw [(hpr.2.2.2 i (by rw [HN.out]; exact hi)).1, hcc (by omega)])
  have hn64 : n ≤ 64 := by rw [← HN.out]; exact hpr.2.1
  have hqb := primeB_bd hpr.1
  have HQ := mkHid hqb
  have HQM : Hid (modB q = true) := mkHid (modB_iff.2 hqb)
  have HRD : Hid (redF q (augM q L (zeroR L) n) C = redL q L (zeroR L)) := mkHid (by
    unfold redL
    rw [HN.out]
    by_cases h0 : 0 < n
    · rw [hcc h0]
    · have : n = 0 := by omega
      subst this
      rw [show augM q L (zeroR L) 0 = [] from rfl, redF_nil, redF_nil])
  have HLEN : Hid ((redL q L (zeroR L)).1.length = n) := mkHid (by unfold redL; rw [redF_len, augM_len, hn])
  have HPV : Hid ((redL q L (zeroR L)).2.length ≤ n) := mkHid (by have := redF_piv q (augM q L (zeroR L) L.length) (colsN L); rw [augM_len, hn] at this; unfold redL; rw [hn]; exact this.1)
  have HUP : Hid ((∀ i, i < (redL q L (zeroR L)).2.length → (redL q L (zeroR L)).2.getD i 0 < C) ∧ ∀ i j, i < j → j < (redL q L (zeroR L)).2.length → (redL q L (zeroR L)).2.getD i 0 < (redL q L (zeroR L)).2.getD j 0) := mkHid (by rw [← HRD.out]; exact redF_up C)
  have HCN : Hid (0 < n → ((colsN L : Nat) : Int) = C) := mkHid (fun h => by rw [hcc h])
  clear hR hbig hn hrm hPM hpr hqb hrd hcc
  have d1 : decide ((0 : Int) < n) = false := decide_eq_false (by omega)
  have d6 : ¬ ((0 : Int) < n) := by omega
  clear h0
  have d2 : decide ((C : Int) < 0) = false := decide_eq_false (by omega)
  have d3 : decide ((64 : Int) < C) = false := decide_eq_false (by omega)
  have d4 : ((C : Int) == (C : Int)) = true := by simp
  have d5 : ((C : Int) != (C : Int)) = false := by simp
  obtain ⟨S, hS⟩ : ∃ S, (redL q L (zeroR L)).1 = S := ⟨_, rfl⟩
  obtain ⟨pl, hpl⟩ : ∃ S, (redL q L (zeroR L)).2 = S := ⟨_, rfl⟩
  rw [hS] at HLEN ⊢
  rw [hpl] at HPV HUP ⊢
  have HRD1 : Hid ((redF q (augM q L (zeroR L) n) C).1 = S) := mkHid (by rw [HRD.out, hS])
  have HRD2 : Hid ((redF q (augM q L (zeroR L) n) C).2 = pl) := mkHid (by rw [HRD.out, hpl])
  clear hS hpl
  obtain ⟨k, hk⟩ : ∃ k, pl.length = k := ⟨_, rfl⟩
  have HK := mkHid hk
  have hkn : k ≤ n := by rw [← hk]; exact HPV.out
  have HKN := mkHid hkn
  clear hk HPV
  go_enter Tryd.func58, Tryd.ntmps58
  go_wp2_with fail
  refine (rprime_bb q w).mono ?_
  rintro e w1 ⟨rfl, b1⟩
  rw [HP.out]
  have B1 := mkHid b1
  have R1 := mkHid (HR.out.below b1)
  clear b1
  go_wp2_with fail
  refine (rmatrix_any a n c L w1 hl R1.out HBIG.out).mono ?_
  rintro e w2 ⟨rfl, b2⟩
  rw [HM.out]
  have B2 := mkHid (B1.out.trans (b2.mono B1.out.size))
  have R2 := mkHid (R1.out.below b2)
  clear b2 R1 B1
  have hn6 : n ≤ 1000000 := by omega
  go_wp2_with (refine wpList_make_ints w2 rfl (.tmp 47) (.tmp 47) rfl n rfl rfl hn6 ?_; intro w3 o3 b3 z3; have O3 := mkHid o3; have B3 := mkHid (B2.out.trans (b3.mono B2.out.size)); have R3 := mkHid (R2.out.below b3); clear o3 b3 z3)
  have hb3 : Hid (ArgI w3 (some ⟨w2.heap.size, 0, none⟩) n (zeroR L)) := mkHid (by unfold zeroR; rw [HN.out]; exact O3.out.arg (by simp))
  refine (rres_any q a (some ⟨w2.heap.size, 0, none⟩) n c n C L (zeroR L) w3 HQ.out.1 HQ.out.2 hn64 hC R3.out hb3.out HW.out).mono ?_
  rintro e w4 ⟨ao, cap, hs, rfl, pr, ⟨R, ro, rfl⟩, b4⟩
  have PR := mkHid pr
  have B4 := mkHid (B3.out.trans (b4.mono B3.out.size))
  have RB : Hid (w.heap.size ≤ R) := mkHid (Nat.le_trans B3.out.size pr.ref.top.own)
  clear pr b4 R3 B3 O3 hb3 R2 B2 d1 d2 d3 d4 d5 d6
  go_wp2_with fail
  refine (rreduced_any q w3.heap.size R ro cap (C + 1) C n hs _ w4 HQM.out PR.out.ref (augM_len _ _ _ _) hC (fun _ => by omega) hn64 (by omega) (fun i j => aug_bd HQ.out.1 L (zeroR L) n i j) (fun g hg => PR.out.apt g hg)).mono ?_
  rintro e w5 ⟨ap, cp, hs', rfl, ow, ref5, o5⟩
  have B5 := mkHid (Only.refB B4.out o5 RB.out)
  rw [HRD1.out] at ref5
  rw [HRD2.out] at ow ⊢
  rw [HK.out]
  have O5 := mkHid (ow.arg (n := k) (by rw [pvI_len, HK.out]))
  have F5 := mkHid ref5
  clear o5 ow ref5 PR B4 RB
  obtain ⟨C1, hC1⟩ : ∃ C1, C + 1 = C1 := ⟨_, rfl⟩
  rw [hC1] at F5
  have HC1 : Hid (C < C1) := mkHid (by omega)
  have S5 : Hid (w.heap.size ≤ w5.heap.size) := mkHid B5.out.size
  clear hC1
  rename ¬ 0 < n => hzz
  clear hzz
  as_aux_lemma =>
    go_wp2_with fail
    have P0 : Hid (PartR (w5.alloc (.cells #[] 42)) w5.heap.size 0 C (some ⟨w5.heap.size, 0, none⟩) [] (kerL q C pl S 0)) := mkHid (by
      have h : kerL q C pl S 0 = [] := rfl
      rw [h]
      exact ⟨(own_new0 w5 42 w5.heap.size (Nat.le_refl _)).s, rfl, fun i h hi => by simp at hi, fun i hi => by simp at hi, fun i j x y hi => by simp at hi, fun h hm => by simp at hm⟩)
    have B0 : Hid (Below w5.heap.size w5 (w5.alloc (.cells #[] 42))) := mkHid ((Below.refl _ w5).alloc (Nat.le_refl _) _)
    have CN0 : Hid (Cnt pl 0 0) := mkHid ⟨Nat.zero_le _, fun i hi => absurd hi (Nat.not_lt_zero i), fun i _ _ => Nat.zero_le _⟩
    generalize w5.alloc (.cells #[] 42) = w6 at *
    generalize hG : w5.heap.size = G at *
    have HG := mkHid hG
    clear hG
    go_loopw [10, 11, 12] (fun s kc d wr => ∃ (col kk : Nat) (ao2 : Option Addr) (cp2 : Nat) (hs2 : List (Nat × Nat × Nat)), s = .slice ao2 (kerL q C pl S col).length cp2 ∧ kc = .int .i64 kk ∧ d = .int .i64 col ∧ col ≤ C ∧ kk ≤ k ∧ Hid (Cnt pl col kk) ∧ Hid (PartR wr G cp2 C ao2 hs2 (kerL q C pl S col)) ∧ Hid (Below G w5 wr)) (fun _ _ d _ => (C - intOf d).toNat)
    case atStart => exact ⟨0, 0, some ⟨G, 0, none⟩, 0, [], rfl, rfl, rfl, by omega, by omega, CN0, P0, B0⟩
    case round =>
      clear P0 B0 CN0
      obtain ⟨col, kk, ao2, cp2, hs2, rfl, rfl, rfl, hcol, hkk, hcn, hp, hb⟩ := hrel
      have e1 : IntKind.i64.wrap ((col : Int) + 1) = ((col + 1 : Nat) : Int) := IntWalk.i64_in _ (by omega)
      have e9 : IntKind.i64.wrap ((kk : Int) + 1) = ((kk + 1 : Nat) : Int) := IntWalk.i64_in _ (by omega)
      by_cases hlt : col < C
      · have cc : (col : Int) < C := by omega
        have hst : Hid (kerL q C pl S (col + 1) = if col ∈ pl then kerL q C pl S col else kerL q C pl S col ++ [kerV q C pl S col pl.length]) := mkHid rfl
        have hkl := kerL_le q C pl S col
        obtain ⟨Lc, hLc⟩ : ∃ Lc, kerL q C pl S col = Lc := ⟨_, rfl⟩
        rw [hLc] at hp hst hkl ⊢
        clear hLc
        have hmem := mkHid (hcn.out.mem HUP.out.2)
        by_cases hyes : kk < k ∧ pl.getD kk 0 = col
        · have hst2 : Hid (kerL q C pl S (col + 1) = Lc) := mkHid (by rw [hst.out, if_pos (hmem.out.2 ⟨by rw [HK.out]; exact hyes.1, hyes.2⟩)])
          have hcn2 := mkHid (hcn.out.yes HUP.out.2 (by rw [HK.out]; exact hyes.1) hyes.2)
          have kl : (kk : Int) < k := by have := hyes.1; omega
          have kl2 : decide ((kk : Int) < k) = true := decide_eq_true kl
          have kk1 : kk + 1 ≤ k := hyes.1
          obtain ⟨gp, op, rfl, hpc, -⟩ := (O5.out.keptS HG.out hb.out).here (by omega)
          have x1 := hpc kk hyes.1
          rw [pvI_at, hyes.2] at x1
          have e3 : IntKind.i64.wrap ((k : Int) - 1) = (k : Int) - 1 := IntWalk.i64_in _ (by omega)
          have m4 : (kk : Int) ≤ (k : Int) - 1 := by omega
          have x9 : wr.cell? ⟨gp, op + (min (kk : Int) ((k : Int) - 1)).toNat, none⟩ = some (.int .i64 col) := by rw [show (min (kk : Int) ((k : Int) - 1)).toNat = kk by omega]; exact x1
          clear x1
          have c1 : ((col : Int) == (col : Int)) = true := by simp
          clear hpc hyes hmem hst
          go_wp2_with fail
          go_roundw
          case rel => exact ⟨col + 1, kk + 1, ao2, cp2, hs2, by rw [hst2.out], rfl, rfl, by omega, kk1, hcn2, by rw [hst2.out]; exact hp, hb⟩
          case measure => simp only [intOf]; omega
        · have hnm : col ∉ pl := fun h => hyes (by have h2 := hmem.out.1 h; rw [HK.out] at h2; exact h2)
          have hst2 : Hid (kerL q C pl S (col + 1) = Lc ++ [kerV q C pl S col k]) := mkHid (by rw [hst.out, if_neg hnm, HK.out])
          have hcn2 := mkHid (hcn.out.no HUP.out.2 hnm)
          have hC6 : C ≤ 1000000 := by omega
          clear hnm hst hmem
          as_aux_lemma =>
          by_cases hkl : kk < k
          · have kl : (kk : Int) < k := by omega
            have kl2 : decide ((kk : Int) < k) = true := decide_eq_true kl
            obtain ⟨gp, op, hao, hpc, -⟩ := (O5.out.keptS HG.out hb.out).here (by omega)
            have x1 := hpc kk hkl
            rw [pvI_at] at x1
            have hpne : pl.getD kk 0 ≠ col := fun e => hyes ⟨hkl, e⟩
            obtain ⟨pv, hpv⟩ : ∃ pv, pl.getD kk 0 = pv := ⟨_, rfl⟩
            rw [hpv] at x1 hpne
            have e3 : IntKind.i64.wrap ((k : Int) - 1) = (k : Int) - 1 := IntWalk.i64_in _ (by omega)
            have m4 : (kk : Int) ≤ (k : Int) - 1 := by omega
            have x9 : wr.cell? ⟨gp, op + (min (kk : Int) ((k : Int) - 1)).toNat, none⟩ = some (.int .i64 pv) := by rw [show (min (kk : Int) ((k : Int) - 1)).toNat = kk by omega]; exact x1
            have c1 : ((pv : Int) == (col : Int)) = false := by rw [beq_eq_false_iff_ne]; omega
            have c2 : decide (pv = col) = false := decide_eq_false hpne
            have HPNE := mkHid hpne
            subst hao
            clear hpc hyes x1 hpv hpne
            go_upto_region 11 with (fail)
            clear x9 c1 c2 e3 m4 kl2 kl
            go_wp2_with (refine wpList_make_ints wr rfl (.tmp 78) (.tmp 78) rfl C rfl rfl hC6 ?_; intro w7 o7 b7 z7; have O7 := mkHid o7; have B7 := mkHid b7; have xk := o7.cell_i col (by rw [List.length_replicate]; exact hlt); have zk := o7.warm col hlt; rw [Nat.zero_add] at xk zk; clear o7 b7 z7)
            have V6 : Hid (OwnAt (w7.setCell ⟨wr.heap.size, col, none⟩ (.int .i64 1)) wr.heap.size wr.heap.size 0 C (iv (kerV q C pl S col 0))) := mkHid (by
              have h := O7.out.set col (.int .i64 1) (by rw [iv_length, List.length_replicate]; exact hlt)
              rw [Nat.zero_add, iv_set] at h
              exact h)
            have B6 : Hid (Below wr.heap.size wr (w7.setCell ⟨wr.heap.size, col, none⟩ (.int .i64 1))) := mkHid (below_setCell B7.out (p := ⟨wr.heap.size, col, none⟩) (Nat.le_refl _) _)
            have PT := mkHid hp.out.atT
            have GT : Hid (G ≤ wr.heap.size) := mkHid (by have := hb.out.size; have := HG.out; omega)
            clear xk zk O7 B7
            generalize w7.setCell ⟨wr.heap.size, col, none⟩ (.int .i64 1) = w8 at *
            generalize hTT : wr.heap.size = T at *
            have HTT := mkHid hTT
            clear hTT
            generalize wr = wo at *
            go_loopw [14] (fun c wq => ∃ i : Nat, c = .int .i64 i ∧ i ≤ k ∧ Hid (OwnAt wq T T 0 C (iv (kerV q C pl S col i))) ∧ Hid (Below T wo wq)) (fun c _ => (k - intOf c).toNat)
            case atStart => exact ⟨0, rfl, by omega, V6, B6⟩
            case round =>
              clear V6 B6
              obtain ⟨i, rfl, hi, ho, hbq⟩ := hrel
              have e2 : IntKind.i64.wrap ((i : Int) + 1) = ((i + 1 : Nat) : Int) := IntWalk.i64_in _ (by omega)
              have BQ : Hid (Below G w5 wr) := mkHid (hb.out.trans (hbq.out.mono GT.out))
              by_cases hil : i < k
              · obtain ⟨gp2, op2, hao2, hpc, -⟩ := (O5.out.keptS HG.out BQ.out).here (by omega)
                cases hao2
                have x1 := hpc i hil
                rw [pvI_at] at x1
                have hpi := HUP.out.1 i (by rw [HK.out]; exact hil)
                have hst3 : Hid (kerV q C pl S col (i + 1) = (kerV q C pl S col i).set (pl.getD i 0) (subI q 0 ((S.getD i []).getD col 0))) := mkHid rfl
                obtain ⟨pi, hpi2⟩ : ∃ pi, pl.getD i 0 = pi := ⟨_, rfl⟩
                rw [hpi2] at x1 hpi hst3
                clear hpc hpi2
                obtain ⟨b, o, c2, -, hh, ha, -⟩ := (F5.out.step (by rw [HG.out]; exact BQ.out)).row i (by rw [HLEN.out]; have := HKN.out; omega)
                have x2 := ha.at col (by have := HC1.out; omega)
                obtain ⟨v, hv⟩ : ∃ v, (S.getD i []).getD col 0 = v := ⟨_, rfl⟩
                rw [hv] at x2 hst3
                obtain ⟨nv, hnv⟩ : ∃ v', subI q 0 v = v' := ⟨_, rfl⟩
                rw [hnv] at hst3
                have kM0 : ∀ W : World, Calls Tryd.prog 27 #[.int .i64 q, .int .i64 0, .int .i64 v] W fun e w' => e = .returned (.int .i64 nv) ∧ Below W.heap.size W w' := fun W => by have h := rsub_bb q 0 v W; rw [hnv] at h; exact h
                have KM := mkHid kM0
                have HPI := mkHid hpi
                clear ha hv hnv kM0
                have pi1 : (pi : Int) < C := by omega
                have c1 : (col : Int) < C1 := by have := HC1.out; omega
                have im : (i : Int) < n := by have := HKN.out; omega
                have ik : (i : Int) < k := by omega
                go_upto_region 16 with (fail)
                have m1 := cell_regrown x1
                have m2 := cell_regrown hh
                have m3 := cell_regrown x2
                have kM := regr wr (fun W _ => KM.out W)
                clear x1 hh x2
                refine wp_region_qtb 15 (by kernel_rfl) (by kernel_rfl) ?_
                simp only [List.take_succ_cons, List.take_zero, List.drop_succ_cons, List.drop_zero]
                repeat (go_big_quiet_step (with_reducible (first | exact kM _ _)))
                refine wpQuiet_nil ?_
                intro _ hw'
                obtain ⟨⟨dq, osq⟩, hw''⟩ := hw'
                subst hw''
                have hbb := below_regrown wr dq osq
                have ZT : Hid (T < wr.heap.size) := mkHid ho.out.lt
                have O2 := mkHid (ho.out.of_block (hbb.block T ZT.out) hbb.size)
                have B2q := mkHid (hbq.out.trans (hbb.mono (Nat.le_of_lt ZT.out)))
                clear kM m1 m2 m3 hbb KM ho hbq BQ
                generalize grow (redrawn wr dq) osq = wd at *
                have x1 := O2.out.cell_i pi (by rw [kerV_len]; exact HPI.out)
                have z1 := O2.out.warm pi HPI.out
                rw [Nat.zero_add] at x1 z1
                have V7 : Hid (OwnAt (wd.setCell ⟨T, pi, none⟩ (.int .i64 nv)) T T 0 C (iv (kerV q C pl S col (i + 1)))) := mkHid (by
                  have h := O2.out.set pi (.int .i64 nv) (by rw [iv_length, kerV_len]; exact HPI.out)
                  rw [Nat.zero_add, iv_set, ← hst3.out] at h
                  exact h)
                have B7 : Hid (Below T wo (wd.setCell ⟨T, pi, none⟩ (.int .i64 nv))) := mkHid (below_setCell B2q.out (p := ⟨T, pi, none⟩) (Nat.le_refl _) _)
                go_wp2
                go_roundw
                case rel => exact ⟨i + 1, rfl, by omega, V7, B7⟩
                case measure => simp [intOf]; omega
              · obtain rfl : k = i := by omega
                obtain ⟨i0, hi0, hz0, hz1, hz2⟩ := info_parts info_rows
                have HI0 := mkHid hi0; have HZ0 := mkHid hz0; have HZ1 := mkHid hz1; have HZ2 := mkHid hz2
                clear hi0 hz0 hz1 hz2
                have h1c := mkHid (one_slice (some ⟨T, 0, none⟩) C C)
                have P5 := mkHid (PT.out.later hbq.out)
                have Z5 : Hid (G ≤ wr.heap.size) := mkHid (Nat.le_trans GT.out (Nat.le_of_lt ho.out.lt))
                have hl6 : Lc.length ≤ 64 := by omega
                go_wp2_with (at_builtin; refine wpList_append_new wr G rfl (.tmp 104) (.tmp 106) 52 rfl 42 i0 (.slice none 0 0) 24 Tryd.underlying52 HI0.out HZ0.out HZ1.out HZ2.out rfl ao2 cp2 (hs2.map (hv C)) Lc.length ?q1 ?q2 P5.out.part.top Z5.out 1 1 #[.slice (some ⟨T, 0, none⟩) C C] 42 ?q3 rfl (by omega) ?q5 ?q6 ?q7 ?_; (case q1 => rw [List.length_map, P5.out.part.len]); (case q2 => rfl); (case q3 => rfl); (case q5 => exact h1c.out); (case q6 => simp only [maxLen]; omega); (case q7 => omega); intro g6 off6 c6 w6 o6 gr6 b6 or6; have O6 := mkHid o6; have GR6 := mkHid gr6; have B6 := mkHid b6; have OR6 := mkHid or6; clear o6 gr6 b6 or6)
                have P6 := mkHid (P5.out.add (row := kerV q C pl S col k) ho.out GT.out (kerV_len q C pl S col k) O6.out GR6.out OR6.out)
                have D6 := mkHid (BQ.out.trans B6.out)
                go_wp2_with fail
                go_roundw
                case rel => exact ⟨col + 1, kk, some ⟨g6, off6, none⟩, c6, hs2 ++ [(T, 0, C)], by rw [hst2.out, List.length_append]; rfl, rfl, rfl, by omega, by omega, hcn2, by rw [hst2.out]; exact P6, D6⟩
                case measure => simp only [intOf]; omega
          · have kl2 : decide ((kk : Int) < k) = false := decide_eq_false (by omega)
            have kl : ¬ ((kk : Int) < k) := by omega
            have kl3 : ¬ (kk < k) := by omega
            clear hyes
            go_upto_region 11 with (fail)
            clear kl2 kl kl3
            go_wp2_with (refine wpList_make_ints wr rfl (.tmp 78) (.tmp 78) rfl C rfl rfl hC6 ?_; intro w7 o7 b7 z7; have O7 := mkHid o7; have B7 := mkHid b7; have xk := o7.cell_i col (by rw [List.length_replicate]; exact hlt); have zk := o7.warm col hlt; rw [Nat.zero_add] at xk zk; clear o7 b7 z7)
            have V6 : Hid (OwnAt (w7.setCell ⟨wr.heap.size, col, none⟩ (.int .i64 1)) wr.heap.size wr.heap.size 0 C (iv (kerV q C pl S col 0))) := mkHid (by
              have h := O7.out.set col (.int .i64 1) (by rw [iv_length, List.length_replicate]; exact hlt)
              rw [Nat.zero_add, iv_set] at h
              exact h)
            have B6 : Hid (Below wr.heap.size wr (w7.setCell ⟨wr.heap.size, col, none⟩ (.int .i64 1))) := mkHid (below_setCell B7.out (p := ⟨wr.heap.size, col, none⟩) (Nat.le_refl _) _)
            have PT := mkHid hp.out.atT
            have GT : Hid (G ≤ wr.heap.size) := mkHid (by have := hb.out.size; have := HG.out; omega)
            clear xk zk O7 B7
            generalize w7.setCell ⟨wr.heap.size, col, none⟩ (.int .i64 1) = w8 at *
            generalize hTT : wr.heap.size = T at *
            have HTT := mkHid hTT
            clear hTT
            generalize wr = wo at *
            go_loopw [14] (fun c wq => ∃ i : Nat, c = .int .i64 i ∧ i ≤ k ∧ Hid (OwnAt wq T T 0 C (iv (kerV q C pl S col i))) ∧ Hid (Below T wo wq)) (fun c _ => (k - intOf c).toNat)
            case atStart => exact ⟨0, rfl, by omega, V6, B6⟩
            case round =>
              clear V6 B6
              obtain ⟨i, rfl, hi, ho, hbq⟩ := hrel
              have e2 : IntKind.i64.wrap ((i : Int) + 1) = ((i + 1 : Nat) : Int) := IntWalk.i64_in _ (by omega)
              have BQ : Hid (Below G w5 wr) := mkHid (hb.out.trans (hbq.out.mono GT.out))
              by_cases hil : i < k
              · obtain ⟨gp2, op2, hao2, hpc, -⟩ := (O5.out.keptS HG.out BQ.out).here (by omega)
                cases hao2
                have x1 := hpc i hil
                rw [pvI_at] at x1
                have hpi := HUP.out.1 i (by rw [HK.out]; exact hil)
                have hst3 : Hid (kerV q C pl S col (i + 1) = (kerV q C pl S col i).set (pl.getD i 0) (subI q 0 ((S.getD i []).getD col 0))) := mkHid rfl
                obtain ⟨pi, hpi2⟩ : ∃ pi, pl.getD i 0 = pi := ⟨_, rfl⟩
                rw [hpi2] at x1 hpi hst3
                clear hpc hpi2
                obtain ⟨b, o, c2, -, hh, ha, -⟩ := (F5.out.step (by rw [HG.out]; exact BQ.out)).row i (by rw [HLEN.out]; have := HKN.out; omega)
                have x2 := ha.at col (by have := HC1.out; omega)
                obtain ⟨v, hv⟩ : ∃ v, (S.getD i []).getD col 0 = v := ⟨_, rfl⟩
                rw [hv] at x2 hst3
                obtain ⟨nv, hnv⟩ : ∃ v', subI q 0 v = v' := ⟨_, rfl⟩
                rw [hnv] at hst3
                have kM0 : ∀ W : World, Calls Tryd.prog 27 #[.int .i64 q, .int .i64 0, .int .i64 v] W fun e w' => e = .returned (.int .i64 nv) ∧ Below W.heap.size W w' := fun W => by have h := rsub_bb q 0 v W; rw [hnv] at h; exact h
                have KM := mkHid kM0
                have HPI := mkHid hpi
                clear ha hv hnv kM0
                have pi1 : (pi : Int) < C := by omega
                have c1 : (col : Int) < C1 := by have := HC1.out; omega
                have im : (i : Int) < n := by have := HKN.out; omega
                have ik : (i : Int) < k := by omega
                go_upto_region 16 with (fail)
                have m1 := cell_regrown x1
                have m2 := cell_regrown hh
                have m3 := cell_regrown x2
                have kM := regr wr (fun W _ => KM.out W)
                clear x1 hh x2
                refine wp_region_qtb 15 (by kernel_rfl) (by kernel_rfl) ?_
                simp only [List.take_succ_cons, List.take_zero, List.drop_succ_cons, List.drop_zero]
                repeat (go_big_quiet_step (with_reducible (first | exact kM _ _)))
                refine wpQuiet_nil ?_
                intro _ hw'
                obtain ⟨⟨dq, osq⟩, hw''⟩ := hw'
                subst hw''
                have hbb := below_regrown wr dq osq
                have ZT : Hid (T < wr.heap.size) := mkHid ho.out.lt
                have O2 := mkHid (ho.out.of_block (hbb.block T ZT.out) hbb.size)
                have B2q := mkHid (hbq.out.trans (hbb.mono (Nat.le_of_lt ZT.out)))
                clear kM m1 m2 m3 hbb KM ho hbq BQ
                generalize grow (redrawn wr dq) osq = wd at *
                have x1 := O2.out.cell_i pi (by rw [kerV_len]; exact HPI.out)
                have z1 := O2.out.warm pi HPI.out
                rw [Nat.zero_add] at x1 z1
                have V7 : Hid (OwnAt (wd.setCell ⟨T, pi, none⟩ (.int .i64 nv)) T T 0 C (iv (kerV q C pl S col (i + 1)))) := mkHid (by
                  have h := O2.out.set pi (.int .i64 nv) (by rw [iv_length, kerV_len]; exact HPI.out)
                  rw [Nat.zero_add, iv_set, ← hst3.out] at h
                  exact h)
                have B7 : Hid (Below T wo (wd.setCell ⟨T, pi, none⟩ (.int .i64 nv))) := mkHid (below_setCell B2q.out (p := ⟨T, pi, none⟩) (Nat.le_refl _) _)
                go_wp2
                go_roundw
                case rel => exact ⟨i + 1, rfl, by omega, V7, B7⟩
                case measure => simp [intOf]; omega
              · obtain rfl : k = i := by omega
                obtain ⟨i0, hi0, hz0, hz1, hz2⟩ := info_parts info_rows
                have HI0 := mkHid hi0; have HZ0 := mkHid hz0; have HZ1 := mkHid hz1; have HZ2 := mkHid hz2
                clear hi0 hz0 hz1 hz2
                have h1c := mkHid (one_slice (some ⟨T, 0, none⟩) C C)
                have P5 := mkHid (PT.out.later hbq.out)
                have Z5 : Hid (G ≤ wr.heap.size) := mkHid (Nat.le_trans GT.out (Nat.le_of_lt ho.out.lt))
                have hl6 : Lc.length ≤ 64 := by omega
                go_wp2_with (at_builtin; refine wpList_append_new wr G rfl (.tmp 104) (.tmp 106) 52 rfl 42 i0 (.slice none 0 0) 24 Tryd.underlying52 HI0.out HZ0.out HZ1.out HZ2.out rfl ao2 cp2 (hs2.map (hv C)) Lc.length ?q1 ?q2 P5.out.part.top Z5.out 1 1 #[.slice (some ⟨T, 0, none⟩) C C] 42 ?q3 rfl (by omega) ?q5 ?q6 ?q7 ?_; (case q1 => rw [List.length_map, P5.out.part.len]); (case q2 => rfl); (case q3 => rfl); (case q5 => exact h1c.out); (case q6 => simp only [maxLen]; omega); (case q7 => omega); intro g6 off6 c6 w6 o6 gr6 b6 or6; have O6 := mkHid o6; have GR6 := mkHid gr6; have B6 := mkHid b6; have OR6 := mkHid or6; clear o6 gr6 b6 or6)
                have P6 := mkHid (P5.out.add (row := kerV q C pl S col k) ho.out GT.out (kerV_len q C pl S col k) O6.out GR6.out OR6.out)
                have D6 := mkHid (BQ.out.trans B6.out)
                go_wp2_with fail
                go_roundw
                case rel => exact ⟨col + 1, kk, some ⟨g6, off6, none⟩, c6, hs2 ++ [(T, 0, C)], by rw [hst2.out, List.length_append]; rfl, rfl, rfl, by omega, by omega, hcn2, by rw [hst2.out]; exact P6, D6⟩
                case measure => simp only [intOf]; omega
      · obtain rfl : C = col := by omega
        go_wp2_with fail
        go_ret2
        rw [HG.out] at *
        exact ⟨ao2, cp2, rfl, hp.out.argR rfl, B5.out.trans (hb.out.mono S5.out)⟩
set_option maxHeartbeats 8000000 in
set_option maxRecDepth 100000 in
theorem rkernel_yes1 (q : Int) (a : Option Addr) (c : Nat) (L : List (List Int)) (n C : Nat) (hn : L.length = n) (w : World) (hR : ArgR w a n L) (hl : n ≤ 1000000) (hbig : ∀ i, (L.getD i []).length ≤ 1000000) (hrd : rdB q L n = true) (hC : C ≤ 64) (hcc : 0 < n → colsN L = C) (h0 : 0 < n) :
    Calls Tryd.prog 58 #[.int .i64 q, .slice a n c, .int .i64 C] w fun e w' => ∃ ao cap, e = .returned (.tuple #[.slice ao (kerL q C (redL q L (zeroR L)).2 (redL q L (zeroR L)).1 C).length cap, .bool true]) ∧
      ArgR w' ao (kerL q C (redL q L (zeroR L)).2 (redL q L (zeroR L)).1 C).length (kerL q C (redL q L (zeroR L)).2 (redL q L (zeroR L)).1 C) ∧ Below w.heap.size w w' := by
  have HR := mkHid hR
  have HBIG := mkHid hbig
  have HN := mkHid hn
  have hrm := rdB_mt q L n
  rw [hn, hrd] at hrm
  simp only [beq_self_eq_true, Bool.and_true] at hrm
  have hPM := (Bool.and_eq_true _ _).mp hrm.symm
  have HP := mkHid hPM.1
  have HM := mkHid hPM.2
  have hpr := prime_of_rdB hrd
  have HW : Hid (∀ i, i < n → (L.getD i []).length = C) := mkHid (fun i hi => by rw [(hpr.2.2.2 i (by rw [HN.out]; exact hi)).1, hcc (by omega)])
  have hn64 : n ≤ 64 := by rw [← HN.out]; exact hpr.2.1
  have hqb := primeB_bd hpr.1
  have HQ := mkHid hqb
  have HQM : Hid (modB q = true) := mkHid (modB_iff.2 hqb)
  have HRD : Hid (redF q (augM q L (zeroR L) n) C = redL q L (zeroR L)) := mkHid (by
    unfold redL
    rw [HN.out]
    by_cases h0 : 0 < n
    · rw [hcc h0]
    · have : n = 0 := by omega
      subst this
      rw [show augM q L (zeroR L) 0 = [] from rfl, redF_nil, redF_nil])
  have HLEN : Hid ((redL q L (zeroR L)).1.length = n) := mkHid (by unfold redL; rw [redF_len, augM_len, hn])
  have HPV : Hid ((redL q L (zeroR L)).2.length ≤ n) := mkHid (by have := redF_piv q (augM q L (zeroR L) L.length) (colsN L); rw [augM_len, hn] at this; unfold redL; rw [hn]; exact this.1)
  have HUP : Hid ((∀ i, i < (redL q L (zeroR L)).2.length → (redL q L (zeroR L)).2.getD i 0 < C) ∧ ∀ i j, i < j → j < (redL q L (zeroR L)).2.length → (redL q L (zeroR L)).2.getD i 0 < (redL q L (zeroR L)).2.getD j 0) := mkHid (by rw [← HRD.out]; exact redF_up C)
  have HCN : Hid (0 < n → ((colsN L : Nat) : Int) = C) := mkHid (fun h => by rw [hcc h])
  clear hR hbig hn hrm hPM hpr hqb hrd hcc
  have d1 : decide ((0 : Int) < n) = true := decide_eq_true (by omega)
  have d6 : (0 : Int) < n := by omega
  have d2 : decide ((C : Int) < 0) = false := decide_eq_false (by omega)
  have d3 : decide ((64 : Int) < C) = false := decide_eq_false (by omega)
  have d4 : ((C : Int) == (C : Int)) = true := by simp
  have d5 : ((C : Int) != (C : Int)) = false := by simp
  obtain ⟨S, hS⟩ : ∃ S, (redL q L (zeroR L)).1 = S := ⟨_, rfl⟩
  obtain ⟨pl, hpl⟩ : ∃ S, (redL q L (zeroR L)).2 = S := ⟨_, rfl⟩
  rw [hS] at HLEN ⊢
  rw [hpl] at HPV HUP ⊢
  have HRD1 : Hid ((redF q (augM q L (zeroR L) n) C).1 = S) := mkHid (by rw [HRD.out, hS])
  have HRD2 : Hid ((redF q (augM q L (zeroR L) n) C).2 = pl) := mkHid (by rw [HRD.out, hpl])
  clear hS hpl
  obtain ⟨k, hk⟩ : ∃ k, pl.length = k := ⟨_, rfl⟩
  have HK := mkHid hk
  have hkn : k ≤ n := by rw [← hk]; exact HPV.out
  have HKN := mkHid hkn
  clear hk HPV
  go_enter Tryd.func58, Tryd.ntmps58
  go_wp2_with fail
  refine (rprime_bb q w).mono ?_
  rintro e w1 ⟨rfl, b1⟩
  rw [HP.out]
  have B1 := mkHid b1
  have R1 := mkHid (HR.out.below b1)
  clear b1
  go_wp2_with fail
  refine (rmatrix_any a n c L w1 hl R1.out HBIG.out).mono ?_
  rintro e w2 ⟨rfl, b2⟩
  rw [HM.out]
  have B2 := mkHid (B1.out.trans (b2.mono B1.out.size))
  have R2 := mkHid (R1.out.below b2)
  clear b2 R1 B1
  go_wp2_with fail
  refine (rwidth_any a n c L w2 R2.out).mono ?_
  rintro e w' ⟨rfl, rfl⟩
  rw [HCN.out h0]
  have hn6 : n ≤ 1000000 := by omega
  go_wp2_with (refine wpList_make_ints w2 rfl (.tmp 47) (.tmp 47) rfl n rfl rfl hn6 ?_; intro w3 o3 b3 z3; have O3 := mkHid o3; have B3 := mkHid (B2.out.trans (b3.mono B2.out.size)); have R3 := mkHid (R2.out.below b3); clear o3 b3 z3)
  have hb3 : Hid (ArgI w3 (some ⟨w2.heap.size, 0, none⟩) n (zeroR L)) := mkHid (by unfold zeroR; rw [HN.out]; exact O3.out.arg (by simp))
  refine (rres_any q a (some ⟨w2.heap.size, 0, none⟩) n c n C L (zeroR L) w3 HQ.out.1 HQ.out.2 hn64 hC R3.out hb3.out HW.out).mono ?_
  rintro e w4 ⟨ao, cap, hs, rfl, pr, ⟨R, ro, rfl⟩, b4⟩
  have PR := mkHid pr
  have B4 := mkHid (B3.out.trans (b4.mono B3.out.size))
  have RB : Hid (w.heap.size ≤ R) := mkHid (Nat.le_trans B3.out.size pr.ref.top.own)
  clear pr b4 R3 B3 O3 hb3 R2 B2 d1 d2 d3 d4 d5 d6
  go_wp2_with fail
  refine (rreduced_any q w3.heap.size R ro cap (C + 1) C n hs _ w4 HQM.out PR.out.ref (augM_len _ _ _ _) hC (fun _ => by omega) hn64 (by omega) (fun i j => aug_bd HQ.out.1 L (zeroR L) n i j) (fun g hg => PR.out.apt g hg)).mono ?_
  rintro e w5 ⟨ap, cp, hs', rfl, ow, ref5, o5⟩
  have B5 := mkHid (Only.refB B4.out o5 RB.out)
  rw [HRD1.out] at ref5
  rw [HRD2.out] at ow ⊢
  rw [HK.out]
  have O5 := mkHid (ow.arg (n := k) (by rw [pvI_len, HK.out]))
  have F5 := mkHid ref5
  clear o5 ow ref5 PR B4 RB
  obtain ⟨C1, hC1⟩ : ∃ C1, C + 1 = C1 := ⟨_, rfl⟩
  rw [hC1] at F5
  have HC1 : Hid (C < C1) := mkHid (by omega)
  have S5 : Hid (w.heap.size ≤ w5.heap.size) := mkHid B5.out.size
  clear hC1
  as_aux_lemma =>
    go_wp2_with fail
    have P0 : Hid (PartR (w5.alloc (.cells #[] 42)) w5.heap.size 0 C (some ⟨w5.heap.size, 0, none⟩) [] (kerL q C pl S 0)) := mkHid (by
      have h : kerL q C pl S 0 = [] := rfl
      rw [h]
      exact ⟨(own_new0 w5 42 w5.heap.size (Nat.le_refl _)).s, rfl, fun i h hi => by simp at hi, fun i hi => by simp at hi, fun i j x y hi => by simp at hi, fun h hm => by simp at hm⟩)
    have B0 : Hid (Below w5.heap.size w5 (w5.alloc (.cells #[] 42))) := mkHid ((Below.refl _ w5).alloc (Nat.le_refl _) _)
    have CN0 : Hid (Cnt pl 0 0) := mkHid ⟨Nat.zero_le _, fun i hi => absurd hi (Nat.not_lt_zero i), fun i _ _ => Nat.zero_le _⟩
    generalize w5.alloc (.cells #[] 42) = w6 at *
    generalize hG : w5.heap.size = G at *
    have HG := mkHid hG
    clear hG
    go_loopw [10, 11, 12] (fun s kc d wr => ∃ (col kk : Nat) (ao2 : Option Addr) (cp2 : Nat) (hs2 : List (Nat × Nat × Nat)), s = .slice ao2 (kerL q C pl S col).length cp2 ∧ kc = .int .i64 kk ∧ d = .int .i64 col ∧ col ≤ C ∧ kk ≤ k ∧ Hid (Cnt pl col kk) ∧ Hid (PartR wr G cp2 C ao2 hs2 (kerL q C pl S col)) ∧ Hid (Below G w5 wr)) (fun _ _ d _ => (C - intOf d).toNat)
    case atStart => exact ⟨0, 0, some ⟨G, 0, none⟩, 0, [], rfl, rfl, rfl, by omega, by omega, CN0, P0, B0⟩
    case round =>
      clear P0 B0 CN0
      obtain ⟨col, kk, ao2, cp2, hs2, rfl, rfl, rfl, hcol, hkk, hcn, hp, hb⟩ := hrel
      have e1 : IntKind.i64.wrap ((col : Int) + 1) = ((col + 1 : Nat) : Int) := IntWalk.i64_in _ (by omega)
      have e9 : IntKind.i64.wrap ((kk : Int) + 1) = ((kk + 1 : Nat) : Int) := IntWalk.i64_in _ (by omega)
      by_cases hlt : col < C
      · have cc : (col : Int) < C := by omega
        have hst : Hid (kerL q C pl S (col + 1) = if col ∈ pl then kerL q C pl S col else kerL q C pl S col ++ [kerV q C pl S col pl.length]) := mkHid rfl
        have hkl := kerL_le q C pl S col
        obtain ⟨Lc, hLc⟩ : ∃ Lc, kerL q C pl S col = Lc := ⟨_, rfl⟩
        rw [hLc] at hp hst hkl ⊢
        clear hLc
        have hmem := mkHid (hcn.out.mem HUP.out.2)
        by_cases hyes : kk < k ∧ pl.getD kk 0 = col
        · have hst2 : Hid (kerL q C pl S (col + 1) = Lc) := mkHid (by rw [hst.out, if_pos (hmem.out.2 ⟨by rw [HK.out]; exact hyes.1, hyes.2⟩)])
          have hcn2 := mkHid (hcn.out.yes HUP.out.2 (by rw [HK.out]; exact hyes.1) hyes.2)
          have kl : (kk : Int) < k := by have := hyes.1; omega
          have kl2 : decide ((kk : Int) < k) = true := decide_eq_true kl
          have kk1 : kk + 1 ≤ k := hyes.1
          obtain ⟨gp, op, rfl, hpc, -⟩ := (O5.out.keptS HG.out hb.out).here (by omega)
          have x1 := hpc kk hyes.1
          rw [pvI_at, hyes.2] at x1
          have e3 : IntKind.i64.wrap ((k : Int) - 1) = (k : Int) - 1 := IntWalk.i64_in _ (by omega)
          have m4 : (kk : Int) ≤ (k : Int) - 1 := by omega
          have x9 : wr.cell? ⟨gp, op + (min (kk : Int) ((k : Int) - 1)).toNat, none⟩ = some (.int .i64 col) := by rw [show (min (kk : Int) ((k : Int) - 1)).toNat = kk by omega]; exact x1
          clear x1
          have c1 : ((col : Int) == (col : Int)) = true := by simp
          clear hpc hyes hmem hst
          go_wp2_with fail
          go_roundw
          case rel => exact ⟨col + 1, kk + 1, ao2, cp2, hs2, by rw [hst2.out], rfl, rfl, by omega, kk1, hcn2, by rw [hst2.out]; exact hp, hb⟩
          case measure => simp only [intOf]; omega
        · have hnm : col ∉ pl := fun h => hyes (by have h2 := hmem.out.1 h; rw [HK.out] at h2; exact h2)
          have hst2 : Hid (kerL q C pl S (col + 1) = Lc ++ [kerV q C pl S col k]) := mkHid (by rw [hst.out, if_neg hnm, HK.out])
          have hcn2 := mkHid (hcn.out.no HUP.out.2 hnm)
          have hC6 : C ≤ 1000000 := by omega
          clear hnm hst hmem
          as_aux_lemma =>
          by_cases hkl : kk < k
          · have kl : (kk : Int) < k := by omega
            have kl2 : decide ((kk : Int) < k) = true := decide_eq_true kl
            obtain ⟨gp, op, hao, hpc, -⟩ := (O5.out.keptS HG.out hb.out).here (by omega)
            have x1 := hpc kk hkl
            rw [pvI_at] at x1
            have hpne : pl.getD kk 0 ≠ col := fun e => hyes ⟨hkl, e⟩
            obtain ⟨pv, hpv⟩ : ∃ pv, pl.getD kk 0 = pv := ⟨_, rfl⟩
            rw [hpv] at x1 hpne
            have e3 : IntKind.i64.wrap ((k : Int) - 1) = (k : Int) - 1 := IntWalk.i64_in _ (by omega)
            have m4 : (kk : Int) ≤ (k : Int) - 1 := by omega
            have x9 : wr.cell? ⟨gp, op + (min (kk : Int) ((k : Int) - 1)).toNat, none⟩ = some (.int .i64 pv) := by rw [show (min (kk : Int) ((k : Int) - 1)).toNat = kk by omega]; exact x1
            have c1 : ((pv : Int) == (col : Int)) = false := by rw [beq_eq_false_iff_ne]; omega
            have c2 : decide (pv = col) = false := decide_eq_false hpne
            have HPNE := mkHid hpne
            subst hao
            clear hpc hyes x1 hpv hpne
            go_upto_region 11 with (fail)
            clear x9 c1 c2 e3 m4 kl2 kl
            go_wp2_with (refine wpList_make_ints wr rfl (.tmp 78) (.tmp 78) rfl C rfl rfl hC6 ?_; intro w7 o7 b7 z7; have O7 := mkHid o7; have B7 := mkHid b7; have xk := o7.cell_i col (by rw [List.length_replicate]; exact hlt); have zk := o7.warm col hlt; rw [Nat.zero_add] at xk zk; clear o7 b7 z7)
            have V6 : Hid (OwnAt (w7.setCell ⟨wr.heap.size, col, none⟩ (.int .i64 1)) wr.heap.size wr.heap.size 0 C (iv (kerV q C pl S col 0))) := mkHid (by
              have h := O7.out.set col (.int .i64 1) (by rw [iv_length, List.length_replicate]; exact hlt)
              rw [Nat.zero_add, iv_set] at h
              exact h)
            have B6 : Hid (Below wr.heap.size wr (w7.setCell ⟨wr.heap.size, col, none⟩ (.int .i64 1))) := mkHid (below_setCell B7.out (p := ⟨wr.heap.size, col, none⟩) (Nat.le_refl _) _)
            have PT := mkHid hp.out.atT
            have GT : Hid (G ≤ wr.heap.size) := mkHid (by have := hb.out.size; have := HG.out; omega)
            clear xk zk O7 B7
            generalize w7.setCell ⟨wr.heap.size, col, none⟩ (.int .i64 1) = w8 at *
            generalize hTT : wr.heap.size = T at *
            have HTT := mkHid hTT
            clear hTT
            generalize wr = wo at *
            go_loopw [14] (fun c wq => ∃ i : Nat, c = .int .i64 i ∧ i ≤ k ∧ Hid (OwnAt wq T T 0 C (iv (kerV q C pl S col i))) ∧ Hid (Below T wo wq)) (fun c _ => (k - intOf c).toNat)
            case atStart => exact ⟨0, rfl, by omega, V6, B6⟩
            case round =>
              clear V6 B6
              obtain ⟨i, rfl, hi, ho, hbq⟩ := hrel
              have e2 : IntKind.i64.wrap ((i : Int) + 1) = ((i + 1 : Nat) : Int) := IntWalk.i64_in _ (by omega)
              have BQ : Hid (Below G w5 wr) := mkHid (hb.out.trans (hbq.out.mono GT.out))
              by_cases hil : i < k
              · obtain ⟨gp2, op2, hao2, hpc, -⟩ := (O5.out.keptS HG.out BQ.out).here (by omega)
                cases hao2
                have x1 := hpc i hil
                rw [pvI_at] at x1
                have hpi := HUP.out.1 i (by rw [HK.out]; exact hil)
                have hst3 : Hid (kerV q C pl S col (i + 1) = (kerV q C pl S col i).set (pl.getD i 0) (subI q 0 ((S.getD i []).getD col 0))) := mkHid rfl
                obtain ⟨pi, hpi2⟩ : ∃ pi, pl.getD i 0 = pi := ⟨_, rfl⟩
                rw [hpi2] at x1 hpi hst3
                clear hpc hpi2
                obtain ⟨b, o, c2, -, hh, ha, -⟩ := (F5.out.step (by rw [HG.out]; exact BQ.out)).row i (by rw [HLEN.out]; have := HKN.out; omega)
                have x2 := ha.at col (by have := HC1.out; omega)
                obtain ⟨v, hv⟩ : ∃ v, (S.getD i []).getD col 0 = v := ⟨_, rfl⟩
                rw [hv] at x2 hst3
                obtain ⟨nv, hnv⟩ : ∃ v', subI q 0 v = v' := ⟨_, rfl⟩
                rw [hnv] at hst3
                have kM0 : ∀ W : World, Calls Tryd.prog 27 #[.int .i64 q, .int .i64 0, .int .i64 v] W fun e w' => e = .returned (.int .i64 nv) ∧ Below W.heap.size W w' := fun W => by have h := rsub_bb q 0 v W; rw [hnv] at h; exact h
                have KM := mkHid kM0
                have HPI := mkHid hpi
                clear ha hv hnv kM0
                have pi1 : (pi : Int) < C := by omega
                have c1 : (col : Int) < C1 := by have := HC1.out; omega
                have im : (i : Int) < n := by have := HKN.out; omega
                have ik : (i : Int) < k := by omega
                go_upto_region 16 with (fail)
                have m1 := cell_regrown x1
                have m2 := cell_regrown hh
                have m3 := cell_regrown x2
                have kM := regr wr (fun W _ => KM.out W)
                clear x1 hh x2
                refine wp_region_qtb 15 (by kernel_rfl) (by kernel_rfl) ?_
                simp only [List.take_succ_cons, List.take_zero, List.drop_succ_cons, List.drop_zero]
                repeat (go_big_quiet_step (with_reducible (first | exact kM _ _)))
                refine wpQuiet_nil ?_
                intro _ hw'
                obtain ⟨⟨dq, osq⟩, hw''⟩ := hw'
                subst hw''
                have hbb := below_regrown wr dq osq
                have ZT : Hid (T < wr.heap.size) := mkHid ho.out.lt
                have O2 := mkHid (ho.out.of_block (hbb.block T ZT.out) hbb.size)
                have B2q := mkHid (hbq.out.trans (hbb.mono (Nat.le_of_lt ZT.out)))
                clear kM m1 m2 m3 hbb KM ho hbq BQ
                generalize grow (redrawn wr dq) osq = wd at *
                have x1 := O2.out.cell_i pi (by rw [kerV_len]; exact HPI.out)
                have z1 := O2.out.warm pi HPI.out
                rw [Nat.zero_add] at x1 z1
                have V7 : Hid (OwnAt (wd.setCell ⟨T, pi, none⟩ (.int .i64 nv)) T T 0 C (iv (kerV q C pl S col (i + 1)))) := mkHid (by
                  have h := O2.out.set pi (.int .i64 nv) (by rw [iv_length, kerV_len]; exact HPI.out)
                  rw [Nat.zero_add, iv_set, ← hst3.out] at h
                  exact h)
                have B7 : Hid (Below T wo (wd.setCell ⟨T, pi, none⟩ (.int .i64 nv))) := mkHid (below_setCell B2q.out (p := ⟨T, pi, none⟩) (Nat.le_refl _) _)
                go_wp2
                go_roundw
                case rel => exact ⟨i + 1, rfl, by omega, V7, B7⟩
                case measure => simp [intOf]; omega
              · obtain rfl : k = i := by omega
                obtain ⟨i0, hi0, hz0, hz1, hz2⟩ := info_parts info_rows
                have HI0 := mkHid hi0; have HZ0 := mkHid hz0; have HZ1 := mkHid hz1; have HZ2 := mkHid hz2
                clear hi0 hz0 hz1 hz2
                have h1c := mkHid (one_slice (some ⟨T, 0, none⟩) C C)
                have P5 := mkHid (PT.out.later hbq.out)
                have Z5 : Hid (G ≤ wr.heap.size) := mkHid (Nat.le_trans GT.out (Nat.le_of_lt ho.out.lt))
                have hl6 : Lc.length ≤ 64 := by omega
                go_wp2_with (at_builtin; refine wpList_append_new wr G rfl (.tmp 104) (.tmp 106) 52 rfl 42 i0 (.slice none 0 0) 24 Tryd.underlying52 HI0.out HZ0.out HZ1.out HZ2.out rfl ao2 cp2 (hs2.map (hv C)) Lc.length ?q1 ?q2 P5.out.part.top Z5.out 1 1 #[.slice (some ⟨T, 0, none⟩) C C] 42 ?q3 rfl (by omega) ?q5 ?q6 ?q7 ?_; (case q1 => rw [List.length_map, P5.out.part.len]); (case q2 => rfl); (case q3 => rfl); (case q5 => exact h1c.out); (case q6 => simp only [maxLen]; omega); (case q7 => omega); intro g6 off6 c6 w6 o6 gr6 b6 or6; have O6 := mkHid o6; have GR6 := mkHid gr6; have B6 := mkHid b6; have OR6 := mkHid or6; clear o6 gr6 b6 or6)
                have P6 := mkHid (P5.out.add (row := kerV q C pl S col k) ho.out GT.out (kerV_len q C pl S col k) O6.out GR6.out OR6.out)
                have D6 := mkHid (BQ.out.trans B6.out)
                go_wp2_with fail
                go_roundw
                case rel => exact ⟨col + 1, kk, some ⟨g6, off6, none⟩, c6, hs2 ++ [(T, 0, C)], by rw [hst2.out, List.length_append]; rfl, rfl, rfl, by omega, by omega, hcn2, by rw [hst2.out]; exact P6, D6⟩
                case measure => simp only [intOf]; omega
          · have kl2 : decide ((kk : Int) < k) = false := decide_eq_false (by omega)
            have kl : ¬ ((kk : Int) < k) := by omega
            have kl3 : ¬ (kk < k) := by omega
            clear hyes
            go_upto_region 11 with (fail)
            clear kl2 kl kl3
            go_wp2_with (refine wpList_make_ints wr rfl (.tmp 78) (.tmp 78) rfl C rfl rfl hC6 ?_; intro w7 o7 b7 z7; have O7 := mkHid o7; have B7 := mkHid b7; have xk := o7.cell_i col (by rw [List.length_replicate]; exact hlt); have zk := o7.warm col hlt; rw [Nat.zero_add] at xk zk; clear o7 b7 z7)
            have V6 : Hid (OwnAt (w7.setCell ⟨wr.heap.size, col, none⟩ (.int .i64 1)) wr.heap.size wr.heap.size 0 C (iv (kerV q C pl S col 0))) := mkHid (by
              have h := O7.out.set col (.int .i64 1) (by rw [iv_length, List.length_replicate]; exact hlt)
              rw [Nat.zero_add, iv_set] at h
              exact h)
            have B6 : Hid (Below wr.heap.size wr (w7.setCell ⟨wr.heap.size, col, none⟩ (.int .i64 1))) := mkHid (below_setCell B7.out (p := ⟨wr.heap.size, col, none⟩) (Nat.le_refl _) _)
            have PT := mkHid hp.out.atT
            have GT : Hid (G ≤ wr.heap.size) := mkHid (by have := hb.out.size; have := HG.out; omega)
            clear xk zk O7 B7
            generalize w7.setCell ⟨wr.heap.size, col, none⟩ (.int .i64 1) = w8 at *
            generalize hTT : wr.heap.size = T at *
            have HTT := mkHid hTT
            clear hTT
            generalize wr = wo at *
            go_loopw [14] (fun c wq => ∃ i : Nat, c = .int .i64 i ∧ i ≤ k ∧ Hid (OwnAt wq T T 0 C (iv (kerV q C pl S col i))) ∧ Hid (Below T wo wq)) (fun c _ => (k - intOf c).toNat)
            case atStart => exact ⟨0, rfl, by omega, V6, B6⟩
            case round =>
              clear V6 B6
              obtain ⟨i, rfl, hi, ho, hbq⟩ := hrel
              have e2 : IntKind.i64.wrap ((i : Int) + 1) = ((i + 1 : Nat) : Int) := IntWalk.i64_in _ (by omega)
              have BQ : Hid (Below G w5 wr) := mkHid (hb.out.trans (hbq.out.mono GT.out))
              by_cases hil : i < k
              · obtain ⟨gp2, op2, hao2, hpc, -⟩ := (O5.out.keptS HG.out BQ.out).here (by omega)
                cases hao2
                have x1 := hpc i hil
                rw [pvI_at] at x1
                have hpi := HUP.out.1 i (by rw [HK.out]; exact hil)
                have hst3 : Hid (kerV q C pl S col (i + 1) = (kerV q C pl S col i).set (pl.getD i 0) (subI q 0 ((S.getD i []).getD col 0))) := mkHid rfl
                obtain ⟨pi, hpi2⟩ : ∃ pi, pl.getD i 0 = pi := ⟨_, rfl⟩
                rw [hpi2] at x1 hpi hst3
                clear hpc hpi2
                obtain ⟨b, o, c2, -, hh, ha, -⟩ := (F5.out.step (by rw [HG.out]; exact BQ.out)).row i (by rw [HLEN.out]; have := HKN.out; omega)
                have x2 := ha.at col (by have := HC1.out; omega)
                obtain ⟨v, hv⟩ : ∃ v, (S.getD i []).getD col 0 = v := ⟨_, rfl⟩
                rw [hv] at x2 hst3
                obtain ⟨nv, hnv⟩ : ∃ v', subI q 0 v = v' := ⟨_, rfl⟩
                rw [hnv] at hst3
                have kM0 : ∀ W : World, Calls Tryd.prog 27 #[.int .i64 q, .int .i64 0, .int .i64 v] W fun e w' => e = .returned (.int .i64 nv) ∧ Below W.heap.size W w' := fun W => by have h := rsub_bb q 0 v W; rw [hnv] at h; exact h
                have KM := mkHid kM0
                have HPI := mkHid hpi
                clear ha hv hnv kM0
                have pi1 : (pi : Int) < C := by omega
                have c1 : (col : Int) < C1 := by have := HC1.out; omega
                have im : (i : Int) < n := by have := HKN.out; omega
                have ik : (i : Int) < k := by omega
                go_upto_region 16 with (fail)
                have m1 := cell_regrown x1
                have m2 := cell_regrown hh
                have m3 := cell_regrown x2
                have kM := regr wr (fun W _ => KM.out W)
                clear x1 hh x2
                refine wp_region_qtb 15 (by kernel_rfl) (by kernel_rfl) ?_
                simp only [List.take_succ_cons, List.take_zero, List.drop_succ_cons, List.drop_zero]
                repeat (go_big_quiet_step (with_reducible (first | exact kM _ _)))
                refine wpQuiet_nil ?_
                intro _ hw'
                obtain ⟨⟨dq, osq⟩, hw''⟩ := hw'
                subst hw''
                have hbb := below_regrown wr dq osq
                have ZT : Hid (T < wr.heap.size) := mkHid ho.out.lt
                have O2 := mkHid (ho.out.of_block (hbb.block T ZT.out) hbb.size)
                have B2q := mkHid (hbq.out.trans (hbb.mono (Nat.le_of_lt ZT.out)))
                clear kM m1 m2 m3 hbb KM ho hbq BQ
                generalize grow (redrawn wr dq) osq = wd at *
                have x1 := O2.out.cell_i pi (by rw [kerV_len]; exact HPI.out)
                have z1 := O2.out.warm pi HPI.out
                rw [Nat.zero_add] at x1 z1
                have V7 : Hid (OwnAt (wd.setCell ⟨T, pi, none⟩ (.int .i64 nv)) T T 0 C (iv (kerV q C pl S col (i + 1)))) := mkHid (by
                  have h := O2.out.set pi (.int .i64 nv) (by rw [iv_length, kerV_len]; exact HPI.out)
                  rw [Nat.zero_add, iv_set, ← hst3.out] at h
                  exact h)
                have B7 : Hid (Below T wo (wd.setCell ⟨T, pi, none⟩ (.int .i64 nv))) := mkHid (below_setCell B2q.out (p := ⟨T, pi, none⟩) (Nat.le_refl _) _)
                go_wp2
                go_roundw
                case rel => exact ⟨i + 1, rfl, by omega, V7, B7⟩
                case measure => simp [intOf]; omega
              · obtain rfl : k = i := by omega
                obtain ⟨i0, hi0, hz0, hz1, hz2⟩ := info_parts info_rows
                have HI0 := mkHid hi0; have HZ0 := mkHid hz0; have HZ1 := mkHid hz1; have HZ2 := mkHid hz2
                clear hi0 hz0 hz1 hz2
                have h1c := mkHid (one_slice (some ⟨T, 0, none⟩) C C)
                have P5 := mkHid (PT.out.later hbq.out)
                have Z5 : Hid (G ≤ wr.heap.size) := mkHid (Nat.le_trans GT.out (Nat.le_of_lt ho.out.lt))
                have hl6 : Lc.length ≤ 64 := by omega
                go_wp2_with (at_builtin; refine wpList_append_new wr G rfl (.tmp 104) (.tmp 106) 52 rfl 42 i0 (.slice none 0 0) 24 Tryd.underlying52 HI0.out HZ0.out HZ1.out HZ2.out rfl ao2 cp2 (hs2.map (hv C)) Lc.length ?q1 ?q2 P5.out.part.top Z5.out 1 1 #[.slice (some ⟨T, 0, none⟩) C C] 42 ?q3 rfl (by omega) ?q5 ?q6 ?q7 ?_; (case q1 => rw [List.length_map, P5.out.part.len]); (case q2 => rfl); (case q3 => rfl); (case q5 => exact h1c.out); (case q6 => simp only [maxLen]; omega); (case q7 => omega); intro g6 off6 c6 w6 o6 gr6 b6 or6; have O6 := mkHid o6; have GR6 := mkHid gr6; have B6 := mkHid b6; have OR6 := mkHid or6; clear o6 gr6 b6 or6)
                have P6 := mkHid (P5.out.add (row := kerV q C pl S col k) ho.out GT.out (kerV_len q C pl S col k) O6.out GR6.out OR6.out)
                have D6 := mkHid (BQ.out.trans B6.out)
                go_wp2_with fail
                go_roundw
                case rel => exact ⟨col + 1, kk, some ⟨g6, off6, none⟩, c6, hs2 ++ [(T, 0, C)], by rw [hst2.out, List.length_append]; rfl, rfl, rfl, by omega, by omega, hcn2, by rw [hst2.out]; exact P6, D6⟩
                case measure => simp only [intOf]; omega
      · obtain rfl : C = col := by omega
        go_wp2_with fail
        go_ret2
        rw [HG.out] at *
        exact ⟨ao2, cp2, rfl, hp.out.argR rfl, B5.out.trans (hb.out.mono S5.out)⟩
end Go.Proofs.YtbllanmhbfnagaaDoor
