/- Kernel, where there are rows (walk). Kernel: where there is none; without rows (walks). Kernel, whatever comes in (walk). Solve, where there are rows (walk). Solve, whatever comes in (walk). -/
import Derived.BigRegion
import Derived.BigQuiet
import Derived.Test.YtbllanmhbfnagaaDoorU30
set_option linter.unusedVariables false
set_option linter.unusedSimpArgs false
namespace Go.Proofs.YtbllanmhbfnagaaDoor
open Go.RowKit Go.Sort
theorem MatW.setC {w : World} {B A R ro cap C : Nat} {q cols : Int} {hs : List (Nat × Nat × Nat)} {M : List (List Int)} (h : MatW w B A R ro cap C q cols hs M) (c : Int) : MatW (w.setCell ⟨A, 2, none⟩ (.int .i64 c)) B A R ro cap C q c hs M := by
  have ho : ∀ g, g ≠ A → (w.setCell ⟨A, 2, none⟩ (.int .i64 c)).heap[g]? = w.heap[g]? := fun g hg => heap_setCell_other w _ g _ hg
  have hz : w.heap.size ≤ (w.setCell ⟨A, 2, none⟩ (.int .i64 c)).heap.size := by rw [World.size_setCell]; exact Nat.le_refl _
  have hs2 : (w.cell? ⟨A, 2, none⟩).isSome = true := by rw [h.cc]; rfl
  refine ⟨⟨h.rows.top.of_block (ho R (fun e => h.ar e.symm)) hz, h.rows.len, fun i x hx => (h.rows.each i x hx).of_block (ho x.1 (h.ab x (List.mem_of_getElem? hx))) hz, h.rows.wide, h.rows.dist, h.rows.apart⟩, ?_, ?_, ?_, h.own, Nat.lt_of_lt_of_le h.lt hz, h.ar, h.ab⟩
  · rw [cell_setCell_at w A 2 0 _ hs2, if_neg (by omega)]; exact h.cq
  · rw [cell_setCell_at w A 2 1 _ hs2, if_neg (by omega)]; exact h.cr
  · rw [cell_setCell_at w A 2 2 _ hs2, if_pos rfl]
theorem PartR.argR {w : World} {B cap C : Nat} {ao : Option Addr} {hs : List (Nat × Nat × Nat)} {M : List (List Int)} (h : PartR w B cap C ao hs M) {n : Nat} (hn : n = M.length) : ArgR w ao n M := by
  refine ⟨hn, fun h0 => ?_⟩
  have ht := h.top
  have hl := h.len
  cases ht with
  | nil a b => rw [List.map_eq_nil_iff] at a; rw [a] at hl; simp at hl; omega
  | «at» g o h' =>
    refine ⟨g, o, rfl, h'.lt, fun i hi => ?_⟩
    have hil : i < hs.length := by omega
    have hx : hs[i]? = some hs[i] := List.getElem?_eq_getElem hil
    have hc := h'.cells i (hv C hs[i]) (by rw [List.getElem?_map, hx]; rfl)
    exact ⟨some ⟨hs[i].1, hs[i].2.1, none⟩, C, hs[i].2.2, hc, (h.each i _ hx).arg (h.wide i (by omega)).symm⟩
theorem pvI_at (pl : List Nat) (i : Nat) : (pvI pl).getD i 0 = ((pl.getD i 0 : Nat) : Int) := by simp [pvI, List.getD]; cases pl[i]? <;> rfl
set_option maxHeartbeats 8000000 in
set_option maxRecDepth 100000 in
theorem kernel_rows (q : Int) (ar : Option Addr) (cr C : Nat) (L : List (List Int)) (w : World) (hT : Tab w) (hR : ArgR w ar L.length L) (hbig : ∀ i, (L.getD i []).length ≤ 1000000) (hrd : rdB q L L.length = true) (h0 : 0 < L.length) (hC : colsN L = C) :
    Calls Tryd.prog 57 #[.int .i64 q, .slice ar L.length cr, .int .i64 C] w fun e w' => ∃ ao cap, e = .returned (.tuple #[.slice ao (kerL q C (redL q L (zeroR L)).2 (redL q L (zeroR L)).1 C).length cap, .bool true]) ∧
      ArgR w' ao (kerL q C (redL q L (zeroR L)).2 (redL q L (zeroR L)).1 C).length (kerL q C (redL q L (zeroR L)).2 (redL q L (zeroR L)).1 C) ∧ Below w.heap.size w w' := by
  have HP := mkHid (prime_of_rdB hrd)
  have RD := mkHid hrd
  have HT := mkHid hT
  have HR := mkHid hR
  have HBIG := mkHid hbig
  have hC64 : C ≤ 64 := by rw [← hC]; exact colsN_le hrd
  obtain ⟨n, hn⟩ : ∃ n, L.length = n := ⟨_, rfl⟩
  have HLEN : Hid ((redL q L (zeroR L)).1.length = n) := mkHid (by unfold redL; rw [redF_len, augM_len, hn])
  have HPV : Hid ((redL q L (zeroR L)).2.length ≤ n ∧ (redL q L (zeroR L)).2.length ≤ C) := mkHid (by have := redF_piv q (augM q L (zeroR L) L.length) (colsN L); rw [augM_len, hn, hC] at this; unfold redL; rw [hn, hC]; exact this)
  have HUP : Hid (∀ i, i < (redL q L (zeroR L)).2.length → (redL q L (zeroR L)).2.getD i 0 < C) := mkHid (by unfold redL; rw [hC]; exact (redF_up C).1)
  have hn64 : n ≤ 64 := by rw [← hn]; exact HP.out.2.1
  have HNN := mkHid hn
  have HCC := mkHid hC
  have h0n : 0 < n := by rw [← hn]; exact h0
  have H0 := mkHid h0
  rw [hn]
  clear hT hR hbig hrd HP hn hC h0
  have hn6 : n ≤ 1000000 := by omega
  have d1 : decide ((0 : Int) < n) = true := decide_eq_true (by omega)
  have d2 : decide ((C : Int) < 0) = false := decide_eq_false (by omega)
  have d3 : decide ((64 : Int) < C) = false := decide_eq_false (by omega)
  have d4 : ((C : Int) == (C : Int)) = true := by simp
  have d5 : ((C : Int) != (C : Int)) = false := by simp
  go_enter Tryd.func57, Tryd.ntmps57
  go_wp2_with (refine wpList_make_ints w rfl (.tmp 20) (.tmp 20) rfl n rfl rfl hn6 ?_; intro w1 o1 b1 z1; have O1 := mkHid o1; have B1 := mkHid b1; clear o1 b1 z1)
  have hb1 : Hid (ArgI w1 (some ⟨w.heap.size, 0, none⟩) L.length (zeroR L)) := mkHid (by unfold zeroR; rw [HNN.out]; exact O1.out.arg (by simp))
  have rn := read_yes q ar (some ⟨w.heap.size, 0, none⟩) cr L.length n L (zeroR L) w1 (HT.out.step B1.out) (HR.out.below B1.out) hb1.out HBIG.out RD.out H0.out
  rw [HNN.out, HCC.out] at rn
  refine rn.mono ?_
  rintro e w2 ⟨A, R, ro, cap, hs, rfl, b2, hA, hM, hfz⟩
  have B2 := mkHid (B1.out.trans (b2.mono B1.out.size))
  have A2 : Hid (w.heap.size ≤ A) := mkHid (Nat.le_trans B1.out.size hA)
  have M2 := mkHid hM
  have BL := mkHid (fun g (h : rowB hs g) => hM.blt g h)
  have RL := mkHid hM.rlt
  have AL := mkHid hM.lt
  have f2 := M2.out.cc
  clear rn b2 hA hM hb1
  have hlen0 := augM_len q L (zeroR L) n
  have HA0 := mkHid hlen0
  clear hlen0
  go_upto_region 5 with (fail)
  have bS : Below w.heap.size w (w2.setCell ⟨A, 2, none⟩ (.int .i64 C)) := below_setCell B2.out (p := ⟨A, 2, none⟩) A2.out _
  have M3 := mkHid (M2.out.setC (C : Int))
  have B3 := mkHid bS
  have Z3 : Hid ((w2.setCell ⟨A, 2, none⟩ (.int .i64 C)).heap.size = w2.heap.size) := mkHid (by rw [World.size_setCell])
  clear bS M2 B2 f2 hfz
  generalize w2.setCell ⟨A, 2, none⟩ (.int .i64 C) = w3 at *
  as_aux_lemma =>
    go_wp2_with fail
    refine (reduce_any A A R ro cap (C + 1) C q hs _ w3 M3.out (by omega) (by rw [HA0.out]; exact hn64) (by omega)).mono ?_
    rintro e w4 ⟨ao, cp, hs', rfl, ow, M4', o4, hsub⟩
    have hred : redF q (augM q L (zeroR L) n) C = redL q L (zeroR L) := by unfold redL; rw [HNN.out, HCC.out]
    rw [hred] at ow M4' ⊢
    have M4 := mkHid M4'
    have O4 := mkHid ow
    have B4 := mkHid (M3.out.fresh B3.out A2.out o4)
    have RL4 : Hid (R < w4.heap.size ∧ A < w4.heap.size ∧ ∀ g, rowB hs' g → g < w4.heap.size) := mkHid ⟨M4'.rlt, M4'.lt, fun g hg => M4'.blt g hg⟩
    clear hred M4' ow o4 hsub M3 B3 BL RL AL Z3
    obtain ⟨S, hS⟩ : ∃ S, (redL q L (zeroR L)).1 = S := ⟨_, rfl⟩
    obtain ⟨pl, hpl⟩ : ∃ S, (redL q L (zeroR L)).2 = S := ⟨_, rfl⟩
    rw [hS] at M4 HLEN
    rw [hpl] at O4 HPV HUP ⊢
    have HS := mkHid hS
    have HPL := mkHid hpl
    clear hS hpl
    obtain ⟨k, hk⟩ : ∃ k, pl.length = k := ⟨_, rfl⟩
    have HK := mkHid hk
    have hkn : k ≤ n := by rw [← hk]; exact HPV.out.1
    rw [hk]
    clear hk
    have P4 := mkHid (O4.out.arg (n := k) (by rw [pvI_len, HK.out]))
    have S4 : Hid (w.heap.size ≤ w4.heap.size) := mkHid B4.out.size
    have F4 : Hid (PartR w4 w4.heap.size 0 C none [] (kerL q C pl S 0)) := mkHid (PartR.nil w4 w4.heap.size C)
    rw [HK.out] at HUP
    clear O4 HPV
    obtain ⟨C1, hC1⟩ : ∃ C1, C + 1 = C1 := ⟨_, rfl⟩
    rw [hC1] at M4
    have HC1 : Hid (C < C1) := mkHid (by omega)
    have K0 : (kerL q C pl S 0).length = 0 := rfl
    generalize hG : w4.heap.size = G at *
    have HG := mkHid hG
    clear hG hC1 d2 d3 d4 d5 d1
    go_wp2_with fail
    go_loopw [11, 58] (fun s c wr => ∃ (col : Nat) (ao2 : Option Addr) (cp2 : Nat) (hs2 : List (Nat × Nat × Nat)), s = .slice ao2 (kerL q C pl S col).length cp2 ∧ c = .int .i64 col ∧ col ≤ C ∧ Hid (PartR wr G cp2 C ao2 hs2 (kerL q C pl S col)) ∧ Hid (Below G w4 wr)) (fun _ c _ => (C - intOf c).toNat)
    case atStart => exact ⟨0, none, 0, [], rfl, rfl, by omega, F4, mkHid (Below.refl _ _)⟩
    case round =>
      clear F4
      obtain ⟨col, ao2, cp2, hs2, rfl, rfl, hcol, hp, hb⟩ := hrel
      have e1 : IntKind.i64.wrap ((col : Int) + 1) = ((col + 1 : Nat) : Int) := IntWalk.i64_in _ (by omega)
      by_cases hlt : col < C
      · have cc : (col : Int) < C := by omega
        have hst : Hid (kerL q C pl S (col + 1) = if col ∈ pl then kerL q C pl S col else kerL q C pl S col ++ [kerV q C pl S col pl.length]) := mkHid rfl
        have hkl := kerL_le q C pl S col
        obtain ⟨Lc, hLc⟩ : ∃ Lc, kerL q C pl S col = Lc := ⟨_, rfl⟩
        rw [hLc] at hp hst hkl ⊢
        clear hLc
        go_wp2_with fail
        refine (containsP_any ao k cp pl col wr (by omega) (P4.out.keptS HG.out hb.out)).mono ?_
        rintro e w' ⟨rfl, rfl⟩
        by_cases hmem : col ∈ pl
        · rw [decide_eq_true hmem]
          have hst2 : Hid (kerL q C pl S (col + 1) = Lc) := mkHid (by rw [hst.out, if_pos hmem])
          clear hmem
          go_wp2_with fail
          go_roundw
          case rel => exact ⟨col + 1, ao2, cp2, hs2, by rw [hst2.out], rfl, by omega, by rw [hst2.out]; exact hp, hb⟩
          case measure => simp only [intOf]; omega
        · rw [decide_eq_false hmem]
          have hst2 : Hid (kerL q C pl S (col + 1) = Lc ++ [kerV q C pl S col k]) := mkHid (by rw [hst.out, if_neg hmem, HK.out])
          clear hmem hst
          have hC6 : C ≤ 1000000 := by omega
          as_aux_lemma =>
            go_wp2_with (refine wpList_make_ints wr rfl (.tmp 64) (.tmp 64) rfl C rfl rfl hC6 ?_; intro w5 o5 b5 z5; have O5 := mkHid o5; have B5 := mkHid b5; have Z5 := mkHid z5; have xk := o5.cell_i col (by rw [List.length_replicate]; exact hlt); have zk := o5.warm col hlt; rw [Nat.zero_add] at xk zk; clear o5 b5 z5)
            have V6 : Hid (OwnAt (w5.setCell ⟨wr.heap.size, col, none⟩ (.int .i64 1)) wr.heap.size wr.heap.size 0 C (iv (kerV q C pl S col 0))) := mkHid (by
              have h := O5.out.set col (.int .i64 1) (by rw [iv_length, List.length_replicate]; exact hlt)
              rw [Nat.zero_add, iv_set] at h
              exact h)
            have B6 : Hid (Below wr.heap.size wr (w5.setCell ⟨wr.heap.size, col, none⟩ (.int .i64 1))) := mkHid (below_setCell B5.out (p := ⟨wr.heap.size, col, none⟩) (Nat.le_refl _) _)
            have PT := mkHid hp.out.atT
            have GT : Hid (G ≤ wr.heap.size) := mkHid (by have := hb.out.size; have := HG.out; omega)
            clear xk zk O5 B5 Z5
            generalize w5.setCell ⟨wr.heap.size, col, none⟩ (.int .i64 1) = w6 at *
            generalize hTT : wr.heap.size = T at *
            have HTT := mkHid hTT
            clear hTT
            generalize wr = wo at *
            go_loopw [71] (fun c wq => ∃ i : Nat, c = .int .i64 i ∧ i ≤ k ∧ Hid (OwnAt wq T T 0 C (iv (kerV q C pl S col i))) ∧ Hid (Below T wo wq)) (fun c _ => (k - intOf c).toNat)
            case atStart => exact ⟨0, rfl, by omega, V6, B6⟩
            case round =>
              clear V6 B6
              obtain ⟨i, rfl, hi, ho, hbq⟩ := hrel
              have e2 : IntKind.i64.wrap ((i : Int) + 1) = ((i + 1 : Nat) : Int) := IntWalk.i64_in _ (by omega)
              have BQ : Hid (Below G w4 wr) := mkHid (hb.out.trans (hbq.out.mono GT.out))
              by_cases hil : i < k
              · as_aux_lemma =>
                obtain ⟨gp, op, rfl, hpc, -⟩ := (P4.out.keptS HG.out BQ.out).here (by omega)
                have x1 := hpc i hil
                rw [pvI_at] at x1
                have hpi := HUP.out i hil
                have hst3 : Hid (kerV q C pl S col (i + 1) = (kerV q C pl S col i).set (pl.getD i 0) (subI q 0 ((S.getD i []).getD col 0))) := mkHid rfl
                obtain ⟨pi, hpi2⟩ : ∃ pi, pl.getD i 0 = pi := ⟨_, rfl⟩
                rw [hpi2] at x1 hpi hst3
                clear hpc hpi2
                have W5 := mkHid (M4.out.later RL4.out.2.1 RL4.out.1 RL4.out.2.2 BQ.out)
                have r1 := W5.out.cr
                rw [HLEN.out] at r1
                obtain ⟨b, o, c2, hx, hh, -, -⟩ := W5.out.row i (by rw [HLEN.out]; omega)
                have x2 := W5.out.cell hx col (by have := HC1.out; omega)
                obtain ⟨v, hv⟩ : ∃ v, (S.getD i []).getD col 0 = v := ⟨_, rfl⟩
                rw [hv] at x2 hst3
                obtain ⟨nv, hnv⟩ : ∃ v', subI q 0 v = v' := ⟨_, rfl⟩
                rw [hnv] at hst3
                have kM0 : ∀ W : World, Calls Tryd.prog 26 #[.int .i64 q, .int .i64 0, .int .i64 v] W fun e w' => e = .returned (.int .i64 nv) ∧ Below W.heap.size W w' := fun W => by have h := sub_bb q 0 v W; rw [hnv] at h; exact h
                have KM := mkHid kM0
                have HPI := mkHid hpi
                clear hx W5 hv hnv kM0
                have pi1 : (pi : Int) < C := by omega
                have c1 : (col : Int) < C1 := by have := HC1.out; omega
                have im : (i : Int) < n := by omega
                have ik : (i : Int) < k := by omega
                go_wp2_with fail
                refine (KM.out wr).mono ?_
                rintro e wd ⟨rfl, hbb⟩
                have ZT : Hid (T < wr.heap.size) := mkHid ho.out.lt
                have O2 := mkHid (ho.out.of_block (hbb.block T ZT.out) hbb.size)
                have B2q := mkHid (hbq.out.trans (hbb.mono (Nat.le_of_lt ZT.out)))
                clear hbb KM ho hbq BQ x1 r1 hh x2
                have x1 := O2.out.cell_i pi (by rw [kerV_len]; exact HPI.out)
                have z1 := O2.out.warm pi HPI.out
                rw [Nat.zero_add] at x1 z1
                have V7 : Hid (OwnAt (wd.setCell ⟨T, pi, none⟩ (.int .i64 nv)) T T 0 C (iv (kerV q C pl S col (i + 1)))) := mkHid (by
                  have h := O2.out.set pi (.int .i64 nv) (by rw [iv_length, kerV_len]; exact HPI.out)
                  rw [Nat.zero_add, iv_set, ← hst3.out] at h
                  exact h)
                have B7 : Hid (Below T wo (wd.setCell ⟨T, pi, none⟩ (.int .i64 nv))) := mkHid (below_setCell B2q.out (p := ⟨T, pi, none⟩) (Nat.le_refl _) _)
                go_wp2
                go_roundw
                case rel => exact ⟨i + 1, rfl, by omega, V7, B7⟩
                case measure => simp [intOf]; omega
              · as_aux_lemma =>
                obtain rfl : i = k := by omega
                obtain ⟨i0, hi0, hz0, hz1, hz2⟩ := info_parts info_rows
                have HI0 := mkHid hi0; have HZ0 := mkHid hz0; have HZ1 := mkHid hz1; have HZ2 := mkHid hz2
                clear hi0 hz0 hz1 hz2
                have h1c : Hid (∀ u ∈ (#[Value.slice (some ⟨T, 0, none⟩) C C] : Array Value).toList, u.oneCell' = true) := mkHid (fun u hu => by
                  have e : u = .slice (some ⟨T, 0, none⟩) C C := by simpa using hu
                  rw [e]; rfl)
                have P5 := mkHid (PT.out.later hbq.out)
                have Z5 : Hid (G ≤ wr.heap.size) := mkHid (Nat.le_trans GT.out (Nat.le_of_lt ho.out.lt))
                have hl6 : Lc.length ≤ 64 := by omega
                go_wp2_with (at_builtin; refine wpList_append_new wr G rfl (.tmp 92) (.tmp 94) 52 rfl 42 i0 (.slice none 0 0) 24 Tryd.underlying52 HI0.out HZ0.out HZ1.out HZ2.out rfl ao2 cp2 (hs2.map (hv C)) Lc.length ?q1 ?q2 P5.out.part.top Z5.out 1 1 #[.slice (some ⟨T, 0, none⟩) C C] 42 ?q3 rfl (by omega) ?q5 ?q6 ?q7 ?_; (case q1 => rw [List.length_map, P5.out.part.len]); (case q2 => rfl); (case q3 => rfl); (case q5 => exact h1c.out); (case q6 => simp only [maxLen]; omega); (case q7 => omega); intro g6 off6 c6 w6 o6 gr6 b6 or6; have O6 := mkHid o6; have GR6 := mkHid gr6; have B6 := mkHid b6; have OR6 := mkHid or6; clear o6 gr6 b6 or6)
                have P6 := mkHid (P5.out.add (row := kerV q C pl S col i) ho.out GT.out (kerV_len q C pl S col i) O6.out GR6.out OR6.out)
                have D6 := mkHid (BQ.out.trans B6.out)
                go_wp2_with fail
                go_roundw
                case rel => exact ⟨col + 1, some ⟨g6, off6, none⟩, c6, hs2 ++ [(T, 0, C)], by rw [hst2.out, List.length_append]; rfl, rfl, by omega, by rw [hst2.out]; exact P6, D6⟩
                case measure => simp only [intOf]; omega
      · obtain rfl : col = C := by omega
        go_wp2_with fail
        go_ret2
        rw [HS.out, HPL.out]
        exact ⟨ao2, cp2, rfl, hp.out.argR rfl, B4.out.trans (hb.out.mono S4.out)⟩
end Go.Proofs.YtbllanmhbfnagaaDoor
namespace Go.Proofs.YtbllanmhbfnagaaDoor
open Go.RowKit Go.Sort
set_option maxHeartbeats 4000000 in
set_option maxRecDepth 100000 in
theorem kernel_not (q cols : Int) (ar : Option Addr) (cr : Nat) (L : List (List Int)) (w : World) (hT : Tab w) (hR : ArgR w ar L.length L) (hl : L.length ≤ 1000000) (hbig : ∀ i, (L.getD i []).length ≤ 1000000) (hrd : rdB q L L.length = false) :
    Calls Tryd.prog 57 #[.int .i64 q, .slice ar L.length cr, .int .i64 cols] w fun e w' => e = .returned (.tuple #[.slice none 0 0, .bool false]) ∧ Below w.heap.size w w' := by
  have RD := mkHid hrd
  have HT := mkHid hT
  have HR := mkHid hR
  have HBIG := mkHid hbig
  obtain ⟨n, hn⟩ : ∃ n, L.length = n := ⟨_, rfl⟩
  have HNN := mkHid hn
  have hn6 : n ≤ 1000000 := by omega
  rw [hn]
  clear hT hR hbig hrd hl hn
  go_enter Tryd.func57, Tryd.ntmps57
  go_wp2_with (refine wpList_make_ints w rfl (.tmp 20) (.tmp 20) rfl n rfl rfl hn6 ?_; intro w1 o1 b1 z1; have O1 := mkHid o1; have B1 := mkHid b1; clear o1 b1 z1)
  have hb1 : Hid (ArgI w1 (some ⟨w.heap.size, 0, none⟩) L.length (zeroR L)) := mkHid (by unfold zeroR; rw [HNN.out]; exact O1.out.arg (by simp))
  have rn := read_not q ar (some ⟨w.heap.size, 0, none⟩) cr L.length n L (zeroR L) w1 (HT.out.step B1.out) (HR.out.below B1.out) hb1.out (by rw [HNN.out]; exact hn6) (by rw [HNN.out]; exact hn6) HBIG.out RD.out
  rw [HNN.out] at rn
  refine rn.mono ?_
  rintro e w2 ⟨rfl, b2⟩
  have B2 := mkHid (B1.out.trans (b2.mono B1.out.size))
  clear rn b2 hb1
  go_wp2
  go_ret2
  exact ⟨rfl, B2.out⟩
set_option maxHeartbeats 4000000 in
set_option maxRecDepth 100000 in
theorem kernel_bad_lo (q cols : Int) (ar : Option Addr) (cr : Nat) (L : List (List Int)) (w : World) (hT : Tab w) (hR : ArgR w ar L.length L) (hbig : ∀ i, (L.getD i []).length ≤ 1000000) (hrd : rdB q L L.length = true) (h0 : 0 < L.length) (hc : cols < 0) :
    Calls Tryd.prog 57 #[.int .i64 q, .slice ar L.length cr, .int .i64 cols] w fun e w' => e = .returned (.tuple #[.slice none 0 0, .bool false]) ∧ Below w.heap.size w w' := by
  have RD := mkHid hrd
  have HT := mkHid hT
  have HR := mkHid hR
  have HBIG := mkHid hbig
  have HP := mkHid (prime_of_rdB hrd)
  obtain ⟨n, hn⟩ : ∃ n, L.length = n := ⟨_, rfl⟩
  obtain ⟨C, hC⟩ : ∃ C, colsN L = C := ⟨_, rfl⟩
  have HNN := mkHid hn
  have HCC := mkHid hC
  have hn6 : n ≤ 1000000 := by have := HP.out.2.1; omega
  have H0 := mkHid h0
  have d2 : decide (cols < 0) = true := decide_eq_true hc
  clear h0
  rw [hn]
  clear hT hR hbig hrd hn hC
  go_enter Tryd.func57, Tryd.ntmps57
  go_wp2_with (refine wpList_make_ints w rfl (.tmp 20) (.tmp 20) rfl n rfl rfl hn6 ?_; intro w1 o1 b1 z1; have O1 := mkHid o1; have B1 := mkHid b1; clear o1 b1 z1)
  have hb1 : Hid (ArgI w1 (some ⟨w.heap.size, 0, none⟩) L.length (zeroR L)) := mkHid (by unfold zeroR; rw [HNN.out]; exact O1.out.arg (by simp))
  have rn := read_yes q ar (some ⟨w.heap.size, 0, none⟩) cr L.length n L (zeroR L) w1 (HT.out.step B1.out) (HR.out.below B1.out) hb1.out HBIG.out RD.out H0.out
  rw [HNN.out, HCC.out] at rn
  refine rn.mono ?_
  rintro e w2 ⟨A, R, ro, cap, hs, rfl, b2, hA, hM, hfz⟩
  have B2 := mkHid (B1.out.trans (b2.mono B1.out.size))
  have f2 := hM.cc
  clear rn b2 hb1 hA hM hfz
  go_wp2
  go_ret2
  exact ⟨rfl, B2.out⟩
set_option maxHeartbeats 4000000 in
set_option maxRecDepth 100000 in
theorem kernel_bad_hi (q cols : Int) (ar : Option Addr) (cr : Nat) (L : List (List Int)) (w : World) (hT : Tab w) (hR : ArgR w ar L.length L) (hbig : ∀ i, (L.getD i []).length ≤ 1000000) (hrd : rdB q L L.length = true) (h0 : 0 < L.length) (hc : 64 < cols) :
    Calls Tryd.prog 57 #[.int .i64 q, .slice ar L.length cr, .int .i64 cols] w fun e w' => e = .returned (.tuple #[.slice none 0 0, .bool false]) ∧ Below w.heap.size w w' := by
  have RD := mkHid hrd
  have HT := mkHid hT
  have HR := mkHid hR
  have HBIG := mkHid hbig
  have HP := mkHid (prime_of_rdB hrd)
  obtain ⟨n, hn⟩ : ∃ n, L.length = n := ⟨_, rfl⟩
  obtain ⟨C, hC⟩ : ∃ C, colsN L = C := ⟨_, rfl⟩
  have HNN := mkHid hn
  have HCC := mkHid hC
  have hn6 : n ≤ 1000000 := by have := HP.out.2.1; omega
  have H0 := mkHid h0
  have d2 : decide (cols < 0) = false := decide_eq_false (by omega)
  have d3 : decide (64 < cols) = true := decide_eq_true hc
  clear h0
  rw [hn]
  clear hT hR hbig hrd hn hC
  go_enter Tryd.func57, Tryd.ntmps57
  go_wp2_with (refine wpList_make_ints w rfl (.tmp 20) (.tmp 20) rfl n rfl rfl hn6 ?_; intro w1 o1 b1 z1; have O1 := mkHid o1; have B1 := mkHid b1; clear o1 b1 z1)
  have hb1 : Hid (ArgI w1 (some ⟨w.heap.size, 0, none⟩) L.length (zeroR L)) := mkHid (by unfold zeroR; rw [HNN.out]; exact O1.out.arg (by simp))
  have rn := read_yes q ar (some ⟨w.heap.size, 0, none⟩) cr L.length n L (zeroR L) w1 (HT.out.step B1.out) (HR.out.below B1.out) hb1.out HBIG.out RD.out H0.out
  rw [HNN.out, HCC.out] at rn
  refine rn.mono ?_
  rintro e w2 ⟨A, R, ro, cap, hs, rfl, b2, hA, hM, hfz⟩
  have B2 := mkHid (B1.out.trans (b2.mono B1.out.size))
  have f2 := hM.cc
  clear rn b2 hb1 hA hM hfz
  go_wp2
  go_ret2
  exact ⟨rfl, B2.out⟩
set_option maxHeartbeats 4000000 in
set_option maxRecDepth 100000 in
theorem kernel_bad_ne (q cols : Int) (ar : Option Addr) (cr : Nat) (L : List (List Int)) (w : World) (hT : Tab w) (hR : ArgR w ar L.length L) (hbig : ∀ i, (L.getD i []).length ≤ 1000000) (hrd : rdB q L L.length = true) (h0 : 0 < L.length) (hc0 : 0 ≤ cols) (hc1 : cols ≤ 64) (hne : (colsN L : Int) ≠ cols) :
    Calls Tryd.prog 57 #[.int .i64 q, .slice ar L.length cr, .int .i64 cols] w fun e w' => e = .returned (.tuple #[.slice none 0 0, .bool false]) ∧ Below w.heap.size w w' := by
  have RD := mkHid hrd
  have HT := mkHid hT
  have HR := mkHid hR
  have HBIG := mkHid hbig
  have HP := mkHid (prime_of_rdB hrd)
  obtain ⟨n, hn⟩ : ∃ n, L.length = n := ⟨_, rfl⟩
  obtain ⟨C, hC⟩ : ∃ C, colsN L = C := ⟨_, rfl⟩
  have HNN := mkHid hn
  have HCC := mkHid hC
  have hn6 : n ≤ 1000000 := by have := HP.out.2.1; omega
  have H0 := mkHid h0
  have d1 : decide ((0 : Int) < n) = true := decide_eq_true (by omega)
  have d2 : decide (cols < 0) = false := decide_eq_false (by omega)
  have d3 : decide (64 < cols) = false := decide_eq_false (by omega)
  rw [hC] at hne
  have d4 : ((C : Int) == cols) = false := by simpa using hne
  have d5 : ((C : Int) != cols) = true := by simpa using hne
  have d6 : decide ((C : Int) = cols) = false := decide_eq_false hne
  have d7 : ¬ (cols < 0) := by omega
  have d8 : ¬ (64 < cols) := by omega
  have d9 : ¬ ((C : Int) = cols) := hne
  have d10 : 0 < n := by omega
  have HNE := mkHid hne
  clear h0 hne hc0 hc1
  rw [hn]
  clear hT hR hbig hrd hn hC
  go_enter Tryd.func57, Tryd.ntmps57
  go_wp2_with (refine wpList_make_ints w rfl (.tmp 20) (.tmp 20) rfl n rfl rfl hn6 ?_; intro w1 o1 b1 z1; have O1 := mkHid o1; have B1 := mkHid b1; clear o1 b1 z1)
  have hb1 : Hid (ArgI w1 (some ⟨w.heap.size, 0, none⟩) L.length (zeroR L)) := mkHid (by unfold zeroR; rw [HNN.out]; exact O1.out.arg (by simp))
  have rn := read_yes q ar (some ⟨w.heap.size, 0, none⟩) cr L.length n L (zeroR L) w1 (HT.out.step B1.out) (HR.out.below B1.out) hb1.out HBIG.out RD.out H0.out
  rw [HNN.out, HCC.out] at rn
  refine rn.mono ?_
  rintro e w2 ⟨A, R, ro, cap, hs, rfl, b2, hA, hM, hfz⟩
  have B2 := mkHid (B1.out.trans (b2.mono B1.out.size))
  have f2 := hM.cc
  clear rn b2 hb1 hA hM hfz
  go_wp2
  go_ret2
  exact ⟨rfl, B2.out⟩
set_option maxHeartbeats 4000000 in
set_option maxRecDepth 100000 in
theorem kernel_nil_lo (q cols : Int) (ar : Option Addr) (cr : Nat) (w : World) (hT : Tab w) (hP : primeB q = true) (hc : cols < 0) :
    Calls Tryd.prog 57 #[.int .i64 q, .slice ar 0 cr, .int .i64 cols] w fun e w' => e = .returned (.tuple #[.slice none 0 0, .bool false]) ∧ Below w.heap.size w w' := by
  have HP := mkHid hP
  have HT := mkHid hT
  have hn6 : (0 : Nat) ≤ 1000000 := by omega
  have d2 : decide (cols < 0) = true := decide_eq_true hc
  clear hT hP
  go_enter Tryd.func57, Tryd.ntmps57
  go_wp2_with (refine wpList_make_ints w rfl (.tmp 20) (.tmp 20) rfl 0 rfl rfl hn6 ?_; intro w1 o1 b1 z1; have O1 := mkHid o1; have B1 := mkHid b1; clear o1 b1 z1)
  refine (read_nil q ar (some ⟨w.heap.size, 0, none⟩) cr 0 w1 (HT.out.step B1.out) HP.out).mono ?_
  rintro e w2 ⟨A, rfl, hA, b2, hM⟩
  have B2 := mkHid (B1.out.trans (b2.mono B1.out.size))
  have f2 := hM.cells.2.2
  clear b2 hA hM
  go_wp2
  go_ret2
  exact ⟨rfl, B2.out⟩
set_option maxHeartbeats 4000000 in
set_option maxRecDepth 100000 in
theorem kernel_nil_hi (q cols : Int) (ar : Option Addr) (cr : Nat) (w : World) (hT : Tab w) (hP : primeB q = true) (hc : 64 < cols) :
    Calls Tryd.prog 57 #[.int .i64 q, .slice ar 0 cr, .int .i64 cols] w fun e w' => e = .returned (.tuple #[.slice none 0 0, .bool false]) ∧ Below w.heap.size w w' := by
  have HP := mkHid hP
  have HT := mkHid hT
  have hn6 : (0 : Nat) ≤ 1000000 := by omega
  have d2 : decide (cols < 0) = false := decide_eq_false (by omega)
  have d3 : decide (64 < cols) = true := decide_eq_true hc
  clear hT hP
  go_enter Tryd.func57, Tryd.ntmps57
  go_wp2_with (refine wpList_make_ints w rfl (.tmp 20) (.tmp 20) rfl 0 rfl rfl hn6 ?_; intro w1 o1 b1 z1; have O1 := mkHid o1; have B1 := mkHid b1; clear o1 b1 z1)
  refine (read_nil q ar (some ⟨w.heap.size, 0, none⟩) cr 0 w1 (HT.out.step B1.out) HP.out).mono ?_
  rintro e w2 ⟨A, rfl, hA, b2, hM⟩
  have B2 := mkHid (B1.out.trans (b2.mono B1.out.size))
  have f2 := hM.cells.2.2
  clear b2 hA hM
  go_wp2
  go_ret2
  exact ⟨rfl, B2.out⟩
end Go.Proofs.YtbllanmhbfnagaaDoor
namespace Go.Proofs.YtbllanmhbfnagaaDoor
open Go.RowKit Go.Sort
set_option maxHeartbeats 4000000 in
set_option maxRecDepth 100000 in
theorem kernel_nil (q : Int) (ar : Option Addr) (cr C : Nat) (w : World) (hT : Tab w) (hP : primeB q = true) (hC : C ≤ 64) :
    Calls Tryd.prog 57 #[.int .i64 q, .slice ar 0 cr, .int .i64 C] w fun e w' => ∃ ao cap, e = .returned (.tuple #[.slice ao (kerL q C [] [] C).length cap, .bool true]) ∧ ArgR w' ao (kerL q C [] [] C).length (kerL q C [] [] C) ∧ Below w.heap.size w w' := by
  have HP := mkHid hP
  have HT := mkHid hT
  have hn6 : (0 : Nat) ≤ 1000000 := by omega
  have d2 : decide ((C : Int) < 0) = false := decide_eq_false (by omega)
  have d3 : decide ((64 : Int) < C) = false := decide_eq_false (by omega)
  clear hT hP
  go_enter Tryd.func57, Tryd.ntmps57
  go_wp2_with (refine wpList_make_ints w rfl (.tmp 20) (.tmp 20) rfl 0 rfl rfl hn6 ?_; intro w1 o1 b1 z1; have O1 := mkHid o1; have B1 := mkHid b1; clear o1 b1 z1)
  refine (read_nil q ar (some ⟨w.heap.size, 0, none⟩) cr 0 w1 (HT.out.step B1.out) HP.out).mono ?_
  rintro e w2 ⟨A, rfl, hA, b2, hM⟩
  have B2 := mkHid (B1.out.trans (b2.mono B1.out.size))
  have A2 : Hid (w.heap.size ≤ A) := mkHid (Nat.le_trans B1.out.size hA)
  have f2 := hM.cells.2.2
  have fz := hM.free 2
  clear b2 hA hM
  go_upto_region 5 with (fail)
  have B4 : Hid (Below w.heap.size w (w2.setCell ⟨A, 2, none⟩ (.int .i64 C))) := mkHid (below_setCell B2.out (p := ⟨A, 2, none⟩) A2.out _)
  clear B2 f2 fz
  generalize w2.setCell ⟨A, 2, none⟩ (.int .i64 C) = w4 at *
  have S4 : Hid (w.heap.size ≤ w4.heap.size) := mkHid B4.out.size
  have F4 : Hid (PartR w4 w4.heap.size 0 C none [] (kerL q C [] [] 0)) := mkHid (PartR.nil w4 w4.heap.size C)
  generalize hG : w4.heap.size = G at *
  have HG := mkHid hG
  clear hG d2 d3
  go_wp2_with fail
  go_loopw [11, 58] (fun s c wr => ∃ (col : Nat) (ao2 : Option Addr) (cp2 : Nat) (hs2 : List (Nat × Nat × Nat)), s = .slice ao2 (kerL q C [] [] col).length cp2 ∧ c = .int .i64 col ∧ col ≤ C ∧ Hid (PartR wr G cp2 C ao2 hs2 (kerL q C [] [] col)) ∧ Hid (Below G w4 wr)) (fun _ c _ => (C - intOf c).toNat)
  case atStart => exact ⟨0, none, 0, [], rfl, rfl, by omega, F4, mkHid (Below.refl _ _)⟩
  case round =>
    clear F4
    obtain ⟨col, ao2, cp2, hs2, rfl, rfl, hcol, hp, hb⟩ := hrel
    have e1 : IntKind.i64.wrap ((col : Int) + 1) = ((col + 1 : Nat) : Int) := IntWalk.i64_in _ (by omega)
    by_cases hlt : col < C
    · have cc : (col : Int) < C := by omega
      have hst2 : Hid (kerL q C [] [] (col + 1) = kerL q C [] [] col ++ [kerV q C [] [] col 0]) := mkHid rfl
      have hkl := kerL_le q C [] [] col
      obtain ⟨Lc, hLc⟩ : ∃ Lc, kerL q C [] [] col = Lc := ⟨_, rfl⟩
      rw [hLc] at hp hst2 hkl ⊢
      clear hLc
      go_wp2_with fail
      refine (containsP_any none 0 0 [] col wr (by omega) ⟨rfl, fun h => absurd h (Nat.lt_irrefl 0)⟩).mono ?_
      rintro e w' ⟨rfl, rfl⟩
      rw [decide_eq_false (List.not_mem_nil)]
      have hC6 : C ≤ 1000000 := by omega
      as_aux_lemma =>
        go_wp2_with (refine wpList_make_ints wr rfl (.tmp 64) (.tmp 64) rfl C rfl rfl hC6 ?_; intro w5 o5 b5 z5; have O5 := mkHid o5; have B5 := mkHid b5; have Z5 := mkHid z5; have xk := o5.cell_i col (by rw [List.length_replicate]; exact hlt); have zk := o5.warm col hlt; rw [Nat.zero_add] at xk zk; clear o5 b5 z5)
        have V6 : Hid (OwnAt (w5.setCell ⟨wr.heap.size, col, none⟩ (.int .i64 1)) wr.heap.size wr.heap.size 0 C (iv (kerV q C [] [] col 0))) := mkHid (by
          have h := O5.out.set col (.int .i64 1) (by rw [iv_length, List.length_replicate]; exact hlt)
          rw [Nat.zero_add, iv_set] at h
          exact h)
        have B6 : Hid (Below wr.heap.size wr (w5.setCell ⟨wr.heap.size, col, none⟩ (.int .i64 1))) := mkHid (below_setCell B5.out (p := ⟨wr.heap.size, col, none⟩) (Nat.le_refl _) _)
        have PT := mkHid hp.out.atT
        have GT : Hid (G ≤ wr.heap.size) := mkHid (by have := hb.out.size; have := HG.out; omega)
        clear xk zk O5 B5 Z5
        generalize w5.setCell ⟨wr.heap.size, col, none⟩ (.int .i64 1) = w6 at *
        generalize hTT : wr.heap.size = T at *
        have HTT := mkHid hTT
        clear hTT
        generalize wr = wo at *
        go_loopw [71] (fun c wq => c = .int .i64 0 ∧ Hid (wq = w6)) (fun c _ => (0 - intOf c).toNat)
        case atStart => exact ⟨rfl, mkHid rfl⟩
        case round =>
          obtain ⟨rfl, hw6⟩ := hrel
          have hw7 := hw6.out
          subst hw7
          have ho := V6
          obtain ⟨i0, hi0, hz0, hz1, hz2⟩ := info_parts info_rows
          have HI0 := mkHid hi0; have HZ0 := mkHid hz0; have HZ1 := mkHid hz1; have HZ2 := mkHid hz2
          clear hi0 hz0 hz1 hz2
          have h1c : Hid (∀ u ∈ (#[Value.slice (some ⟨T, 0, none⟩) C C] : Array Value).toList, u.oneCell' = true) := mkHid (fun u hu => by
            have e : u = .slice (some ⟨T, 0, none⟩) C C := by simpa using hu
            rw [e]; rfl)
          have P5 := mkHid (PT.out.later B6.out)
          have Z5 : Hid (G ≤ wr.heap.size) := mkHid (Nat.le_trans GT.out (Nat.le_of_lt ho.out.lt))
          have hl6 : Lc.length ≤ 64 := by omega
          go_wp2_with (at_builtin; refine wpList_append_new wr G rfl (.tmp 92) (.tmp 94) 52 rfl 42 i0 (.slice none 0 0) 24 Tryd.underlying52 HI0.out HZ0.out HZ1.out HZ2.out rfl ao2 cp2 (hs2.map (hv C)) Lc.length ?q1 ?q2 P5.out.part.top Z5.out 1 1 #[.slice (some ⟨T, 0, none⟩) C C] 42 ?q3 rfl (by omega) ?q5 ?q6 ?q7 ?_; (case q1 => rw [List.length_map, P5.out.part.len]); (case q2 => rfl); (case q3 => rfl); (case q5 => exact h1c.out); (case q6 => simp only [maxLen]; omega); (case q7 => omega); intro g6 off6 c6 w7 o6 gr6 b6 or6; have O6 := mkHid o6; have GR6 := mkHid gr6; have B7 := mkHid b6; have OR6 := mkHid or6; clear o6 gr6 b6 or6)
          have P6 := mkHid (P5.out.add (row := kerV q C [] [] col 0) ho.out GT.out (kerV_len q C [] [] col 0) O6.out GR6.out OR6.out)
          have D6 : Hid (Below G w4 w7) := mkHid ((hb.out.trans (B6.out.mono GT.out)).trans B7.out)
          go_wp2_with fail
          go_roundw
          case rel => exact ⟨col + 1, some ⟨g6, off6, none⟩, c6, hs2 ++ [(T, 0, C)], by rw [hst2.out, List.length_append]; rfl, rfl, by omega, by rw [hst2.out]; exact P6, D6⟩
          case measure => simp only [intOf]; omega
    · obtain rfl : col = C := by omega
      go_wp2_with fail
      go_ret2
      exact ⟨ao2, cp2, rfl, hp.out.argR rfl, B4.out.trans (hb.out.mono S4.out)⟩
theorem kernel_any (q cols : Int) (ar : Option Addr) (cr : Nat) (L : List (List Int)) (w : World) (hT : Tab w) (hR : ArgR w ar L.length L) (hl : L.length ≤ 1000000) (hbig : ∀ i, (L.getD i []).length ≤ 1000000) :
    Calls Tryd.prog 57 #[.int .i64 q, .slice ar L.length cr, .int .i64 cols] w fun e w' => ∃ ao cap, e = .returned (.tuple #[.slice ao (kerF q L cols).length cap, .bool (kerOk q L cols)]) ∧ ArgR w' ao (kerF q L cols).length (kerF q L cols) ∧ Below w.heap.size w w' := by
  have hno : kerOk q L cols = false → (Calls Tryd.prog 57 #[.int .i64 q, .slice ar L.length cr, .int .i64 cols] w fun e w' => e = .returned (.tuple #[.slice none 0 0, .bool false]) ∧ Below w.heap.size w w') →
      Calls Tryd.prog 57 #[.int .i64 q, .slice ar L.length cr, .int .i64 cols] w fun e w' => ∃ ao cap, e = .returned (.tuple #[.slice ao (kerF q L cols).length cap, .bool (kerOk q L cols)]) ∧ ArgR w' ao (kerF q L cols).length (kerF q L cols) ∧ Below w.heap.size w w' := by
    intro hk hc
    refine hc.mono ?_
    rintro e w' ⟨rfl, h⟩
    have h2 : kerF q L cols = [] := by unfold kerF; rw [hk]; rfl
    rw [hk, h2]
    exact ⟨none, 0, rfl, ⟨rfl, fun h => absurd h (Nat.lt_irrefl 0)⟩, h⟩
  cases hrd : rdB q L L.length with
  | false => exact hno (by unfold kerOk; rw [hrd]; rfl) (kernel_not q cols ar cr L w hT hR hl hbig hrd)
  | true =>
    have hp := prime_of_rdB hrd
    by_cases hlo : cols < 0
    · refine hno (by unfold kerOk; rw [decide_eq_false (by omega : ¬ 0 ≤ cols)]; simp) ?_
      by_cases h0 : 0 < L.length
      · exact kernel_bad_lo q cols ar cr L w hT hR hbig hrd h0 hlo
      · have hz : L.length = 0 := by omega
        rw [hz]; exact kernel_nil_lo q cols ar cr w hT hp.1 hlo
    by_cases hhi : 64 < cols
    · refine hno (by unfold kerOk; rw [decide_eq_false (by omega : ¬ cols ≤ 64)]; simp) ?_
      by_cases h0 : 0 < L.length
      · exact kernel_bad_hi q cols ar cr L w hT hR hbig hrd h0 hhi
      · have hz : L.length = 0 := by omega
        rw [hz]; exact kernel_nil_hi q cols ar cr w hT hp.1 hhi
    have d1 : decide (0 ≤ cols) = true := decide_eq_true (by omega)
    have d2 : decide (cols ≤ 64) = true := decide_eq_true (by omega)
    obtain ⟨C, rfl⟩ : ∃ C : Nat, cols = (C : Int) := ⟨cols.toNat, by omega⟩
    by_cases h0 : 0 < L.length
    · have d3 : (L.length == 0) = false := by simp; intro h; rw [h] at h0; exact absurd h0 (Nat.lt_irrefl 0)
      by_cases he : colsN L = C
      · have hk : kerOk q L C = true := by unfold kerOk; rw [hrd, d1, d2, he]; simp
        have hf : kerF q L C = kerL q C (redL q L (zeroR L)).2 (redL q L (zeroR L)).1 C := by unfold kerF; rw [hk, if_pos rfl]; rfl
        rw [hk, hf]
        exact kernel_rows q ar cr C L w hT hR hbig hrd h0 he
      · exact hno (by unfold kerOk; rw [d3]; simp; intro _ h; omega) (kernel_bad_ne q C ar cr L w hT hR hbig hrd h0 (by omega) (by omega) (by omega))
    · have hnil : L = [] := List.length_eq_zero_iff.1 (by omega)
      subst hnil
      have hk : kerOk q [] C = true := by unfold kerOk; rw [hrd, d1, d2]; rfl
      have hf : kerF q [] C = kerL q C [] [] C := by unfold kerF; rw [hk, if_pos rfl]; rfl
      rw [hk, hf]
      exact kernel_nil q ar cr C w hT hp.1 (by omega)
end Go.Proofs.YtbllanmhbfnagaaDoor
namespace Go.Proofs.YtbllanmhbfnagaaDoor
open Go.RowKit Go.Sort
theorem MatW.wideM {w : World} {B A R ro cap C : Nat} {q cols : Int} {hs : List (Nat × Nat × Nat)} {M : List (List Int)} (h : MatW w B A R ro cap C q cols hs M) : ∀ i, i < M.length → (M.getD i []).length = C := h.rows.wide
set_option maxHeartbeats 8000000 in
set_option maxRecDepth 100000 in
theorem solve_rows (q : Int) (ar ab : Option Addr) (cr nb cb : Nat) (L : List (List Int)) (bl : List Int) (w : World) (hT : Tab w) (hR : ArgR w ar L.length L) (hb : ArgI w ab nb bl) (hbig : ∀ i, (L.getD i []).length ≤ 1000000) (hrd : rdB q L nb = true) (h0 : 0 < L.length) :
    Calls Tryd.prog 55 #[.int .i64 q, .slice ar L.length cr, .slice ab nb cb] w fun e w' => ∃ ao cap, e = .returned (.tuple #[.slice ao (solF q L bl nb).length cap, .bool (solOk q L bl nb)]) ∧ ArgI w' ao (solF q L bl nb).length (solF q L bl nb) ∧ Below w.heap.size w w' := by
  have HP := mkHid (prime_of_rdB hrd)
  have HC := mkHid (colsN_le hrd)
  have RN := mkHid (read_yes q ar ab cr nb cb L bl w hT hR hb hbig hrd h0)
  have hSO : Hid (solOk q L bl nb = noneB (redL q L bl).1 (redL q L bl).2.length (colsN L)) := mkHid (by unfold solOk; rw [hrd]; rfl)
  have hSF : Hid (solF q L bl nb = if noneB (redL q L bl).1 (redL q L bl).2.length (colsN L) then outF (redL q L bl).2 (redL q L bl).1 (colsN L) (redL q L bl).2.length else []) := mkHid (by unfold solF; rw [hSO.out])
  obtain ⟨C, hC⟩ : ∃ C, colsN L = C := ⟨_, rfl⟩
  obtain ⟨n, hn⟩ : ∃ n, L.length = n := ⟨_, rfl⟩
  have HLEN : Hid ((redL q L bl).1.length = n) := mkHid (by unfold redL; rw [redF_len, augM_len, hn])
  have HPV : Hid ((redL q L bl).2.length ≤ n ∧ (redL q L bl).2.length ≤ C) := mkHid (by have := redF_piv q (augM q L bl L.length) (colsN L); rw [augM_len, hn, hC] at this; unfold redL; rw [hn, hC]; exact this)
  have HUP : Hid (∀ i, i < (redL q L bl).2.length → (redL q L bl).2.getD i 0 < C) := mkHid (by unfold redL; rw [hC]; exact (redF_up C).1)
  have hn64 : n ≤ 64 := by rw [← hn]; exact HP.out.2.1
  have hC64 : C ≤ 64 := by rw [← hC]; exact HC.out
  rw [hn] at RN ⊢
  rw [hC] at hSO hSF RN
  have HNN := mkHid hn
  have HCC := mkHid hC
  clear hT hR hb hbig hrd HP HC hn hC
  have hlen0 := augM_len q L bl n
  have HA0 := mkHid hlen0
  clear hlen0
  go_enter Tryd.func55, Tryd.ntmps55
  go_wp2_with fail
  refine RN.out.mono ?_
  rintro e w2 ⟨A, R, ro, cap, hs, rfl, b2, hA, hM, -⟩
  have B2 := mkHid b2
  have A2 := mkHid hA
  have M2 := mkHid hM
  have BL := mkHid (fun g (h : rowB hs g) => hM.blt g h)
  have RL := mkHid hM.rlt
  have AL := mkHid hM.lt
  clear RN b2 hA hM
  go_upto_region 2 with (fail)
  have bK := (Below.refl w2.heap.size w2).alloc (Nat.le_refl _) (.cells #[.pointer (some ⟨A, 0, none⟩)] 94)
  have K3 := mkHid (cells_new w2 #[.pointer (some ⟨A, 0, none⟩)] 94 0)
  have Z3 : Hid (w2.heap.size < (w2.alloc (.cells #[.pointer (some ⟨A, 0, none⟩)] 94)).heap.size) := mkHid (by simp)
  have M3 := mkHid (M2.out.step bK)
  have B3 := mkHid (B2.out.trans (bK.mono B2.out.size))
  clear bK M2 B2
  have WK : Hid (w.heap.size ≤ w2.heap.size) := mkHid (by have := M3.out.own; have := A2.out; have := RL.out; have := M3.out.rows.top.own; omega)
  generalize w2.alloc (.cells #[.pointer (some ⟨A, 0, none⟩)] 94) = w3 at *
  generalize w2.heap.size = K at *
  as_aux_lemma =>
    have k3 : w3.cell? ⟨K, 0, none⟩ = some (.pointer (some ⟨A, 0, none⟩)) := K3.out
    go_wp2_with fail
    refine (reduce_any A A R ro cap (C + 1) C q hs _ w3 M3.out (by omega) (by rw [HA0.out]; exact hn64) (by omega)).mono ?_
    rintro e w4 ⟨ao, cp, hs', rfl, ow, M4', o4, hsub⟩
    have hred : redF q (augM q L bl n) C = redL q L bl := by unfold redL; rw [HNN.out, HCC.out]
    rw [hred] at ow M4' ⊢
    have k4 : w4.cell? ⟨K, 0, none⟩ = some (.pointer (some ⟨A, 0, none⟩)) := (o4.cell 0 Z3.out (fun hg => by
      rcases hg with hg | hg
      · have := BL.out K hg; omega
      · have := RL.out; omega)).trans k3
    have M4 := mkHid M4'
    have O4 := mkHid ow
    have B4 := mkHid (M3.out.fresh B3.out A2.out o4)
    have Z4 : Hid (K < w4.heap.size) := mkHid (Nat.lt_of_lt_of_le Z3.out o4.size)
    have RL4 : Hid (R < K ∧ A < K ∧ ∀ g, rowB hs' g → g < K) := mkHid ⟨RL.out, AL.out, fun g hg => BL.out g (hsub g hg)⟩
    clear hred M4' ow o4 hsub k3 K3 M3 B3 Z3 BL RL
    obtain ⟨S, hS⟩ : ∃ S, (redL q L bl).1 = S := ⟨_, rfl⟩
    obtain ⟨pl, hpl⟩ : ∃ S, (redL q L bl).2 = S := ⟨_, rfl⟩
    rw [hS] at M4 hSO hSF HLEN
    rw [hpl] at O4 hSO hSF HPV HUP ⊢
    clear hS hpl
    obtain ⟨k, hk⟩ : ∃ k, pl.length = k := ⟨_, rfl⟩
    have HK := mkHid hk
    have hkn : k ≤ n := by rw [← hk]; exact HPV.out.1
    rw [hk]
    clear hk
    obtain ⟨m, hm⟩ : ∃ m, S.length = m := ⟨_, rfl⟩
    have hmn : m = n := by rw [← hm]; exact HLEN.out
    subst hmn
    have f0 := M4.out.cq
    have f1 := M4.out.cr
    have f2 := M4.out.cc
    rw [HLEN.out] at f1
    clear hm
    go_wp2_with (refine wpList_slice_from w4 rfl 52 (.tmp 28) (.tmp 30) rfl 42 Tryd.underlying52 ?v1 R ro m cap .i64 k k rfl ?v2 ?v3 hkn ?_; (case v1 => kernel_rfl); (case v2 => rfl); (case v3 => rfl); intro off2 ho2)
    have hca := M4.out.colAt k C off2 (Nat.lt_succ_self C) (by rw [HLEN.out]; exact hkn) ho2
    rw [HLEN.out] at hca
    refine (contains2_any R off2 (m - k) (cap - k) K A C _ w4 (by omega) k4 f2 hca).mono ?_
    clear hca ho2
    rintro e w' ⟨rfl, rfl⟩
    have hnb : noneB S k C = (List.range (m - k)).all (fun i => (S.getD (k + i) []).getD C 0 == 0) := by rw [noneB_eq, HLEN.out]
    rw [← hnb]
    rw [HK.out] at hSO hSF
    clear hnb
    cases hz : noneB S k C with
    | false =>
      rw [hz] at hSO hSF
      clear hz
      go_wp2_with fail
      go_ret2
      rw [hSO.out, hSF.out]
      exact ⟨none, 0, rfl, ⟨rfl, fun h => absurd h (Nat.lt_irrefl 0)⟩, B4.out⟩
    | true =>
      rw [hz] at hSO hSF
      clear hz
      have hSF2 : Hid (solF q L bl nb = outF pl S C k) := hSF
      clear hSF
      have hC6 : C ≤ 1000000 := by omega
      go_wp2_with (refine wpList_make_ints w4 rfl (.tmp 37) (.tmp 37) rfl C rfl rfl hC6 ?_; intro w5 o5 b5 z5; have O5 := mkHid o5; have B5 := mkHid b5; have Z5 := mkHid z5; clear o5 b5 z5)
      have K4 := mkHid k4
      have P4 := mkHid (O4.out.arg (n := k) (by rw [pvI_len, HK.out]))
      have S4 : Hid (w.heap.size ≤ w4.heap.size) := mkHid B4.out.size
      have F5 : Hid (OwnAt w5 w4.heap.size w4.heap.size 0 C (iv (outF pl S C 0))) := O5
      rw [HK.out] at HUP
      clear f0 f1 f2 k4 O4 O5 h0
      obtain ⟨C1, hC1⟩ : ∃ C1, C + 1 = C1 := ⟨_, rfl⟩
      rw [hC1] at M4
      have cc : (C : Int) < C1 := by omega
      have HC1 : Hid (C < C1) := mkHid (by omega)
      generalize hG : w4.heap.size = G at *
      have HG := mkHid hG
      clear hG hC1
      go_wp2_with fail
      go_loopw [41] (fun c wr => ∃ i : Nat, c = .int .i64 i ∧ i ≤ k ∧ Hid (OwnAt wr G G 0 C (iv (outF pl S C i))) ∧ Hid (Below G w4 wr)) (fun c _ => (k - intOf c).toNat)
      case atStart => exact ⟨0, rfl, by omega, F5, B5⟩
      case round =>
        clear F5 B5
        obtain ⟨i, rfl, hi, ho, hb⟩ := hrel
        have e2 : IntKind.i64.wrap ((i : Int) + 1) = ((i + 1 : Nat) : Int) := IntWalk.i64_in _ (by omega)
        by_cases hlt : i < k
        · obtain ⟨gp, op, rfl, hpc, -⟩ := (P4.out.keptS HG.out hb.out).here (by omega)
          have x1 := hpc i hlt
          rw [show (pvI pl).getD i 0 = ((pl.getD i 0 : Nat) : Int) by simp [pvI, List.getD]; cases pl[i]? <;> rfl] at x1
          have hcol := HUP.out i hlt
          have hst : Hid (outF pl S C (i + 1) = (outF pl S C i).set (pl.getD i 0) ((S.getD i []).getD C 0)) := mkHid rfl
          obtain ⟨col, hcl⟩ : ∃ col, pl.getD i 0 = col := ⟨_, rfl⟩
          rw [hcl] at x1 hcol hst
          clear hpc hcl
          have W5 := M4.out.later (by have := RL4.out.2.1; have := Z4.out; omega) (by have := RL4.out.1; have := Z4.out; omega) (fun g hg => by have := RL4.out.2.2 g hg; have := Z4.out; omega) hb.out
          have f0 := W5.cc
          have f1 := W5.cr
          rw [HLEN.out] at f1
          obtain ⟨b, o, c2, hx, hh, -, -⟩ := W5.row i (by rw [HLEN.out]; omega)
          have x2 := W5.cell hx C HC1.out
          have k5 := (hb.out.cell (p := ⟨K, 0, none⟩) Z4.out).trans K4.out
          have z1 := ho.out.warm col hcol
          have x3 := ho.out.cell_i col (by rw [outF_len]; exact hcol)
          rw [Nat.zero_add] at z1 x3
          have HCOL := mkHid hcol
          obtain ⟨v, hv⟩ : ∃ v, (S.getD i []).getD C 0 = v := ⟨_, rfl⟩
          rw [hv] at x2 hst
          clear hx W5 hv
          have ci : (col : Int) < C := by omega
          have ii : (i : Int) < m := by omega
          have ik : (i : Int) < k := by omega
          go_upto_region 11 with (fail)
          go_region
          have E : ∀ W : World, OwnAt W G G 0 C (iv (outF pl S C i)) → OwnAt (W.setCell ⟨G, col, none⟩ (.int .i64 v)) G G 0 C (iv (outF pl S C (i + 1))) := fun W h => by
            have h2 := h.set col (.int .i64 v) (by rw [iv_length, outF_len]; exact HCOL.out)
            rw [Nat.zero_add, iv_set, ← hst.out] at h2
            exact h2
          have F6 := mkHid ((E wr ho.out).of_block (w' := (wr.setCell ⟨G, col, none⟩ (.int .i64 v)).drew) rfl (Nat.le_refl _))
          have B6 : Hid (Below G w4 (wr.setCell ⟨G, col, none⟩ (.int .i64 v)).drew) := mkHid ((below_setCell hb.out (p := ⟨G, col, none⟩) (Nat.le_refl G) _).trans ((below_drew _).mono (by rw [World.size_setCell]; have := hb.out.size; have := HG.out; omega)))
          go_wp2_with fail
          go_roundw
          case rel => exact ⟨i + 1, rfl, by omega, F6, B6⟩
          case measure => simp only [intOf]; omega
        · obtain rfl : i = k := by omega
          go_wp2_with fail
          go_ret2
          rw [hSO.out, hSF2.out, outF_len]
          exact ⟨some ⟨G, 0, none⟩, C, rfl, ho.out.arg (by rw [outF_len]), B4.out.trans (hb.out.mono S4.out)⟩
end Go.Proofs.YtbllanmhbfnagaaDoor
namespace Go.Proofs.YtbllanmhbfnagaaDoor
open Go.RowKit Go.Sort
set_option maxHeartbeats 4000000 in
set_option maxRecDepth 100000 in
theorem solve_nil (q : Int) (ar ab : Option Addr) (cr cb : Nat) (w : World) (hT : Tab w) (hP : primeB q = true) :
    Calls Tryd.prog 55 #[.int .i64 q, .slice ar 0 cr, .slice ab 0 cb] w fun e w' => ∃ ao cap, e = .returned (.tuple #[.slice ao 0 cap, .bool true]) ∧ Below w.heap.size w w' := by
  have RN := mkHid (read_nil q ar ab cr cb w hT hP)
  clear hT hP
  go_enter Tryd.func55, Tryd.ntmps55
  go_wp2_with fail
  refine RN.out.mono ?_
  rintro e w2 ⟨A, rfl, hA, b2, hM⟩
  have B2 := mkHid b2
  have M2 := mkHid hM
  clear RN b2 hA hM
  go_upto_region 2 with (fail)
  have bK := (Below.refl w2.heap.size w2).alloc (Nat.le_refl _) (.cells #[.pointer (some ⟨A, 0, none⟩)] 94)
  have K3 := mkHid (cells_new w2 #[.pointer (some ⟨A, 0, none⟩)] 94 0)
  have M3 := mkHid (M2.out.below bK M2.out.lt)
  have B3 := mkHid (B2.out.trans (bK.mono B2.out.size))
  clear bK M2 B2
  generalize w2.alloc (.cells #[.pointer (some ⟨A, 0, none⟩)] 94) = w3 at *
  generalize w2.heap.size = K at *
  have k3 : w3.cell? ⟨K, 0, none⟩ = some (.pointer (some ⟨A, 0, none⟩)) := K3.out
  go_wp2_with fail
  refine (reduce_nil A q w3 M3.out).mono ?_
  rintro e w4 ⟨rfl, rfl⟩
  obtain ⟨m0, m1, m2⟩ := M3.out.cells
  go_wp2_with fail
  refine (contains2_nil 0 _ w3).mono ?_
  rintro e w' ⟨rfl, rfl⟩
  have h0 : (0 : Nat) ≤ 1000000 := by omega
  go_wp2_with (refine wpList_make_ints w3 rfl (.tmp 37) (.tmp 37) rfl 0 rfl rfl h0 ?_; intro w5 o5 b5 z5; have B5 := mkHid b5; clear o5 b5 z5)
  have B6 := mkHid (B3.out.trans (B5.out.mono B3.out.size))
  go_loopw [41] (fun c wr => c = .int .i64 0 ∧ Hid (wr = w5)) (fun c _ => (0 - intOf c).toNat)
  case atStart => exact ⟨rfl, mkHid rfl⟩
  case round =>
    obtain ⟨rfl, hw⟩ := hrel
    have hw2 := hw.out
    subst hw2
    go_wp2_with fail
    go_ret2
    exact ⟨⟨_, _, rfl⟩, B6.out⟩
theorem solve_any (q : Int) (ar ab : Option Addr) (cr nb cb : Nat) (L : List (List Int)) (bl : List Int) (w : World) (hT : Tab w) (hR : ArgR w ar L.length L) (hb : ArgI w ab nb bl) (hl : L.length ≤ 1000000) (hnb : nb ≤ 1000000) (hbig : ∀ i, (L.getD i []).length ≤ 1000000) :
    Calls Tryd.prog 55 #[.int .i64 q, .slice ar L.length cr, .slice ab nb cb] w fun e w' => ∃ ao cap, e = .returned (.tuple #[.slice ao (solF q L bl nb).length cap, .bool (solOk q L bl nb)]) ∧ ArgI w' ao (solF q L bl nb).length (solF q L bl nb) ∧ Below w.heap.size w w' := by
  cases hrd : rdB q L nb with
  | false =>
    refine (solve_not q ar ab cr nb cb L bl w hT hR hb hl hnb hbig hrd).mono ?_
    rintro e w' ⟨rfl, h⟩
    have h1 : solOk q L bl nb = false := by unfold solOk; rw [hrd]; rfl
    have h2 : solF q L bl nb = [] := by unfold solF; rw [h1]; rfl
    rw [h1, h2]
    exact ⟨none, 0, rfl, ⟨rfl, fun h => absurd h (Nat.lt_irrefl 0)⟩, h⟩
  | true =>
    by_cases h0 : 0 < L.length
    · exact solve_rows q ar ab cr nb cb L bl w hT hR hb hbig hrd h0
    · have hnil : L = [] := List.length_eq_zero_iff.1 (by omega)
      subst hnil
      have hp := prime_of_rdB hrd
      obtain rfl : nb = 0 := hp.2.2.1
      refine (solve_nil q ar ab cr cb w hT hp.1).mono ?_
      rintro e w' ⟨ao, cap, rfl, h⟩
      have h1 : solOk q [] bl 0 = true := by unfold solOk; rw [hrd]; rfl
      have h2 : solF q [] bl 0 = [] := by unfold solF; rw [h1]; rfl
      rw [h1, h2]
      exact ⟨ao, cap, rfl, ⟨rfl, fun h => absurd h (Nat.lt_irrefl 0)⟩, h⟩
end Go.Proofs.YtbllanmhbfnagaaDoor
