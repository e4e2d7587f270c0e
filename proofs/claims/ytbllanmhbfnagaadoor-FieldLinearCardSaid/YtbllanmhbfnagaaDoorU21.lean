/- The package's matrix: clear (walk). The package's matrix: looking for a row (walks). Plain laws of the reduced form; the matrix in memory, for what comes later. Plain laws: one polynomial through points modulo a prime (no program in sight). Plain laws: the reduced row echelon form modulo a prime (no program in sight). Plain laws: how many vectors solve a reduced system modulo a prime (no program in sight). -/
import Derived.Outline
import Derived.Test.YtbllanmhbfnagaaDoorU12
import Derived.Test.YtbllanmhbfnagaaDoorU20
import Derived.Test.YtbllanmhbfnagaaDoorU17
import Derived.Test.YtbllanmhbfnagaaDoorU0
set_option linter.unusedVariables false
set_option linter.unusedSimpArgs false
namespace Go.Proofs.YtbllanmhbfnagaaDoor
open Go.RowKit Go.Sort
theorem partL_same {M E : List (List Int)} {i : Nat} (h : E.length = M.length) (hi : i < M.length) (he : E.getD i [] = M.getD i []) : partL M E (i + 1) = partL M E i := by
  rw [← partL_set [] h hi, he, ← partL_ge [] h (Nat.le_of_lt hi) (Nat.le_refl i)]
  apply List.ext_getElem?
  intro k
  rw [List.getElem?_set]
  by_cases e : i = k
  · subst e
    have hl : i < (partL M E i).length := by rw [partL_len h]; exact hi
    rw [if_pos rfl, if_pos hl, some_getD [] hl]
  · rw [if_neg e]
set_option maxHeartbeats 4000000 in
set_option maxRecDepth 100000 in
theorem clear_any (B A R ro cap C k col : Nat) (q cols : Int) (hs : List (Nat × Nat × Nat)) (M : List (List Int)) (w : World) (hM : MatW w B A R ro cap C q cols hs M) (hk : k < M.length) (hc : col < C) (hm : M.length ≤ 64) (hC : C ≤ 65) :
    Calls Tryd.prog 116 #[.pointer (some ⟨A, 0, none⟩), .int .i64 k, .int .i64 col] w fun e w' => e = .returned (.tuple #[]) ∧ MatW w' B A R ro cap C q cols hs (elimF q k col M) ∧ Only w w' (rowB hs) := by
  have HM := mkHid hM
  have F0 := hM.cq
  have F1 := hM.cr
  obtain ⟨E, hE⟩ : ∃ E, elimF q k col M = E := ⟨_, rfl⟩
  have hEl : E.length = M.length := by rw [← hE]; exact elimF_len q k col M
  have HE := mkHid hE
  have HEl := mkHid hEl
  rw [hE]
  clear hM hE hEl
  go_enter Tryd.func116, Tryd.ntmps116
  go_wp2_with fail
  clear F0 F1
  go_loopw [16] (fun c wr => ∃ i : Nat, c = .int .i64 i ∧ i ≤ M.length ∧ Hid (MatW wr B A R ro cap C q cols hs (partL M E i)) ∧ Hid (Only w wr (rowB hs))) (fun c _ => (M.length - intOf c).toNat)
  case atStart => exact ⟨0, rfl, by omega, mkHid (by rw [partL_zero]; exact HM.out), mkHid (Only.refl w _)⟩
  case round =>
    obtain ⟨i, rfl, hi, hw, ho⟩ := hrel
    have hlen := mkHid (partL_len HEl.out i)
    by_cases hlt : i < M.length
    · obtain ⟨b, o, c, hx, hh, hown, hwd⟩ := hw.out.row i (by rw [hlen.out]; exact hlt)
      have HX := mkHid hx
      have hcol := hw.out.cell hx col hc
      have hrow : (partL M E i).getD i [] = M.getD i [] := partL_ge [] HEl.out (by omega) (Nat.le_refl i)
      have HROW := mkHid hrow
      rw [hrow] at hcol hwd
      have hat := mkHid (elimF_at q k col M i hlt)
      rw [HE.out] at hat
      have HWD := mkHid hwd
      have e1 : IntKind.i64.wrap ((i : Int) + 1) = ((i + 1 : Nat) : Int) := IntWalk.i64_in _ (by omega)
      have ii : (i : Int) < M.length := by omega
      have cc : (col : Int) < C := by omega
      clear hx hrow hwd hown
      obtain ⟨v, hv⟩ : ∃ v, (M.getD i []).getD col 0 = v := ⟨_, rfl⟩
      rw [hv] at hcol
      have HV := mkHid hv
      clear hv
      by_cases hik0 : i = k
      · have hs1 := mkHid (partL_same HEl.out hlt (by rw [hat.out, if_pos (.inl hik0)]))
        have hik : ((i : Int) == (k : Int)) = true := by rw [beq_iff_eq]; omega
        have hik2 : decide (i = k) = true := decide_eq_true hik0
        clear hik0
        go_wp2_with fail
        go_roundw
        case rel => exact ⟨i + 1, rfl, by omega, mkHid (by rw [hs1.out]; exact hw.out), ho⟩
        case measure => simp [intOf]; omega
      have hik : ((i : Int) == (k : Int)) = false := by rw [beq_eq_false_iff_ne]; omega
      have HIK := mkHid hik0
      clear hik0
      by_cases hv0 : v = 0
      · have hs1 := mkHid (partL_same HEl.out hlt (by rw [hat.out, if_pos (.inr (by rw [HV.out]; exact hv0))]))
        subst hv0
        go_wp2_with fail
        go_roundw
        case rel => exact ⟨i + 1, rfl, by omega, mkHid (by rw [hs1.out]; exact hw.out), ho⟩
        case measure => simp [intOf]; omega
      have f1 := hw.out.cr
      rw [hlen.out] at f1
      obtain ⟨bk, ok, ck, hxk, hhk, _, hwk⟩ := hw.out.row k (by rw [hlen.out]; exact hk)
      have hrk : (partL M E i).getD k [] = M.getD k [] := by
        rcases Nat.lt_or_ge k i with h | h
        · rw [partL_lt [] HEl.out (by omega) h, ← HE.out, elimF_k q k col M hk]
        · exact partL_ge [] HEl.out (by omega) h
      have HXK := mkHid hxk
      have HRK := mkHid hrk
      have hwk2 := hwk
      rw [hrk] at hwk2
      have HWK := mkHid hwk2
      have kk : (k : Int) < M.length := by omega
      clear hxk hrk hwk hwk2
      obtain ⟨r0, hr0⟩ : ∃ r, M.getD i [] = r := ⟨_, rfl⟩
      obtain ⟨rk, hrk⟩ : ∃ r, M.getD k [] = r := ⟨_, rfl⟩
      obtain ⟨N, hN⟩ : ∃ N, E.getD i [] = N := ⟨_, rfl⟩
      have hN2 : Hid (N = lessR q v r0 rk) := mkHid (by rw [← hN, hat.out, if_neg (fun h => h.elim HIK.out (by rw [HV.out]; exact hv0)), hr0, hrk, ← hr0, HV.out, hr0])
      have hNl : Hid (N.length = r0.length) := mkHid (by rw [hN2.out, lessR_len])
      rw [hr0] at HV HROW HWD
      rw [hrk] at HRK HWK
      have HR0 := mkHid hr0
      have HN := mkHid hN
      clear hr0 hrk hN hat
      have hv1 : (v == 0) = false := by rw [beq_eq_false_iff_ne]; exact hv0
      clear hv0
      have W0 : Hid (MatW wr B A R ro cap C q cols hs ((partL M E i).set i (partL r0 N 0))) := mkHid (by
        rw [partL_zero, ← HROW.out]
        have e : (partL M E i).set i ((partL M E i).getD i []) = partL M E i := by
          apply List.ext_getElem?
          intro n
          rw [List.getElem?_set]
          by_cases e : i = n
          · subst e
            rw [if_pos rfl, if_pos (by rw [hlen.out]; exact hlt), some_getD [] (by rw [hlen.out]; exact hlt)]
          · rw [if_neg e]
        rw [e]; exact hw.out)
      go_wp2_with fail
      clear hcol hh f1 hhk hw
      go_loopw [43] (fun c wq => ∃ j : Nat, c = .int .i64 j ∧ j ≤ C ∧ Hid (MatW wq B A R ro cap C q cols hs ((partL M E i).set i (partL r0 N j))) ∧ Hid (Only w wq (rowB hs))) (fun c _ => (C - intOf c).toNat)
      case atStart => exact ⟨0, rfl, by omega, W0, ho⟩
      case round =>
        clear W0 ho
        obtain ⟨j, rfl, hj, hw, ho⟩ := hrel
        have hgi : ((partL M E i).set i (partL r0 N j)).getD i [] = partL r0 N j := by rw [getD_set _ _ _ _ _ (by rw [hlen.out]; exact hlt), if_pos rfl]
        have hgk : ((partL M E i).set i (partL r0 N j)).getD k [] = rk := by rw [getD_set _ _ _ _ _ (by rw [hlen.out]; exact hlt), if_neg HIK.out]; exact HRK.out
        have HGI := mkHid hgi
        by_cases hjl : j < C
        · have x1 := hw.out.cell HX.out j hjl
          have y1 := hw.out.cell HXK.out j hjl
          have z1 := hw.out.free HX.out j hjl
          have q1 := hw.out.cq
          rw [hgi, partL_ge 0 hNl.out (by rw [HWD.out]; omega) (Nat.le_refl j)] at x1
          rw [hgk] at y1
          clear hgi hgk
          have hval : Hid (N.getD j 0 = subI q (r0.getD j 0) (mulI q v (rk.getD j 0))) := mkHid (by rw [hN2.out, lessR_at _ _ _ _ _ (by rw [HWD.out]; exact hjl)])
          have hset : Hid ((partL r0 N j).set j (N.getD j 0) = partL r0 N (j + 1)) := mkHid (partL_set 0 hNl.out (by rw [HWD.out]; exact hjl))
          obtain ⟨xv, hxv⟩ : ∃ x, r0.getD j 0 = x := ⟨_, rfl⟩
          obtain ⟨yv, hyv⟩ : ∃ x, rk.getD j 0 = x := ⟨_, rfl⟩
          obtain ⟨nv, hnv⟩ : ∃ x, N.getD j 0 = x := ⟨_, rfl⟩
          rw [hxv, hyv, hnv] at hval
          rw [hnv] at hset
          rw [hxv] at x1
          rw [hyv] at y1
          clear hxv hyv hnv
          have kM0 : ∀ W : World, Calls Tryd.prog 28 #[.int .i64 q, .int .i64 v, .int .i64 yv] W fun e w' => e = .returned (.int .i64 (mulI q v yv)) ∧ Below W.heap.size W w' := fun W => mul_b q v yv W
          have kS0 : ∀ W : World, Calls Tryd.prog 26 #[.int .i64 q, .int .i64 xv, .int .i64 (mulI q v yv)] W fun e w' => e = .returned (.int .i64 nv) ∧ Below W.heap.size W w' := fun W => by have h := sub_b q xv (mulI q v yv) W; rw [← hval.out] at h; exact h
          generalize mulI q v yv = p at *
          have KM := mkHid kM0
          have KS := mkHid kS0
          clear kM0 kS0
          have jj : (j : Int) < C := by omega
          have e2 : IntKind.i64.wrap ((j : Int) + 1) = ((j + 1 : Nat) : Int) := IntWalk.i64_in _ (by omega)
          go_upto_region 8 with (fail)
          have m1 := cell_regrown x1
          have m2 := cell_regrown q1
          have kM := regr wr (fun W _ => KM.out W)
          have kS := regr wr (fun W _ => KS.out W)
          clear y1 q1
          refine wp_region_qtb 19 (by kernel_rfl) (by kernel_rfl) ?_
          simp only [List.take_succ_cons, List.take_zero, List.drop_succ_cons, List.drop_zero]
          repeat (quiet_step (with_reducible (first | exact kM _ _ | exact kS _ _)))
          refine wpQuiet_nil ?_
          intro _ hw'
          obtain ⟨⟨dq, osq⟩, hw''⟩ := hw'
          subst hw''
          have hbb := below_regrown wr dq osq
          have W2 := mkHid (hw.out.step hbb)
          have O2 := mkHid (ho.out.step hbb)
          clear kM kS m1 m2 x1 z1 hbb
          generalize grow (redrawn wr dq) osq = wd at *
          have x1 := W2.out.cell HX.out j hjl
          have z1 := W2.out.free HX.out j hjl
          go_wp2
          go_roundw
          case rel => exact ⟨j + 1, rfl, by omega, mkHid (by have := W2.out.setv i j nv (b, o, c) HX.out hjl; rw [HGI.out, hset.out, List.set_set] at this; exact this), mkHid (O2.out.setCell _ ⟨(b, o, c), List.mem_of_getElem? HX.out, rfl⟩)⟩
          case measure => simp [intOf]; omega
        · obtain rfl : j = C := by omega
          have hfin : Hid ((partL M E i).set i (partL r0 N j) = partL M E (i + 1)) := mkHid (by rw [← HWD.out, partL_full hNl.out, ← HN.out]; exact partL_set [] HEl.out hlt)
          clear hgi hgk
          go_wp2_with fail
          go_roundw
          case rel => exact ⟨i + 1, rfl, by omega, mkHid (by rw [← hfin.out]; exact hw.out), ho⟩
          case measure => simp [intOf]; omega
    · go_wp2_with fail
      go_end0
      exact ⟨rfl, by have := hw.out; rw [show i = M.length by omega, partL_full HEl.out] at this; exact this, ho.out⟩
end Go.Proofs.YtbllanmhbfnagaaDoor
namespace Go.Proofs.YtbllanmhbfnagaaDoor
open Go.RowKit Go.Sort
set_option maxHeartbeats 1000000 in
theorem look_any (b o c C K col : Nat) (v : Int) (w : World) (hc : col < C) (h1 : w.cell? ⟨K, 0, none⟩ = some (.int .i64 col)) (h2 : w.cell? ⟨b, o + col, none⟩ = some (.int .i64 v)) :
    Calls Tryd.prog 115 #[.slice (some ⟨b, o, none⟩) C c, .pointer (some ⟨K, 0, none⟩)] w fun e w' => e = .returned (.bool (v != 0)) ∧ w = w' := by
  have cc : (col : Int) < C := by omega
  go_enter Tryd.func115, Tryd.ntmps115
  go_wp2
  go_ret
  exact ⟨rfl, rfl⟩
/-- What the rows hold in a column. -/
def ColAt (w : World) (R off n col : Nat) (f : Nat → Int) : Prop :=
  ∀ i, i < n → ∃ b o c C, w.cell? ⟨R, off + i, none⟩ = some (.slice (some ⟨b, o, none⟩) C c) ∧ col < C ∧ w.cell? ⟨b, o + col, none⟩ = some (.int .i64 (f i))
set_option maxHeartbeats 4000000 in
set_option maxRecDepth 100000 in
theorem index_any (R off n cp K col : Nat) (f : Nat → Int) (w : World) (hn : n ≤ 100) (h1 : w.cell? ⟨K, 0, none⟩ = some (.int .i64 col)) (h2 : ColAt w R off n col f) :
    Calls Tryd.prog 114 #[.slice (some ⟨R, off, none⟩) n cp, Value.func (.func 115) #[] #[.pointer (some ⟨K, 0, none⟩)]] w fun e w' => w = w' ∧
      ((∃ i : Nat, e = .returned (.int .i64 i) ∧ i < n ∧ f i ≠ 0 ∧ ∀ j, j < i → f j = 0) ∨ (e = .returned (.int .i64 (-1)) ∧ ∀ j, j < n → f j = 0)) := by
  have H2 := mkHid h2
  clear h2
  go_enter Tryd.func114, Tryd.ntmps114
  go_wp2_with fail
  go_loop [8] (fun c => ∃ i : Nat, c = .int .i64 i ∧ i ≤ n ∧ Hid (∀ j, j < i → f j = 0)) (fun c => (n - intOf c).toNat)
  case atStart => exact ⟨0, rfl, by omega, mkHid (fun j hj => absurd hj (Nat.not_lt_zero j))⟩
  case round =>
    obtain ⟨i, rfl, hi, hz⟩ := hrel
    have e2 : IntKind.i64.wrap ((i : Int) + 1) = ((i + 1 : Nat) : Int) := IntWalk.i64_in _ (by omega)
    by_cases hlt : i < n
    · obtain ⟨b, o, c, C, k1, k2, k3⟩ := H2.out i hlt
      have ii : (i : Int) < n := by omega
      obtain ⟨v, hv⟩ : ∃ v, f i = v := ⟨_, rfl⟩
      rw [hv] at k3
      have HV := mkHid hv
      clear hv
      go_wp2_with fail
      refine (look_any b o c C K col v _ k2 h1 k3).mono ?_
      rintro e w' ⟨rfl, rfl⟩
      by_cases hv0 : v = 0
      · have hb : (v != 0) = false := by simp [hv0]
        rw [hb]
        clear hv0
        go_wp2
        go_round
        case rel => exact ⟨i + 1, rfl, by omega, mkHid (fun j hj => by
          rcases Nat.lt_or_ge j i with h | h
          · exact hz.out j h
          · obtain rfl : j = i := by omega
            rw [HV.out]; simpa using hb)⟩
        case measure => simp [intOf]; omega
      · have hb : (v != 0) = true := by simp [hv0]
        rw [hb]
        have HV0 := mkHid hv0
        clear hv0
        go_wp2
        go_ret
        exact ⟨rfl, .inl ⟨i, rfl, hlt, by rw [HV.out]; exact HV0.out, hz.out⟩⟩
    · obtain rfl : i = n := by omega
      go_wp2
      go_ret
      exact ⟨rfl, .inr ⟨rfl, hz.out⟩⟩
end Go.Proofs.YtbllanmhbfnagaaDoor
namespace Go.Proofs.YtbllanmhbfnagaaDoor
open Go.RowKit
def pvI (l : List Nat) : List Int := l.map (fun x : Nat => (x : Int))
theorem pvI_len (l : List Nat) : (pvI l).length = l.length := by simp [pvI]
theorem pvI_app (l m : List Nat) : pvI (l ++ m) = pvI l ++ pvI m := by simp [pvI]
theorem stepF_no {q : Int} {S : List (List Int)} {l : List Nat} {col : Nat} (h : pickF S col l.length = none) : stepF q (S, l) col = (S, l) := by
  unfold stepF
  simp only [h]
theorem stepF_yes {q : Int} {S : List (List Int)} {l : List Nat} {col a : Nat} (h : pickF S col l.length = some a) :
    stepF q (S, l) col = (elimF q l.length col (((S.set l.length (S.getD a [])).set a (S.getD l.length [])).set l.length (normR q (invI q ((S.getD a []).getD col 0)) (S.getD a []))), l ++ [col]) := by
  unfold stepF
  simp only [h]
theorem stepF_len (q : Int) (S : List (List Int) × List Nat) (col : Nat) : (stepF q S col).1.length = S.1.length := by
  obtain ⟨S, l⟩ := S
  cases h : pickF S col l.length with
  | none => rw [stepF_no h]
  | some a => rw [stepF_yes h, elimF_len, List.length_set, List.length_set, List.length_set]
theorem redF_len (q : Int) (M : List (List Int)) : ∀ n, (redF q M n).1.length = M.length
  | 0 => rfl
  | n + 1 => (stepF_len q _ n).trans (redF_len q M n)
theorem redF_piv (q : Int) (M : List (List Int)) : ∀ n, (redF q M n).2.length ≤ M.length ∧ (redF q M n).2.length ≤ n
  | 0 => ⟨Nat.zero_le _, Nat.zero_le _⟩
  | n + 1 => by
    have h := redF_piv q M n
    have hl := redF_len q M n
    show (stepF q (redF q M n) n).2.length ≤ M.length ∧ (stepF q (redF q M n) n).2.length ≤ n + 1
    obtain ⟨⟨S, l⟩, hS⟩ : ∃ S, redF q M n = S := ⟨_, rfl⟩
    rw [hS] at h hl ⊢
    cases hp : pickF S n l.length with
    | none => rw [stepF_no hp]; exact ⟨h.1, Nat.le_succ_of_le h.2⟩
    | some a =>
      rw [stepF_yes hp]
      have h1 := pickF_some hp
      have h2 : l.length ≤ n := h.2
      simp only [List.length_append, List.length_cons, List.length_nil] at hl ⊢
      omega
/-- What only newer blocks turn leaves the matrix. -/
theorem MatW.later {w w' : World} {B A R ro cap C S : Nat} {q cols : Int} {hs : List (Nat × Nat × Nat)} {M : List (List Int)} (h : MatW w B A R ro cap C q cols hs M) (hA : A < S) (hR : R < S) (hr : ∀ g, rowB hs g → g < S) (hb : Below S w w') : MatW w' B A R ro cap C q cols hs M :=
  ⟨⟨h.rows.top.of_block (hb.block R hR) hb.size, h.rows.len, fun i x hx => (h.rows.each i x hx).of_block (hb.block x.1 (hr x.1 ⟨x, List.mem_of_getElem? hx, rfl⟩)) hb.size, h.rows.wide, h.rows.dist, h.rows.apart⟩,
    (World.cell?_of_block (w := w) (a := ⟨A, 0, none⟩) (hb.block A hA)).trans h.cq, (World.cell?_of_block (w := w) (a := ⟨A, 1, none⟩) (hb.block A hA)).trans h.cr, (World.cell?_of_block (w := w) (a := ⟨A, 2, none⟩) (hb.block A hA)).trans h.cc, h.own, Nat.lt_of_lt_of_le h.lt hb.size, h.ar, h.ab⟩
theorem MatW.rlt {w : World} {B A R ro cap C : Nat} {q cols : Int} {hs : List (Nat × Nat × Nat)} {M : List (List Int)} (h : MatW w B A R ro cap C q cols hs M) : R < w.heap.size := h.rows.top.lt
theorem MatW.blt {w : World} {B A R ro cap C : Nat} {q cols : Int} {hs : List (Nat × Nat × Nat)} {M : List (List Int)} (h : MatW w B A R ro cap C q cols hs M) (g : Nat) (hg : rowB hs g) : g < w.heap.size := by
  obtain ⟨x, hx, rfl⟩ := hg
  obtain ⟨i, hi⟩ := List.mem_iff_getElem?.1 hx
  exact (h.rows.each i x hi).lt
/-- What only may turn blocks below S leaves a newer slice. -/
theorem OwnS.only {w w' : World} {S cap : Nat} {xs : List Value} {ao : Option Addr} {p : Nat → Prop} (h : OwnS w S cap xs ao) (ho : Only w w' p) (hp : ∀ g, p g → g < S) : OwnS w' S cap xs ao :=
  h.of_block (fun g hg hl => ho.block g hl (fun hh => by
    have h1 := hp g hh
    cases h with
    | nil => cases hg
    | «at» g' off h' =>
      obtain rfl : g' = g := Option.some.inj hg
      have := h'.own
      omega)) ho.size
/-- The rows from k on: what they hold in a column. -/
theorem MatW.colAt {w : World} {B A R ro cap C : Nat} {q cols : Int} {hs : List (Nat × Nat × Nat)} {M : List (List Int)} (h : MatW w B A R ro cap C q cols hs M) (k col off' : Nat) (hc : col < C) (hk : k ≤ M.length) (ho : k < cap → off' = ro + k) :
    ColAt w R off' (M.length - k) col (fun i => (M.getD (k + i) []).getD col 0) := by
  intro i hi
  have hle := h.rows.top.le
  rw [List.length_map, h.rows.len] at hle
  obtain rfl := ho (by omega)
  obtain ⟨b, o, c, hx, hh, _, _⟩ := h.row (k + i) (by omega)
  exact ⟨b, o, c, C, by rw [Nat.add_assoc]; exact hh, hc, h.cell hx col hc⟩
theorem rowB_swap {hs : List (Nat × Nat × Nat)} {a b : Nat} {x y : Nat × Nat × Nat} (hx : hs[a]? = some x) (hy : hs[b]? = some y) (g : Nat) (h : rowB ((hs.set a y).set b x) g) : rowB hs g := by
  obtain ⟨z, hz, rfl⟩ := h
  obtain ⟨i, hi⟩ := List.mem_iff_getElem?.1 hz
  rw [get_swap hs hx hy] at hi
  exact ⟨z, List.mem_of_getElem? hi, rfl⟩
theorem pick_none {M : List (List Int)} {col k : Nat} (h : ∀ j, j < M.length - k → (M.getD (k + j) []).getD col 0 = 0) : pickF M col k = none :=
  pickF_no fun i hk hi => by have := h (i - k) (by omega); rwa [show k + (i - k) = i by omega] at this
theorem pick_some {M : List (List Int)} {col k p : Nat} (h1 : p < M.length - k) (h2 : (M.getD (k + p) []).getD col 0 ≠ 0) (h3 : ∀ j, j < p → (M.getD (k + j) []).getD col 0 = 0) : pickF M col k = some (k + p) :=
  pickF_of (by omega) (by omega) h2 fun i hk hi => by have := h3 (i - k) (by omega); rwa [show k + (i - k) = i by omega] at this
theorem Only.cell {w w' : World} {p : Nat → Prop} (h : Only w w' p) {g : Nat} (k : Nat) (hg : g < w.heap.size) (hp : ¬ p g) : w'.cell? ⟨g, k, none⟩ = w.cell? ⟨g, k, none⟩ :=
  World.cell?_of_block (w := w) (a := ⟨g, k, none⟩) (h.block g hg hp)
/-- Of an older world. -/
theorem Only.old {w w' w'' : World} {p : Nat → Prop} (h : Only w w' p) (hb : Below w.heap.size w' w'') : Only w w'' p :=
  ⟨hb.os.trans h.os, hb.tape.trans h.tape, hb.output.trans h.output, Nat.le_trans h.size hb.size, fun g hg hp => (hb.block g hg).trans (h.block g hg hp)⟩
theorem below_drew (w : World) : Below w.heap.size w w.drew := ⟨rfl, rfl, rfl, Nat.le_refl _, fun _ _ => rfl⟩
theorem swap_n (S : List (List Int)) {n a : Nat} (hn : n < S.length) (ha : a < S.length) : ((S.set n (S.getD a [])).set a (S.getD n [])).getD n [] = S.getD a [] := by
  rw [getD_set _ _ _ _ _ (by rw [List.length_set]; exact ha)]
  split
  · rename_i h; rw [h]
  · rw [getD_set _ _ _ _ _ hn, if_pos rfl]
theorem set_self (M : List (List Int)) {n : Nat} {r : List Int} (hn : n < M.length) (h : M.getD n [] = r) : M.set n r = M := by
  apply List.ext_getElem?
  intro k
  rw [List.getElem?_set]
  by_cases e : n = k
  · subst e
    rw [if_pos rfl, if_pos hn, ← h, some_getD [] hn]
  · rw [if_neg e]
theorem inv_b (n a : Int) (w : World) :
    Calls Tryd.prog 20 #[.int .i64 n, .int .i64 a] w fun e w' => e = .returned (.tuple #[.int .i64 (invI n a), .bool (invB n a)]) ∧ Below w.heap.size w w' :=
  (inv_any n a w).mono fun _ _ ⟨a, b⟩ => ⟨a, drew_below b⟩
end Go.Proofs.YtbllanmhbfnagaaDoor
namespace Go.Proofs.YtbllanmhbfnagaaDoor
/-- The value of a polynomial; the lowest coefficient is the first. -/
def evP : List Int → Int → Int
  | [], _ => 0
  | c :: t, x => evP t x * x + c
/-- The values of all ends of a polynomial. -/
def endsP : List Int → Int → List Int
  | [], _ => []
  | c :: t, a => evP (c :: t) a :: endsP t a
theorem endsP_len : ∀ (t : List Int) (a : Int), (endsP t a).length = t.length
  | [], _ => rfl
  | c :: t, a => by simp [endsP, endsP_len t a]
theorem ends_div (x a : Int) : ∀ t : List Int, evP t x * x - evP t a * a = (x - a) * evP (endsP t a) x
  | [] => by simp [evP, endsP]
  | c :: t => by
    have ih := ends_div x a t
    simp only [endsP, evP]
    generalize evP (endsP t a) x = z at *
    generalize evP t x = y at *
    generalize evP t a = w at *
    grind
theorem ends_dvd {p a : Int} : ∀ t : List Int, (∀ y ∈ endsP t a, p ∣ y) → p ∣ evP t a ∧ ∀ b ∈ t, p ∣ b
  | [], _ => ⟨⟨0, by simp [evP]⟩, fun b hb => by cases hb⟩
  | c :: t, h => by
    have h1 := h (evP (c :: t) a) (List.mem_cons_self ..)
    obtain ⟨h2, h3⟩ := ends_dvd t (fun y hy => h y (List.mem_cons_of_mem _ hy))
    refine ⟨h1, fun b hb => ?_⟩
    rcases List.mem_cons.1 hb with rfl | hb
    · obtain ⟨u, hu⟩ := h1
      obtain ⟨v, hv⟩ := h2
      simp only [evP] at hu
      exact ⟨u - v * a, by rw [hv] at hu; grind⟩
    · exact h3 b hb
/-- Different modulo p, two by two. -/
def Diff (p : Int) : List Int → Prop
  | [] => True
  | a :: t => (∀ b ∈ t, ¬ p ∣ b - a) ∧ Diff p t
theorem roots {p : Int} (hp : ∀ x y : Int, p ∣ x * y → p ∣ x ∨ p ∣ y) : ∀ (ps d : List Int), d.length = ps.length → Diff p ps → (∀ a ∈ ps, p ∣ evP d a) → ∀ c ∈ d, p ∣ c
  | [], d, hl, _, _ => fun c hc => by rw [List.length_eq_zero_iff.1 hl] at hc; cases hc
  | a :: ps, [], hl, _, _ => by simp at hl
  | a :: ps, c :: t, hl, hd, hr => by
    have h0 := hr a List.mem_cons_self
    have h1 := roots hp ps (endsP t a) (by rw [endsP_len]; simpa using hl) hd.2 (fun b hb => by
      have hb1 := hr b (List.mem_cons_of_mem _ hb)
      have h2 : p ∣ (b - a) * evP (endsP t a) b := by
        rw [← ends_div]
        obtain ⟨u, hu⟩ := h0
        obtain ⟨v, hv⟩ := hb1
        simp only [evP] at hu hv
        exact ⟨v - u, by grind⟩
      rcases hp _ _ h2 with h3 | h3
      · exact absurd h3 (hd.1 b hb)
      · exact h3)
    obtain ⟨h2, h3⟩ := ends_dvd t h1
    intro b hb
    rcases List.mem_cons.1 hb with rfl | hb
    · obtain ⟨u, hu⟩ := h0
      obtain ⟨v, hv⟩ := h2
      simp only [evP] at hu
      exact ⟨u - v * a, by rw [hv] at hu; grind⟩
    · exact h3 b hb
theorem evP_sub (x : Int) : ∀ (u v : List Nat), u.length = v.length → evP (List.zipWith (fun (a b : Nat) => (a : Int) - b) u v) x = evP (pvI u) x - evP (pvI v) x
  | [], [], _ => by simp [evP, pvI]
  | [], _ :: _, h => by simp at h
  | _ :: _, [], h => by simp at h
  | a :: u, b :: v, h => by
    have ih := evP_sub x u v (by simpa using h)
    simp only [List.zipWith_cons_cons, evP]
    rw [ih]
    show _ = (evP (pvI u) x * x + (a : Int)) - (evP (pvI v) x * x + (b : Int))
    grind
theorem zip_zero {p : Nat} : ∀ (u v : List Nat), u.length = v.length → (∀ x ∈ u, x < p) → (∀ x ∈ v, x < p) → (∀ c ∈ List.zipWith (fun (a b : Nat) => (a : Int) - b) u v, (p : Int) ∣ c) → u = v
  | [], [], _, _, _, _ => rfl
  | [], _ :: _, h, _, _, _ => by simp at h
  | _ :: _, [], h, _, _, _ => by simp at h
  | a :: u, b :: v, h, hu, hv, hc => by
    have h1 := zip_zero u v (by simpa using h) (fun x hx => hu x (by simp [hx])) (fun x hx => hv x (by simp [hx])) (fun c hm => hc c (by simp [hm]))
    have h2 := hc ((a : Int) - b) (by simp)
    have ha := hu a (by simp)
    have hb := hv b (by simp)
    obtain ⟨k, hk⟩ := h2
    have : k = 0 := by
      rcases Int.lt_trichotomy k 0 with h3 | h3 | h3
      · have : (p : Int) * k ≤ p * (-1) := Int.mul_le_mul_of_nonneg_left (by omega) (by omega)
        omega
      · exact h3
      · have : (p : Int) * 1 ≤ p * k := Int.mul_le_mul_of_nonneg_left (by omega) (by omega)
        omega
    subst this
    rw [h1, show a = b by omega]
/-- The values at points, ps residues. -/
def valsP (p : Nat) (ps : List Int) (v : List Nat) : List Nat := ps.map (fun a => (evP (pvI v) a % p).toNat)
theorem vals_inj {p : Nat} (h0 : 0 < p) (hp : ∀ x y : Int, (p : Int) ∣ x * y → (p : Int) ∣ x ∨ (p : Int) ∣ y) {ps : List Int} (hd : Diff p ps) {u v : List Nat} (hu : u.length = ps.length) (hv : v.length = ps.length) (bu : ∀ x ∈ u, x < p) (bv : ∀ x ∈ v, x < p)
    (h : valsP p ps u = valsP p ps v) : u = v := by
  refine zip_zero u v (by omega) bu bv (roots hp ps _ (by simp; omega) hd (fun a ha => ?_))
  rw [evP_sub a u v (by omega)]
  have h1 := (List.map_inj_left.1 h) a ha
  have n1 := Int.emod_nonneg (evP (pvI u) a) (show (p : Int) ≠ 0 by omega)
  have n2 := Int.emod_nonneg (evP (pvI v) a) (show (p : Int) ≠ 0 by omega)
  have h2 : evP (pvI u) a % p = evP (pvI v) a % p := by omega
  obtain ⟨k, hk⟩ := dvd_sub_of_mod h2
  exact ⟨k, hk⟩
where
  dvd_sub_of_mod {x y p : Int} (h : x % p = y % p) : p ∣ x - y := Int.dvd_of_emod_eq_zero (by rw [Int.sub_emod, h, Int.sub_self]; exact Int.zero_emod p)
theorem sumN_mono {f g : Nat → Nat} : ∀ n, (∀ x, x < n → f x ≤ g x) → sumN n f ≤ sumN n g
  | 0, _ => Nat.le_refl _
  | n + 1, h => by simp only [sumN]; have := sumN_mono n (fun x hx => h x (by omega)); have := h n (by omega); omega
theorem sumV_mono {p : Nat} : ∀ (k : Nat) {f g : List Nat → Nat}, (∀ v, v.length = k → (∀ x ∈ v, x < p) → f v ≤ g v) → sumV p k f ≤ sumV p k g
  | 0, f, g, h => h [] rfl (fun x hx => by cases hx)
  | k + 1, f, g, h => by
    simp only [sumV]
    refine sumN_mono p (fun a ha => sumV_mono k (fun t ht hl => h (a :: t) (by simp [ht]) (fun x hx => ?_)))
    rcases List.mem_cons.1 hx with rfl | hx
    · exact ha
    · exact hl x hx
theorem sumN_eq {f g : Nat → Nat} : ∀ n, (∀ x, x < n → f x ≤ g x) → sumN n f = sumN n g → ∀ x, x < n → f x = g x
  | 0, _, _ => fun x hx => absurd hx (Nat.not_lt_zero x)
  | n + 1, h, he => fun x hx => by
    simp only [sumN] at he
    have h1 := sumN_mono n (fun x hx => h x (by omega))
    have h2 := h n (by omega)
    by_cases e : x = n
    · subst e; omega
    · exact sumN_eq n (fun x hx => h x (by omega)) (by omega) x (by omega)
theorem sumV_eq {p : Nat} : ∀ (k : Nat) {f g : List Nat → Nat}, (∀ v, v.length = k → (∀ x ∈ v, x < p) → f v ≤ g v) → sumV p k f = sumV p k g → ∀ v, v.length = k → (∀ x ∈ v, x < p) → f v = g v
  | 0, f, g, _, he => fun v hv _ => by rw [List.length_eq_zero_iff.1 hv]; exact he
  | k + 1, f, g, h, he => fun v hv hl => by
    cases v with
    | nil => simp at hv
    | cons a t =>
      simp only [sumV] at he
      have hle : ∀ a, a < p → ∀ t, t.length = k → (∀ x ∈ t, x < p) → f (a :: t) ≤ g (a :: t) := fun a ha t ht hl => h (a :: t) (by simp [ht]) (fun x hx => by
        rcases List.mem_cons.1 hx with rfl | hx
        · exact ha
        · exact hl x hx)
      have ha : a < p := hl a (List.mem_cons_self ..)
      have h1 := sumN_eq p (fun a ha => sumV_mono k (hle a ha)) he a ha
      exact sumV_eq k (hle a ha) h1 t (by simpa using hv) (fun x hx => hl x (List.mem_cons_of_mem _ hx))
theorem sumV_sumV (p : Nat) (k : Nat) : ∀ (m : Nat) (f : List Nat → List Nat → Nat), sumV p m (fun u => sumV p k (fun v => f u v)) = sumV p k (fun v => sumV p m (fun u => f u v))
  | 0, f => rfl
  | m + 1, f => by
    simp only [sumV]
    rw [show sumV p k (fun v => sumN p (fun a => sumV p m (fun t => f (a :: t) v))) = _ from sumV_swap p p k _]
    exact sumN_cong p (fun a _ => sumV_sumV p k m (fun t v => f (a :: t) v))
theorem sumV_ind (p : Nat) : ∀ (k : Nat) (u : List Nat), u.length = k → (∀ x ∈ u, x < p) → sumV p k (fun v => (decide (u = v)).toNat) = 1
  | 0, u, hu, _ => by rw [List.length_eq_zero_iff.1 hu]; rfl
  | k + 1, [], hu, _ => by simp at hu
  | k + 1, a :: u, hu, hl => by
    simp only [sumV]
    have ih := sumV_ind p k u (by simpa using hu) (fun x hx => hl x (List.mem_cons_of_mem _ hx))
    have : ∀ b, b < p → sumV p k (fun t => (decide (a :: u = b :: t)).toNat) = (decide (b = a)).toNat := fun b _ => by
      by_cases e : b = a
      · subst e
        rw [decide_eq_true rfl]
        refine Eq.trans (sumV_cong k (fun v _ _ => ?_)) ih
        congr 1
        simp
      · rw [decide_eq_false e]
        have h0 : sumV p k (fun _ => 0) = 0 := by have := sumV_mul p 0 k (fun _ => 0); simpa using this
        refine Eq.trans (sumV_cong k (fun v _ _ => ?_)) h0
        rw [decide_eq_false (fun h => e (by injection h with h1 _; exact h1.symm))]; rfl
    rw [sumN_cong p this]
    exact sumN_one (a := a) (hl a (List.mem_cons_self ..)) (fun x _ => by rw [decide_eq_true_eq])
/-- Exactly one polynomial has the given values. -/
theorem one_poly {p : Nat} (h0 : 0 < p) (hp : ∀ x y : Int, (p : Int) ∣ x * y → (p : Int) ∣ x ∨ (p : Int) ∣ y) {ps : List Int} (hd : Diff p ps) (w : List Nat) (hw : w.length = ps.length) (bw : ∀ x ∈ w, x < p) :
    sumV p ps.length (fun v => (decide (valsP p ps v = w)).toNat) = 1 := by
  have hbox : ∀ v : List Nat, (valsP p ps v).length = ps.length ∧ ∀ x ∈ valsP p ps v, x < p := fun v => ⟨by simp [valsP], fun x hx => by
    obtain ⟨a, _, rfl⟩ := List.mem_map.1 hx
    have := emod_bd (evP (pvI v) a) p (by omega)
    omega⟩
  have hsum : sumV p ps.length (fun w => sumV p ps.length (fun v => (decide (valsP p ps v = w)).toNat)) = sumV p ps.length (fun _ => 1) := by
    rw [sumV_sumV]
    exact sumV_cong _ (fun v _ _ => sumV_ind p _ _ (hbox v).1 (hbox v).2)
  refine sumV_eq ps.length (g := fun _ => 1) (fun w hw bw => ?_) hsum w hw bw
  by_cases he : ∃ v : List Nat, v.length = ps.length ∧ (∀ x ∈ v, x < p) ∧ valsP p ps v = w
  · obtain ⟨u, hu, bu, eu⟩ := he
    rw [← sumV_ind p ps.length u hu bu]
    refine sumV_mono _ (fun v hv bv => ?_)
    by_cases e : valsP p ps v = w
    · rw [vals_inj h0 hp hd hu hv bu bv (eu.trans e.symm)]
      simp [e]
    · rw [decide_eq_false e]; exact Nat.zero_le _
  · have h0 : sumV p ps.length (fun _ => 0) = 0 := by have := sumV_mul p 0 ps.length (fun _ => 0); simpa using this
    rw [sumV_cong ps.length (g := fun _ => 0) (fun v hv bv => by rw [decide_eq_false (fun e => he ⟨v, hv, bv, e⟩)]; rfl), h0]
    exact Nat.zero_le _
end Go.Proofs.YtbllanmhbfnagaaDoor
namespace Go.Proofs.YtbllanmhbfnagaaDoor
/-- The product of a row and a vector, over the first k columns. -/
def dotN (r v : List Int) : Nat → Int
  | 0 => 0
  | k + 1 => dotN r v k + r.getD k 0 * v.getD k 0
/-- A vector meets a row of C coefficients and a right side. -/
def Van (q : Int) (C : Nat) (r : List Int) (v : List Int) : Prop := q ∣ dotN r v C - r.getD C 0
instance (q : Int) (C : Nat) (r : List Int) (v : List Int) : Decidable (Van q C r v) := inferInstanceAs (Decidable (_ ∣ _))
theorem dvd_emod_sub (q x : Int) : q ∣ x % q - x := ⟨-(x / q), by have := Int.emod_add_mul_ediv x q; rw [Int.mul_neg]; omega⟩
theorem dot_lin {q a b : Int} {s r p : List Int} {v : List Int} : ∀ (k : Nat), (∀ j, j < k → q ∣ s.getD j 0 - (a * r.getD j 0 + b * p.getD j 0)) → q ∣ dotN s v k - (a * dotN r v k + b * dotN p v k)
  | 0, _ => by simp [dotN]
  | k + 1, h => by
    have h1 := dot_lin (v := v) k (fun j hj => h j (Nat.lt_succ_of_lt hj))
    obtain ⟨c, hc⟩ := h1
    obtain ⟨d, hd⟩ := h k (Nat.lt_succ_self k)
    refine ⟨c + d * v.getD k 0, ?_⟩
    simp only [dotN]
    generalize v.getD k 0 = y at *
    generalize s.getD k 0 = s0 at *
    generalize r.getD k 0 = r0 at *
    generalize p.getD k 0 = p0 at *
    grind
theorem van_lin {q a b : Int} {s r p : List Int} {v : List Int} {C : Nat} (h : ∀ j, j < C + 1 → q ∣ s.getD j 0 - (a * r.getD j 0 + b * p.getD j 0)) :
    q ∣ (dotN s v C - s.getD C 0) - (a * (dotN r v C - r.getD C 0) + b * (dotN p v C - p.getD C 0)) := by
  obtain ⟨c, hc⟩ := dot_lin (v := v) C (fun j hj => h j (Nat.lt_succ_of_lt hj))
  obtain ⟨d, hd⟩ := h C (Nat.lt_succ_self C)
  refine ⟨c - d, ?_⟩
  generalize s.getD C 0 = s0 at *
  generalize r.getD C 0 = r0 at *
  generalize p.getD C 0 = p0 at *
  grind
theorem van_less {q t : Int} {r p : List Int} {v : List Int} {C : Nat} (hq : modB q = true) (hr : r.length = C + 1) (hp : Van q C p v) : Van q C (lessR q t r p) v ↔ Van q C r v := by
  have h := van_lin (q := q) (a := 1) (b := -t) (s := lessR q t r p) (r := r) (p := p) (v := v) (C := C) (fun j hj => by
    rw [lessR_at q t r p j (by omega), subI_of hq, mulI_of hq]
    obtain ⟨c, hc⟩ := dvd_emod_sub q (r.getD j 0 - t * p.getD j 0 % q)
    obtain ⟨d, hd⟩ := dvd_emod_sub q (t * p.getD j 0)
    refine ⟨c - d, ?_⟩
    rw [Int.neg_mul, Int.one_mul, Int.mul_sub]
    generalize t * p.getD j 0 = z at *
    omega)
  obtain ⟨c, hc⟩ := h
  obtain ⟨d, hd⟩ := hp
  unfold Van
  generalize dotN (lessR q t r p) v C - (lessR q t r p).getD C 0 = x at *
  generalize dotN r v C - r.getD C 0 = y at *
  generalize dotN p v C - p.getD C 0 = z at *
  subst hd
  constructor
  · rintro ⟨e, rfl⟩
    exact ⟨e - c + t * d, by grind⟩
  · rintro ⟨e, rfl⟩
    exact ⟨e + c - t * d, by grind⟩
theorem van_norm {q x inv : Int} {r : List Int} {v : List Int} {C : Nat} (hq : modB q = true) (hr : r.length = C + 1) (hx : x * inv % q = 1 % q) : Van q C (normR q inv r) v ↔ Van q C r v := by
  have h := van_lin (q := q) (a := inv) (b := 0) (s := normR q inv r) (r := r) (p := r) (v := v) (C := C) (fun j hj => by
    rw [normR_at q inv r j (by omega), mulI_of hq]
    obtain ⟨c, hc⟩ := dvd_emod_sub q (r.getD j 0 * inv)
    exact ⟨c, by grind⟩)
  obtain ⟨c, hc⟩ := h
  have h1 : q ∣ x * inv - 1 := Int.dvd_of_emod_eq_zero (by rw [Int.sub_emod, hx, Int.sub_self]; exact Int.zero_emod q)
  obtain ⟨d, hd⟩ := h1
  unfold Van
  generalize dotN (normR q inv r) v C - (normR q inv r).getD C 0 = y at *
  generalize dotN r v C - r.getD C 0 = z at *
  constructor
  · rintro ⟨e, rfl⟩
    exact ⟨x * (e - c) - d * z, by grind⟩
  · rintro ⟨e, rfl⟩
    exact ⟨inv * e + c, by grind⟩
/-- The reduced form of the first n columns. -/
structure Red (q : Int) (C n : Nat) (M : List (List Int)) (pl : List Nat) : Prop where
  le : pl.length ≤ M.length
  wide : ∀ i, i < M.length → (M.getD i []).length = C + 1
  bd : ∀ i j, 0 ≤ (M.getD i []).getD j 0 ∧ (M.getD i []).getD j 0 < q
  lt : ∀ i, i < pl.length → pl.getD i 0 < n
  up : ∀ i j, i < j → j < pl.length → pl.getD i 0 < pl.getD j 0
  unit : ∀ i, i < pl.length → ∀ k, k < M.length → (M.getD k []).getD (pl.getD i 0) 0 = if k = i then 1 else 0
  zero : ∀ i, pl.length ≤ i → i < M.length → ∀ j, j < n → (M.getD i []).getD j 0 = 0
theorem getD_out {l : List Int} {j : Nat} (h : l.length ≤ j) : l.getD j 0 = 0 := by rw [List.getD, List.getElem?_eq_none h]; rfl
theorem norm_get {q inv : Int} {r : List Int} (hq : modB q = true) (j : Nat) : (normR q inv r).getD j 0 = r.getD j 0 * inv % q := by
  by_cases h : j < r.length
  · rw [normR_at q inv r j h, mulI_of hq]
  · have h1 : (normR q inv r).getD j 0 = 0 := by simp [List.getD, List.getElem?_eq_none (show (normR q inv r).length ≤ j by rw [normR_len]; omega)]
    have h2 : r.getD j 0 = 0 := by simp [List.getD, List.getElem?_eq_none (show r.length ≤ j by omega)]
    rw [h1, h2, Int.zero_mul, Int.zero_emod]
theorem less_get {q t : Int} {r p : List Int} (hq : modB q = true) (j : Nat) (hj : j < r.length) : (lessR q t r p).getD j 0 = (r.getD j 0 - t * p.getD j 0) % q := by
  rw [lessR_at q t r p j hj, subI_of hq, mulI_of hq, sub_mod_r]
theorem less_out {q t : Int} {r p : List Int} (j : Nat) (hj : ¬ j < r.length) : (lessR q t r p).getD j 0 = 0 := by
  simp [List.getD, List.getElem?_eq_none (show (lessR q t r p).length ≤ j by rw [lessR_len]; omega)]
/-- The row that comes to i where a and k are exchanged, k itself left out. -/
def swk (a k i : Nat) : Nat := if i = a then k else i
theorem swk_a (a k : Nat) : swk a k a = k := if_pos rfl
theorem swk_o {a k i : Nat} (h : i ≠ a) : swk a k i = i := if_neg h
theorem swk_lt {a k i n : Nat} (hk : k < n) (hi : i < n) : swk a k i < n := by unfold swk; split <;> assumption
/-- One step with a pivot, row by row. -/
theorem step_rows {q : Int} {M : List (List Int)} {pl : List Nat} {n a : Nat} (h : pickF M n pl.length = some a) :
    ∃ nr, nr = normR q (invI q ((M.getD a []).getD n 0)) (M.getD a []) ∧ (stepF q (M, pl) n).2 = pl ++ [n] ∧ (stepF q (M, pl) n).1.length = M.length ∧
      (stepF q (M, pl) n).1.getD pl.length [] = nr ∧
      ∀ i, i < M.length → i ≠ pl.length → (stepF q (M, pl) n).1.getD i [] = if (M.getD (swk a pl.length i) []).getD n 0 = 0 then M.getD (swk a pl.length i) [] else
        lessR q ((M.getD (swk a pl.length i) []).getD n 0) (M.getD (swk a pl.length i) []) nr := by
  obtain ⟨h1, h2, h3, h4⟩ := pickF_some h
  refine ⟨_, rfl, by rw [stepF_yes h], stepF_len q (M, pl) n, ?_, ?_⟩
  · rw [stepF_yes h]
    dsimp only
    rw [elimF_k _ _ _ _ (by simp; omega), getD_set _ _ _ _ _ (by simp; omega), if_pos rfl]
  · intro i hi hk
    rw [stepF_yes h]
    dsimp only
    have e1 : ((((M.set pl.length (M.getD a [])).set a (M.getD pl.length [])).set pl.length (normR q (invI q ((M.getD a []).getD n 0)) (M.getD a []))).getD i []) = M.getD (swk a pl.length i) [] := by
      rw [getD_set _ _ _ _ _ (by simp; omega), if_neg (fun e => hk e.symm), getD_set _ _ _ _ _ (by simp; omega)]
      by_cases e : i = a
      · rw [if_pos e.symm, e, swk_a]
      · rw [if_neg (fun x => e x.symm), swk_o e, getD_set _ _ _ _ _ (by omega), if_neg (fun x => hk x.symm)]
    rw [elimF_at _ _ _ _ _ (by simp; omega), e1]
    have e2 : ((((M.set pl.length (M.getD a [])).set a (M.getD pl.length [])).set pl.length (normR q (invI q ((M.getD a []).getD n 0)) (M.getD a []))).getD pl.length []) = normR q (invI q ((M.getD a []).getD n 0)) (M.getD a []) := by
      rw [getD_set _ _ _ _ _ (by simp; omega), if_pos rfl]
    rw [e2]
    by_cases e : (M.getD (swk a pl.length i) []).getD n 0 = 0
    · rw [if_pos (.inr e), if_pos e]
    · rw [if_neg (fun x => x.elim hk e), if_neg e]
theorem getD_app_list {pl : List Nat} {n i : Nat} (h : i < pl.length) : (pl ++ [n]).getD i 0 = pl.getD i 0 := by
  simp only [List.getD]; rw [List.getElem?_append_left h]
theorem getD_app_end {pl : List Nat} {n : Nat} : (pl ++ [n]).getD pl.length 0 = n := by simp [List.getD]
theorem Red.step {q : Int} {C n : Nat} {M : List (List Int)} {pl : List Nat} (h : Red q C n M pl) (hq : modB q = true) (h2 : 2 ≤ q) (hn : n < C + 1) (hu : ∀ x, 0 < x → x < q → invB q x = true) :
    Red q C (n + 1) (stepF q (M, pl) n).1 (stepF q (M, pl) n).2 := by
  cases hp : pickF M n pl.length with
  | none =>
    rw [stepF_no hp]
    refine ⟨h.le, h.wide, h.bd, fun i hi => Nat.lt_succ_of_lt (h.lt i hi), h.up, h.unit, fun i h1 h2 j hj => ?_⟩
    by_cases e : j = n
    · subst e; exact pickF_none hp i h1 h2
    · exact h.zero i h1 h2 j (by omega)
  | some a =>
    obtain ⟨a1, a2, a3, a4⟩ := pickF_some hp
    obtain ⟨nr, hnr, s2, sl, sk, si⟩ := step_rows (q := q) hp
    have hx := h.bd a n
    have hi := inv_facts q ((M.getD a []).getD n 0) hq
    have hxi := hi.2.2.1 (hu _ (by omega) hx.2)
    rw [mulI_of hq, one_mod h2] at hxi
    have hnj : ∀ j, nr.getD j 0 = (M.getD a []).getD j 0 * invI q ((M.getD a []).getD n 0) % q := fun j => by rw [hnr]; exact norm_get hq j
    have hnn : nr.getD n 0 = 1 := by rw [hnj, hxi]
    have hnz : ∀ j, (M.getD a []).getD j 0 = 0 → nr.getD j 0 = 0 := fun j hj => by rw [hnj, hj, Int.zero_mul, Int.zero_emod]
    have hk0 : pl.length < M.length := by omega
    have hsl : ∀ i, i < M.length → (swk a pl.length i) < M.length := fun i hi => swk_lt hk0 hi
    have hcol : ∀ i, i < M.length → i ≠ pl.length → ((stepF q (M, pl) n).1.getD i []).getD n 0 = 0 := fun i hi hk => by
      rw [si i hi hk]
      split
      · assumption
      · rw [less_get hq n (by rw [h.wide _ (hsl i hi)]; exact hn), hnn, Int.mul_one, Int.sub_self, Int.zero_emod]
    have hold : ∀ i j, i < M.length → i ≠ pl.length → nr.getD j 0 = 0 → ((stepF q (M, pl) n).1.getD i []).getD j 0 = (M.getD (swk a pl.length i) []).getD j 0 := fun i j hi hk hz => by
      rw [si i hi hk]
      split
      · rfl
      · by_cases hj : j < (M.getD (swk a pl.length i) []).length
        · rw [less_get hq j hj, hz, Int.mul_zero, Int.sub_zero]
          have := h.bd (swk a pl.length i) j
          exact Int.emod_eq_of_lt this.1 this.2
        · rw [less_out j hj, getD_out (Nat.le_of_not_lt hj)]
    rw [s2]
    have hl : (pl ++ [n]).length = pl.length + 1 := by simp
    refine ⟨by rw [hl, sl]; omega, ?_, ?_, ?_, ?_, ?_, ?_⟩
    · intro i hi
      rw [sl] at hi
      by_cases hk : i = pl.length
      · rw [hk, sk, hnr, normR_len]; exact h.wide a a2
      · rw [si i hi hk]
        split
        · exact h.wide _ (hsl i hi)
        · rw [lessR_len]; exact h.wide _ (hsl i hi)
    · intro i j
      by_cases hi : i < M.length
      · by_cases hk : i = pl.length
        · rw [hk, sk, hnj]; exact emod_bd _ _ (by omega)
        · rw [si i hi hk]
          split
          · exact h.bd _ j
          · by_cases hj : j < (M.getD (swk a pl.length i) []).length
            · rw [less_get hq j hj]; exact emod_bd _ _ (by omega)
            · rw [less_out j hj]; omega
      · have : (stepF q (M, pl) n).1.getD i [] = [] := by simp [List.getD, List.getElem?_eq_none (show (stepF q (M, pl) n).1.length ≤ i by rw [sl]; omega)]
        rw [this]
        simp [List.getD]; omega
    · intro i hi
      rw [hl] at hi
      by_cases e : i < pl.length
      · rw [getD_app_list e]; have := h.lt i e; omega
      · obtain rfl : i = pl.length := by omega
        rw [getD_app_end]; omega
    · intro i j hij hj
      rw [hl] at hj
      by_cases e : j < pl.length
      · rw [getD_app_list e, getD_app_list (by omega)]; exact h.up i j hij e
      · obtain rfl : j = pl.length := by omega
        rw [getD_app_end, getD_app_list hij]; exact h.lt i hij
    · intro i hi k hk
      rw [hl] at hi
      rw [sl] at hk
      by_cases e : i < pl.length
      · rw [getD_app_list e]
        have hac : nr.getD (pl.getD i 0) 0 = 0 := hnz _ (by rw [h.unit i e a a2, if_neg (by omega)])
        by_cases ek : k = pl.length
        · rw [ek, sk, hac, if_neg (by omega)]
        · rw [hold k _ hk ek hac, h.unit i e _ (swk_lt hk0 hk)]
          by_cases e1 : k = a
          · rw [e1, swk_a, if_neg (by omega), if_neg (by omega)]
          · rw [swk_o e1]
      · obtain rfl : i = pl.length := by omega
        rw [getD_app_end]
        by_cases ek : k = pl.length
        · rw [ek, sk, hnn, if_pos rfl]
        · rw [hcol k hk ek, if_neg ek]
    · intro i h1 h2 j hj
      rw [hl] at h1
      rw [sl] at h2
      by_cases e : j = n
      · rw [e]; exact hcol i h2 (by omega)
      · have hz := h.zero a a1 a2 j (by omega)
        rw [hold i j h2 (by omega) (hnz j hz)]
        exact h.zero _ (by unfold swk; split <;> omega) (hsl i h2) j (by omega)
/-- A step leaves what meets all rows. -/
theorem step_van {q : Int} {C n : Nat} {M : List (List Int)} {pl : List Nat} (h : Red q C n M pl) (hq : modB q = true) (h2 : 2 ≤ q) (hn : n < C + 1) (hu : ∀ x, 0 < x → x < q → invB q x = true) (v : List Int) :
    (∀ i, i < M.length → Van q C ((stepF q (M, pl) n).1.getD i []) v) ↔ (∀ i, i < M.length → Van q C (M.getD i []) v) := by
  cases hp : pickF M n pl.length with
  | none => rw [stepF_no hp]
  | some a =>
    obtain ⟨a1, a2, a3, a4⟩ := pickF_some hp
    obtain ⟨nr, hnr, s2, sl, sk, si⟩ := step_rows (q := q) hp
    have hx := h.bd a n
    have hi := inv_facts q ((M.getD a []).getD n 0) hq
    have hxi := hi.2.2.1 (hu _ (by omega) hx.2)
    rw [mulI_of hq] at hxi
    have hN : Van q C nr v ↔ Van q C (M.getD a []) v := by rw [hnr]; exact van_norm hq (h.wide a a2) hxi
    have hk0 : pl.length < M.length := by omega
    have hsl : ∀ i, i < M.length → (swk a pl.length i) < M.length := fun i hi => swk_lt hk0 hi
    have hrow : Van q C nr v → ∀ i, i < M.length → i ≠ pl.length → (Van q C ((stepF q (M, pl) n).1.getD i []) v ↔ Van q C (M.getD (swk a pl.length i) []) v) := fun hv i hi hk => by
      rw [si i hi hk]
      split
      · exact Iff.rfl
      · exact van_less hq (h.wide _ (hsl i hi)) hv
    constructor
    · intro hall i hi
      have hv : Van q C nr v := by have := hall pl.length (by omega); rwa [sk] at this
      by_cases e : i = a
      · rw [e]; exact hN.1 hv
      · by_cases ek : i = pl.length
        · have := (hrow hv a a2 (by omega)).1 (hall a a2)
          rw [swk_a] at this
          rw [ek]; exact this
        · have := (hrow hv i hi ek).1 (hall i hi)
          rwa [swk_o e] at this
    · intro hall i hi
      have hv : Van q C nr v := hN.2 (hall a a2)
      by_cases ek : i = pl.length
      · rw [ek, sk]; exact hv
      · exact (hrow hv i hi ek).2 (hall _ (hsl i hi))
theorem redF_red {q : Int} {C : Nat} {M : List (List Int)} (hw : ∀ i, i < M.length → (M.getD i []).length = C + 1) (hb : ∀ i j, 0 ≤ (M.getD i []).getD j 0 ∧ (M.getD i []).getD j 0 < q) (hq : modB q = true) (h2 : 2 ≤ q) (hu : ∀ x, 0 < x → x < q → invB q x = true) :
    ∀ n, n ≤ C + 1 → Red q C n (redF q M n).1 (redF q M n).2 ∧ ∀ v, (∀ i, i < M.length → Van q C ((redF q M n).1.getD i []) v) ↔ (∀ i, i < M.length → Van q C (M.getD i []) v)
  | 0, _ => ⟨⟨Nat.zero_le _, hw, hb, fun i hi => absurd hi (Nat.not_lt_zero i), fun i j _ hj => absurd hj (Nat.not_lt_zero j), fun i hi => absurd hi (Nat.not_lt_zero i), fun i _ _ j hj => absurd hj (Nat.not_lt_zero j)⟩, fun v => Iff.rfl⟩
  | n + 1, hn => by
    obtain ⟨h1, h3⟩ := redF_red hw hb hq h2 hu n (by omega)
    refine ⟨h1.step hq h2 (by omega) hu, fun v => ?_⟩
    have h4 := step_van h1 hq h2 (by omega) hu v
    rw [redF_len] at h4
    exact h4.trans (h3 v)
end Go.Proofs.YtbllanmhbfnagaaDoor
namespace Go.Proofs.YtbllanmhbfnagaaDoor
theorem pvI_set (v : List Nat) (c x : Nat) : pvI (v.set c x) = (pvI v).set c (x : Int) := by simp [pvI, List.map_set]
theorem dot_set (r v : List Int) (c : Nat) (x : Int) (hc : c < v.length) : ∀ k, dotN r (v.set c x) k = dotN r v k + if c < k then r.getD c 0 * (x - v.getD c 0) else 0
  | 0 => by simp [dotN]
  | k + 1 => by
    simp only [dotN]
    rw [dot_set r v c x hc k, getD_set _ _ _ _ _ hc]
    by_cases e : c = k
    · subst e
      rw [if_pos rfl, if_neg (Nat.lt_irrefl c), if_pos (Nat.lt_succ_self c)]
      grind
    · rw [if_neg e]
      by_cases h : c < k
      · rw [if_pos h, if_pos (by omega)]; omega
      · rw [if_neg h, if_neg (by omega)]; omega
theorem van_set {q : Int} {C c : Nat} {r v : List Int} {x : Int} (hc : c < v.length) (hr : r.getD c 0 = 0) : Van q C r (v.set c x) ↔ Van q C r v := by
  unfold Van
  rw [dot_set r v c x hc, hr, Int.zero_mul, ite_self, Int.add_zero]
/-- The first r rows are met. -/
def preB (q : Int) (C : Nat) (M : List (List Int)) (v : List Int) (r : Nat) : Bool := (List.range r).all (fun i => decide (Van q C (M.getD i []) v))
theorem preB_succ (q : Int) (C : Nat) (M : List (List Int)) (v : List Int) (r : Nat) : preB q C M v (r + 1) = (preB q C M v r && decide (Van q C (M.getD r []) v)) := by
  simp [preB, List.range_succ]
theorem preB_iff {q : Int} {C : Nat} {M : List (List Int)} {v : List Int} {r : Nat} : preB q C M v r = true ↔ ∀ i, i < r → Van q C (M.getD i []) v := by
  simp [preB]
theorem one_meets {p : Nat} (hp : 0 < p) (D : Int) : sumN p (fun x => (decide ((p : Int) ∣ D + (x : Int))).toNat) = 1 := by
  have h0 := Int.emod_nonneg (-D) (show (p : Int) ≠ 0 by omega)
  have h1 := Int.emod_lt_of_pos (-D) (show (0 : Int) < p by omega)
  refine sumN_one (a := ((-D) % p).toNat) (by omega) (fun x hx => ?_)
  rw [decide_eq_true_eq]
  constructor
  · intro h
    have : (-D) % p = (x : Int) := by
      obtain ⟨k, hk⟩ := h
      rw [show -D = (x : Int) + p * (-k) by grind, Int.add_mul_emod_self_left]
      exact Int.emod_eq_of_lt (by omega) (by omega)
    omega
  · intro h
    have h2 : (x : Int) = (-D) % p := by omega
    rw [h2]
    obtain ⟨k, hk⟩ := dvd_emod_sub p (-D)
    exact ⟨k, by omega⟩
theorem count_step {p C : Nat} {M : List (List Int)} {pl : List Nat} (h : Red (p : Int) C C M pl) (hp : 0 < p) {r : Nat} (hr : r < pl.length) (v : List Nat) (hv : v.length = C) :
    sumN p (fun x => (preB p C M (pvI (v.set (pl.getD r 0) x)) (r + 1)).toNat) = (preB p C M (pvI v) r).toNat := by
  have hc := h.lt r hr
  have hcl : pl.getD r 0 < (pvI v).length := by rw [pvI_len, hv]; exact hc
  have hpre : ∀ x : Nat, preB p C M (pvI (v.set (pl.getD r 0) x)) r = preB p C M (pvI v) r := fun x => by
    rw [Bool.eq_iff_iff, preB_iff, preB_iff]
    refine forall_congr' (fun i => forall_congr' (fun hi => ?_))
    rw [pvI_set]
    exact van_set hcl (by rw [h.unit r hr i (by have := h.le; omega), if_neg (by omega)])
  have hone : ∀ x : Nat, preB p C M (pvI (v.set (pl.getD r 0) x)) (r + 1) = (preB p C M (pvI v) r && decide ((p : Int) ∣ (dotN (M.getD r []) (pvI v) C - (pvI v).getD (pl.getD r 0) 0 - (M.getD r []).getD C 0) + (x : Int))) := fun x => by
    rw [preB_succ, hpre x]
    congr 1
    refine decide_eq_decide.2 ?_
    unfold Van
    rw [pvI_set, dot_set _ _ _ _ hcl, if_pos hc, h.unit r hr r (by have := h.le; omega), if_pos rfl]
    rw [show dotN (M.getD r []) (pvI v) C + 1 * ((x : Int) - (pvI v).getD (pl.getD r 0) 0) - (M.getD r []).getD C 0 = dotN (M.getD r []) (pvI v) C - (pvI v).getD (pl.getD r 0) 0 - (M.getD r []).getD C 0 + (x : Int) by omega]
  rw [sumN_cong p (fun x _ => congrArg Bool.toNat (hone x))]
  cases preB p C M (pvI v) r with
  | false => simp only [Bool.false_and, Bool.toNat_false]; exact sumN_zero p
  | true => simp only [Bool.true_and, Bool.toNat_true]; exact one_meets hp _
theorem count_pre {p C : Nat} {M : List (List Int)} {pl : List Nat} (h : Red (p : Int) C C M pl) (hp : 0 < p) : ∀ r, r ≤ pl.length → p ^ r * sumV p C (fun v => (preB p C M (pvI v) r).toNat) = p ^ C
  | 0, _ => by
    rw [Nat.pow_zero, Nat.one_mul, ← sumV_one p C]
    exact sumV_cong C (fun v _ _ => rfl)
  | r + 1, hr => by
    have h1 := count_pre h hp r (by omega)
    have h2 := sumV_avg p C (pl.getD r 0) (fun v => (preB p C M (pvI v) (r + 1)).toNat) (h.lt r hr)
    rw [Nat.pow_succ, Nat.mul_assoc, ← h2, ← h1]
    congr 1
    exact sumV_cong C (fun v hv _ => count_step h hp hr v hv)
/-- Nothing but zeros on the right behind the pivots' rows. -/
def noneB (M : List (List Int)) (k C : Nat) : Bool := (List.range (M.length - k)).all (fun i => (M.getD (k + i) []).getD C 0 == 0)
theorem noneB_iff {M : List (List Int)} {k C : Nat} : noneB M k C = true ↔ ∀ i, k ≤ i → i < M.length → (M.getD i []).getD C 0 = 0 := by
  unfold noneB
  rw [List.all_eq_true]
  constructor
  · intro h i h1 h2
    have := h (i - k) (List.mem_range.2 (by omega))
    rw [show k + (i - k) = i by omega] at this
    simpa using this
  · intro h i hi
    have := List.mem_range.1 hi
    simpa using h (k + i) (by omega) (by omega)
theorem dot_zero {r v : List Int} : ∀ (k : Nat), (∀ j, j < k → r.getD j 0 = 0) → dotN r v k = 0
  | 0, _ => rfl
  | k + 1, h => by rw [dotN, dot_zero k (fun j hj => h j (by omega)), h k (by omega)]; simp
theorem all_pre {q : Int} {C : Nat} {M : List (List Int)} {pl : List Nat} (h : Red q C C M pl) (hn : noneB M pl.length C = true) (v : List Int) : preB q C M v M.length = preB q C M v pl.length := by
  rw [Bool.eq_iff_iff, preB_iff, preB_iff]
  constructor
  · intro hh i hi; exact hh i (by have := h.le; omega)
  · intro hh i hi
    by_cases e : i < pl.length
    · exact hh i e
    · unfold Van
      rw [dot_zero C (h.zero i (by omega) hi), noneB_iff.1 hn i (by omega) hi]
      exact ⟨0, by simp⟩
theorem count_yes {p C : Nat} {M : List (List Int)} {pl : List Nat} (h : Red (p : Int) C C M pl) (hp : 0 < p) (hn : noneB M pl.length C = true) : pl.length ≤ C ∧ sumV p C (fun v => (preB p C M (pvI v) M.length).toNat) = p ^ (C - pl.length) := by
  have hl : pl.length ≤ C := by
    rcases Nat.lt_or_ge C pl.length with h1 | h1
    · have hup : ∀ i, i < pl.length → i ≤ pl.getD i 0 := by
        intro i
        induction i with
        | zero => intro _; exact Nat.zero_le _
        | succ i ih => intro hi; have := h.up i (i + 1) (Nat.lt_succ_self i) hi; have := ih (by omega); omega
      have := hup C h1
      have := h.lt C h1
      omega
    · exact h1
  refine ⟨hl, ?_⟩
  have h1 := count_pre h hp pl.length (Nat.le_refl _)
  rw [show sumV p C (fun v => (preB p C M (pvI v) M.length).toNat) = sumV p C (fun v => (preB p C M (pvI v) pl.length).toNat) from sumV_cong C (fun v _ _ => by rw [all_pre h hn])]
  have h2 : p ^ C = p ^ pl.length * p ^ (C - pl.length) := by rw [← Nat.pow_add]; congr 1; omega
  rw [h2] at h1
  exact Nat.eq_of_mul_eq_mul_left (Nat.pow_pos hp) h1
theorem count_no {q : Int} {C : Nat} {M : List (List Int)} {pl : List Nat} (h : Red q C C M pl) (hn : noneB M pl.length C = false) (v : List Int) : preB q C M v M.length = false := by
  cases e : preB q C M v M.length with
  | false => rfl
  | true =>
    have hall := preB_iff.1 e
    have : noneB M pl.length C = true := noneB_iff.2 (fun i h1 h2 => by
      have hv := hall i h2
      unfold Van at hv
      rw [dot_zero C (h.zero i h1 h2)] at hv
      obtain ⟨k, hk⟩ := hv
      have hb := h.bd i C
      generalize (M.getD i []).getD C 0 = x at *
      rcases Int.lt_trichotomy k 0 with hk0 | hk0 | hk0
      · have : q * k ≤ q * (-1) := Int.mul_le_mul_of_nonneg_left (by omega) (by omega)
        omega
      · subst hk0; omega
      · have : q * 1 ≤ q * k := Int.mul_le_mul_of_nonneg_left (by omega) (by omega)
        omega)
    rw [hn] at this; cases this
/-- The basic solution, after i pivots. -/
def outF (pl : List Nat) (M : List (List Int)) (C : Nat) : Nat → List Int
  | 0 => List.replicate C 0
  | i + 1 => (outF pl M C i).set (pl.getD i 0) ((M.getD i []).getD C 0)
theorem rep0 (C n : Nat) : (List.replicate C (0 : Int)).getD n 0 = 0 := by
  simp only [List.getD, List.getElem?_replicate]
  split <;> rfl
theorem outF_len (pl : List Nat) (M : List (List Int)) (C : Nat) : ∀ i, (outF pl M C i).length = C
  | 0 => by simp [outF]
  | i + 1 => by rw [outF, List.length_set, outF_len pl M C i]
theorem outF_free {q : Int} {C : Nat} {M : List (List Int)} {pl : List Nat} (h : Red q C C M pl) : ∀ i, i < pl.length → ∀ k, i ≤ k → k < pl.length → (outF pl M C i).getD (pl.getD k 0) 0 = 0
  | 0, _, k, _, hk => by rw [outF]; exact rep0 C _
  | i + 1, hi, k, hk, hkl => by
    have h1 := h.up i k (by omega) hkl
    rw [outF, getD_set _ _ _ _ _ (by rw [outF_len]; exact h.lt i (by omega)), if_neg (by omega)]
    exact outF_free h i (by omega) k (by omega) hkl
theorem outF_dot {q : Int} {C : Nat} {M : List (List Int)} {pl : List Nat} (h : Red q C C M pl) (k : Nat) (hk : k < M.length) : ∀ i, i ≤ pl.length → dotN (M.getD k []) (outF pl M C i) C = if k < i then (M.getD k []).getD C 0 else 0
  | 0, _ => by
    rw [if_neg (Nat.not_lt_zero k)]
    have : ∀ n, dotN (M.getD k []) (outF pl M C 0) n = 0 := by
      intro n
      induction n with
      | zero => rfl
      | succ n ih =>
        rw [dotN, ih]
        have : (outF pl M C 0).getD n 0 = 0 := by
          rw [outF]; exact rep0 C n
        rw [this]; simp
    exact this C
  | i + 1, hi => by
    have h1 := h.lt i (by omega)
    rw [outF, dot_set _ _ _ _ (by rw [outF_len]; exact h1), if_pos h1, outF_dot h k hk i (by omega), h.unit i (by omega) k hk, outF_free h i (by omega) i (Nat.le_refl i) (by omega)]
    by_cases e : k = i
    · subst e
      rw [if_pos rfl, if_neg (Nat.lt_irrefl k), if_pos (Nat.lt_succ_self k)]; omega
    · rw [if_neg e]
      by_cases e2 : k < i
      · rw [if_pos e2, if_pos (by omega)]; omega
      · rw [if_neg e2, if_neg (by omega)]; omega
theorem out_solves {q : Int} {C : Nat} {M : List (List Int)} {pl : List Nat} (h : Red q C C M pl) (hn : noneB M pl.length C = true) : preB q C M (outF pl M C pl.length) M.length = true := by
  rw [preB_iff]
  intro i hi
  unfold Van
  rw [outF_dot h i hi pl.length (Nat.le_refl _)]
  split
  · exact ⟨0, by omega⟩
  · rw [noneB_iff.1 hn i (by omega) hi]; exact ⟨0, by simp⟩
end Go.Proofs.YtbllanmhbfnagaaDoor
