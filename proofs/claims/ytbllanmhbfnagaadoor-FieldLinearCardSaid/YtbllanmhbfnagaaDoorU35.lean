/- points, Weights, Through at the chapter's examples (walks). Weights, where the points are points (walk). Through, where the points are points (walk): the divided differences. Through, where the points are points (walk). -/
import Derived.Maps.OwnSet
import Derived.BigQuiet
import Derived.Test.YtbllanmhbfnagaaDoorU30
import Derived.Test.YtbllanmhbfnagaaDoorU34
import Derived.BigRegion
set_option linter.unusedVariables false
set_option linter.unusedSimpArgs false
namespace Go.Proofs.YtbllanmhbfnagaaDoor
open Go.RowKit Go.Sort Go.Maps
def pk (k : Nat) : List Lit := ([.int .u64 1, .int .u64 2] : List Lit).take k
def pS (k : Nat) : DataW Unit := setOf (.lit (.bool true)) (pk k)
theorem pS_size : Maps.size (pS 2) = 2 := by decide
theorem pk_succ (k : Nat) (x : Int) (hk : k < 2) (hx : x = (k : Int) + 1) : pS (k + 1) = (pS k).put (.int .u64 x) (.lit (.bool true)) := by
  subst hx
  unfold pS
  match k, hk with
  | 0, _ => rfl
  | 1, _ => rfl
set_option maxHeartbeats 4000000 in
set_option maxRecDepth 100000 in
theorem points_12 (g o c : Nat) (w : World) (hT : Tab w) (hg : g < w.heap.size) (h1 : w.cell? ⟨g, o, none⟩ = some (.int .i64 1)) (h2 : w.cell? ⟨g, o + 1, none⟩ = some (.int .i64 2)) :
    Calls Tryd.prog 101 #[.int .i64 11, .slice (some ⟨g, o, none⟩) 2 c] w fun e w' => e = .returned (.bool true) ∧ RowKit.Below w.heap.size w w' := by
  have hmm := @run_makeMap Tryd.prog
  have HT := mkHid hT
  have SP := mkHid sane_prime
  clear hT
  go_enter Tryd.func101, Tryd.ntmps101
  go_wp2_with fail
  refine (prime_any 11 _ HT.out).mono ?_
  rintro e w1 ⟨rfl, b1⟩
  rw [SP.out.2.2.2.2.1]
  have B1 := mkHid b1
  have H1 := mkHid ((b1.cell (p := ⟨g, o, none⟩) hg).trans h1)
  have H2 := mkHid ((b1.cell (p := ⟨g, o + 1, none⟩) hg).trans h2)
  have G1 := mkHid (Nat.lt_of_lt_of_le hg b1.size)
  clear b1 h1 h2
  go_wp2_with fail
  go_loopw [19] (fun i wr => ∃ k : Nat, i = .int .i64 k ∧ k ≤ 2 ∧ Hid (wr.ownsMap Tryd.prog 76 (plainElem Tryd.prog 4) w1.heap.size k (pS k)) ∧ Hid (RowKit.Below w1.heap.size w1 wr))
    (fun i _ => 2 - (intOf i).toNat)
  case atStart => exact ⟨0, rfl, by omega, mkHid (World.ownsMap_made _ _ _ _), mkHid ((Below.refl _ _).alloc (Nat.le_refl _) _)⟩
  case round =>
    obtain ⟨k, rfl, hk, hown, hb⟩ := hrel
    by_cases hlt : k < 2
    · have hx : wr.cell? ⟨g, o + k, none⟩ = some (.int .i64 ((k : Int) + 1)) := by
        match k, hlt with
        | 0, _ => exact (hb.out.cell (p := ⟨g, o, none⟩) G1.out).trans H1.out
        | 1, _ => exact (hb.out.cell (p := ⟨g, o + 1, none⟩) G1.out).trans H2.out
      have hsucc := mkHid (pk_succ k ((k : Int) + 1) hlt rfl)
      obtain ⟨x, hxx⟩ : ∃ x : Int, (k : Int) + 1 = x := ⟨_, rfl⟩
      have e2 : IntKind.i64.wrap ((k : Int) + 1) = x := by rw [hxx]; exact IntWalk.i64_in _ (by omega)
      rw [hxx] at hx hsucc
      have kR := residue_any 11 x wr (by omega) (by omega)
      rw [show x % 11 = x by omega] at kR
      have KR := mkHid kR
      have hkey : keyOf Tryd.prog 76 (.int .u64 x) = some (.int .u64 x) := keyOf_int_mk Tryd.underlying76 (by
        have : x = 1 ∨ x = 2 := by omega
        rcases this with rfl | rfl <;> rfl)
      have HK := mkHid hkey
      have kk : (k : Int) < 2 := by omega
      clear kR hkey
      go_wp2_with fail
      refine KR.out.mono ?_
      rintro e w' ⟨rfl, rfl⟩
      go_wp2_with (at_mapUpdate; refine wpList_mapUpdate_own _ rfl _ _ _ 125 rfl 76 4 (int_keyed Tryd.underlying76) Tryd.underlying125 (plainElem (H := Unit) Tryd.prog 4) w1.heap.size k _ rfl hown.out (by unfold maxLen; omega) _ _ _ rfl rfl HK.out _ [] (plainElem_bool Tryd.underlying4 true) ?_; intro w2 hown1 hgrow1)
      have OW := mkHid hown1
      have BW := mkHid (hb.out.grown hgrow1 hb.out.size (fun j hj => by cases hj; exact Nat.le_refl _))
      clear hown1 hgrow1
      go_roundw
      case rel => exact ⟨k + 1, by congr 1; omega, by omega, mkHid (by rw [hsucc.out]; exact OW.out), BW⟩
      case measure => simp [intOf]; omega
    · obtain rfl : k = 2 := by omega
      go_wp2_with (at_len; refine wpList_len_own _ rfl _ 125 rfl 76 4 Tryd.underlying125 _ w1.heap.size 2 _ rfl hown.out ?_)
      go_ret
      simp only [pS_size]
      exact ⟨rfl, B1.out.trans (hb.out.mono B1.out.size)⟩
end Go.Proofs.YtbllanmhbfnagaaDoor
namespace Go.Proofs.YtbllanmhbfnagaaDoor
open Go.RowKit Go.Sort
def abF (q : Int) (xs : List Int) (x : Int) (i : Nat) : Nat → Int
  | 0 => 1
  | k + 1 => if k = i then abF q xs x i k else mulI q (abF q xs x i k) (subI q x (xs.getD k 0))
def weiF (q : Int) (xs : List Int) (x : Int) (n i : Nat) : Int := mulI q (abF q xs x i n) (invI q (abF q xs (xs.getD i 0) i n))
def weiL (q : Int) (xs : List Int) (x : Int) (n : Nat) : Nat → List Int
  | 0 => []
  | i + 1 => weiL q xs x n i ++ [weiF q xs x n i]
theorem weiL_len (q : Int) (xs : List Int) (x : Int) (n : Nat) : ∀ i, (weiL q xs x n i).length = i
  | 0 => rfl
  | i + 1 => by simp [weiL, weiL_len q xs x n i]
set_option maxHeartbeats 8000000 in
set_option maxRecDepth 100000 in
theorem weights_gen (q x : Int) (g o c n : Nat) (xs : List Int) (w : World) (hn : n ≤ 64) (hI : ArgI w (some ⟨g, o, none⟩) n xs)
    (hP : Calls Tryd.prog 101 #[.int .i64 q, .slice (some ⟨g, o, none⟩) n c] w fun e w' => e = .returned (.bool true) ∧ RowKit.Below w.heap.size w w') :
    Calls Tryd.prog 65 #[.int .i64 q, .slice (some ⟨g, o, none⟩) n c, .int .i64 x] w fun e w' => ∃ ao cap, e = .returned (.tuple #[.slice ao n cap, .bool true]) ∧ ArgI w' ao n (weiL q xs x n n) ∧ RowKit.Below w.heap.size w w' := by
  have HI := mkHid hI
  have HP := mkHid hP
  clear hI hP
  go_enter Tryd.func65, Tryd.ntmps65
  go_wp2_with fail
  refine HP.out.mono ?_
  rintro e w1 ⟨rfl, b1⟩
  have B1 := mkHid b1
  have I1 := mkHid (HI.out.below b1)
  have S1 : Hid (w.heap.size ≤ w1.heap.size) := mkHid b1.size
  clear b1 HP HI
  generalize hG : w1.heap.size = G at *
  have HG := mkHid hG
  clear hG
  go_wp2_with fail
  go_loopw [8, 23] (fun s d wr => ∃ (i : Nat) (ao : Option Addr) (cp : Nat), s = .slice ao i cp ∧ d = .int .i64 i ∧ i ≤ n ∧ Hid (OwnS wr G cp (iv (weiL q xs x n i)) ao) ∧ Hid (RowKit.Below G w1 wr)) (fun _ d _ => (n - intOf d).toNat)
  case atStart => exact ⟨0, none, 0, rfl, rfl, by omega, mkHid (.nil rfl rfl), mkHid (Below.refl _ _)⟩
  case round =>
    obtain ⟨i, ao, cp, rfl, rfl, hi, ho, hb⟩ := hrel
    have e2 : IntKind.i64.wrap ((i : Int) + 1) = ((i + 1 : Nat) : Int) := IntWalk.i64_in _ (by omega)
    by_cases hlt : i < n
    · obtain ⟨g', o', he, hc, -⟩ := (I1.out.keptS HG.out hb.out).here (by omega)
      obtain ⟨rfl, rfl⟩ : g = g' ∧ o = o' := by injection he with he; injection he with e1 e2; exact ⟨e1, e2⟩
      have x1 := hc i hlt
      have ii : (i : Int) < n := by omega
      obtain ⟨a, ha⟩ : ∃ a, xs.getD i 0 = a := ⟨_, rfl⟩
      rw [ha] at x1
      have HA := mkHid ha
      have HAB := mkHid (rfl : abF q xs x i 0 = 1)
      have HBE := mkHid (rfl : abF q xs a i 0 = 1)
      clear hc he ha
      generalize wr = wo at *
      go_wp2_with fail
      clear x1
      go_loopw [11, 12, 30] (fun u v d wq => ∃ k : Nat, u = .int .i64 (abF q xs x i k) ∧ v = .int .i64 (abF q xs a i k) ∧ d = .int .i64 k ∧ k ≤ n ∧ Hid (RowKit.Below wo.heap.size wo wq)) (fun _ _ d _ => (n - intOf d).toNat)
      case atStart => exact ⟨0, rfl, rfl, rfl, by omega, mkHid (Below.refl _ _)⟩
      case round =>
        obtain ⟨k, rfl, rfl, rfl, hk, hbq⟩ := hrel
        have e3 : IntKind.i64.wrap ((k : Int) + 1) = ((k + 1 : Nat) : Int) := IntWalk.i64_in _ (by omega)
        have hbb : Hid (RowKit.Below G w1 wr) := mkHid (hb.out.trans (hbq.out.mono (by have := hb.out.size; have := HG.out; omega)))
        by_cases hkl : k < n
        · obtain ⟨g', o', he, hc, -⟩ := (I1.out.keptS HG.out hbb.out).here (by omega)
          obtain ⟨rfl, rfl⟩ : g = g' ∧ o = o' := by injection he with he; injection he with e1 e2; exact ⟨e1, e2⟩
          have x2 := hc k hkl
          have kn : (k : Int) < n := by omega
          have hs1 : Hid (abF q xs x i (k + 1) = if k = i then abF q xs x i k else mulI q (abF q xs x i k) (subI q x (xs.getD k 0))) := mkHid rfl
          have hs2 : Hid (abF q xs a i (k + 1) = if k = i then abF q xs a i k else mulI q (abF q xs a i k) (subI q a (xs.getD k 0))) := mkHid rfl
          obtain ⟨b, hb2⟩ : ∃ b, xs.getD k 0 = b := ⟨_, rfl⟩
          rw [hb2] at x2 hs1 hs2
          obtain ⟨u, hu⟩ : ∃ u, abF q xs x i k = u := ⟨_, rfl⟩
          obtain ⟨v, hv⟩ : ∃ v, abF q xs a i k = v := ⟨_, rfl⟩
          rw [hu] at hs1 ⊢
          rw [hv] at hs2 ⊢
          clear hc he hb2 hu hv
          by_cases hki : k = i
          · have d1 : ((k : Int) == (i : Int)) = true := by rw [beq_iff_eq]; omega
            have d2 : ((k : Int) != (i : Int)) = false := by rw [bne, d1]; rfl
            rw [if_pos hki] at hs1 hs2
            have HKI := mkHid hki
            clear hki
            go_wp2_with fail
            go_roundw
            case rel => exact ⟨k + 1, by rw [hs1.out], by rw [hs2.out], rfl, by omega, hbq⟩
            case measure => simp only [intOf]; omega
          · have d1 : ((k : Int) == (i : Int)) = false := by rw [beq_eq_false_iff_ne]; omega
            have d2 : ((k : Int) != (i : Int)) = true := by rw [bne, d1]; rfl
            rw [if_neg hki] at hs1 hs2
            have HKI := mkHid hki
            clear hki
            go_wp2_with fail
            refine (sub_bb q x b wr).mono ?_
            rintro e w3 ⟨rfl, b3⟩
            have B3 := mkHid (hbq.out.trans (b3.mono hbq.out.size))
            clear b3
            go_wp2_with fail
            refine (mul_bb2 q u (subI q x b) w3).mono ?_
            rintro e w4 ⟨rfl, b4⟩
            have B4 := mkHid (B3.out.trans (b4.mono B3.out.size))
            rw [← hs1.out]
            clear b4
            go_wp2_with fail
            refine (sub_bb q a b w4).mono ?_
            rintro e w5 ⟨rfl, b5⟩
            have B5 := mkHid (B4.out.trans (b5.mono B4.out.size))
            clear b5
            go_wp2_with fail
            refine (mul_bb2 q v (subI q a b) w5).mono ?_
            rintro e w6 ⟨rfl, b6⟩
            have B6 := mkHid (B5.out.trans (b6.mono B5.out.size))
            rw [← hs2.out]
            clear b6
            go_wp2_with fail
            go_roundw
            case rel => exact ⟨k + 1, rfl, rfl, rfl, by omega, B6⟩
            case measure => simp only [intOf]; omega
        · obtain rfl : k = n := by omega
          have hwf : Hid (weiF q xs x k i = mulI q (abF q xs x i k) (invI q (abF q xs a i k))) := mkHid (by unfold weiF; rw [HA.out])
          have hwl : Hid (weiL q xs x k (i + 1) = weiL q xs x k i ++ [weiF q xs x k i]) := mkHid rfl
          obtain ⟨u, hu⟩ : ∃ u, abF q xs x i k = u := ⟨_, rfl⟩
          obtain ⟨v, hv⟩ : ∃ v, abF q xs a i k = v := ⟨_, rfl⟩
          rw [hu, hv] at hwf ⊢
          clear hu hv
          go_wp2_with fail
          refine (inv_b q v wr).mono ?_
          rintro e w3 ⟨rfl, b3⟩
          have B3 := mkHid (hbq.out.trans (b3.mono hbq.out.size))
          clear b3
          go_wp2_with fail
          refine (mul_bb2 q u (invI q v) w3).mono ?_
          rintro e w4 ⟨rfl, b4⟩
          have B4 := mkHid (B3.out.trans (b4.mono B3.out.size))
          rw [← hwf.out]
          clear b4
          have OB := mkHid (ho.out.below B4.out)
          have G4 : Hid (RowKit.Below G w1 w4) := mkHid (hb.out.trans (B4.out.mono (by have := hb.out.size; have := HG.out; omega)))
          have SA : Hid (G ≤ w4.heap.size) := mkHid (by have := G4.out.size; have := HG.out; omega)
          have hl := weiL_len q xs x k i
          have HL := mkHid hl
          clear hl
          go_wp2_with (at_builtin; refine app_ints w4 G rfl (.tmp 59) (.tmp 64) rfl ao cp i (weiL q xs x k i) ?q1 ?q2 OB.out SA.out 1 1 #[.int .i64 (weiF q xs x k i)] 3 [weiF q xs x k i] ?q3 rfl rfl (by omega) ?q4 ?_; (case q1 => exact HL.out.symm); (case q2 => rfl); (case q3 => rfl); (case q4 => omega); intro g4 off4 c4 w7 o8 b8; have O8 := mkHid o8; have B8 := mkHid b8; clear o8 b8)
          go_roundw
          case rel => exact ⟨i + 1, some ⟨g4, off4, none⟩, c4, rfl, rfl, by omega, mkHid (by rw [hwl.out]; exact O8.out.s), mkHid (G4.out.trans B8.out)⟩
          case measure => simp only [intOf]; omega
    · obtain rfl : i = n := by omega
      go_wp2_with fail
      go_ret2
      exact ⟨ao, cp, rfl, ho.out.arg (by rw [weiL_len]), B1.out.trans (hb.out.mono S1.out)⟩
end Go.Proofs.YtbllanmhbfnagaaDoor
namespace Go.Proofs.YtbllanmhbfnagaaDoor
open Go.RowKit Go.Sort
def dIn (q : Int) (xs : List Int) (n k : Nat) (d : List Int) : Nat → List Int
  | 0 => d
  | j + 1 => (dIn q xs n k d j).set (n - 1 - j) (mulI q (subI q ((dIn q xs n k d j).getD (n - 1 - j) 0) ((dIn q xs n k d j).getD (n - 1 - j - 1) 0)) (invI q (subI q (xs.getD (n - 1 - j) 0) (xs.getD (n - 1 - j - k) 0))))
def dOut (q : Int) (xs : List Int) (n : Nat) (d : List Int) : Nat → List Int
  | 0 => d
  | k + 1 => dIn q xs n (k + 1) (dOut q xs n d k) (n - (k + 1))
def pIn (q : Int) (n : Nat) (a : Int) (P : List Int) : Nat → List Int
  | 0 => P
  | j + 1 =>
    if n - 1 - j = 0 then (pIn q n a P j).set (n - 1 - j) (subI q 0 (mulI q ((pIn q n a P j).getD (n - 1 - j) 0) a))
    else (pIn q n a P j).set (n - 1 - j) (addI q (subI q 0 (mulI q ((pIn q n a P j).getD (n - 1 - j) 0) a)) ((pIn q n a P j).getD (n - 1 - j - 1) 0))
def pOut (q : Int) (xs : List Int) (n : Nat) (d : List Int) : Nat → List Int
  | 0 => List.replicate n 0
  | j + 1 => (pIn q n (xs.getD (n - 1 - j) 0) (pOut q xs n d j) n).set 0 (addI q ((pIn q n (xs.getD (n - 1 - j) 0) (pOut q xs n d j) n).getD 0 0) (d.getD (n - 1 - j) 0))
theorem dIn_step (q : Int) (xs : List Int) (n k : Nat) (d : List Int) (m : Nat) (hm : m + 1 ≤ n) (h1 : 1 ≤ m) : dIn q xs n k d (n - 1 - (m - 1)) = (dIn q xs n k d (n - 1 - m)).set m (mulI q (subI q ((dIn q xs n k d (n - 1 - m)).getD m 0) ((dIn q xs n k d (n - 1 - m)).getD (m - 1) 0)) (invI q (subI q (xs.getD m 0) (xs.getD (m - k) 0)))) := by
  rw [show n - 1 - (m - 1) = (n - 1 - m) + 1 by omega, dIn, show n - 1 - (n - 1 - m) = m by omega]
theorem dIn_len (q : Int) (xs : List Int) (n k : Nat) (d : List Int) : ∀ j, (dIn q xs n k d j).length = d.length
  | 0 => rfl
  | j + 1 => by rw [dIn, List.length_set, dIn_len q xs n k d j]
theorem dOut_len (q : Int) (xs : List Int) (n : Nat) (d : List Int) : ∀ k, (dOut q xs n d k).length = d.length
  | 0 => rfl
  | k + 1 => by rw [dOut, dIn_len, dOut_len q xs n d k]
theorem pIn_len (q : Int) (n : Nat) (a : Int) (P : List Int) : ∀ j, (pIn q n a P j).length = P.length
  | 0 => rfl
  | j + 1 => by rw [pIn]; split <;> rw [List.length_set, pIn_len q n a P j]
theorem pOut_len (q : Int) (xs : List Int) (n : Nat) (d : List Int) : ∀ j, (pOut q xs n d j).length = n
  | 0 => by simp [pOut]
  | j + 1 => by rw [pOut, List.length_set, pIn_len, pOut_len q xs n d j]
theorem thr_12 : pOut 11 [1, 2] 2 (dOut 11 [1, 2] 2 (resRow 11 [3, 5]) 1) 2 = [1, 2] ∧ weiL 11 [1, 2] 0 2 2 = [2, 10] ∧ atF 11 [1, 2] 0 = 1 := by decide +kernel
theorem sol_12 : solF 11 [[1, 2, 3], [2, 4, 6]] [5, 10] 2 = [5, 0, 0] ∧ solOk 11 [[1, 2, 3], [2, 4, 6]] [5, 10] 2 = true ∧ solOk 11 [[1, 2, 3], [2, 4, 6]] [5, 9] 2 = false ∧ kerOk 11 [[1, 2, 3], [2, 4, 6]] 3 = true ∧ kerF 11 [[1, 2, 3], [2, 4, 6]] 3 = [[9, 1, 0], [8, 0, 1]] ∧ rankF 11 [[1, 2, 3], [2, 4, 6]] = 1 := by decide +kernel
end Go.Proofs.YtbllanmhbfnagaaDoor
namespace Go.Proofs.YtbllanmhbfnagaaDoor
open Go.RowKit Go.Sort
set_option maxHeartbeats 8000000 in
set_option maxRecDepth 100000 in
theorem through_gen (q : Int) (g o c g2 o2 c2 n : Nat) (xs ys : List Int) (w : World) (hq1 : 1 ≤ q) (hq2 : q < 2305843009213693952) (hn : n ≤ 64) (hn0 : 0 < n) (hI : ArgI w (some ⟨g, o, none⟩) n xs) (hJ : ArgI w (some ⟨g2, o2, none⟩) n ys)
    (hP : Calls Tryd.prog 101 #[.int .i64 q, .slice (some ⟨g, o, none⟩) n c] w fun e w' => e = .returned (.bool true) ∧ RowKit.Below w.heap.size w w') :
    Calls Tryd.prog 63 #[.int .i64 q, .slice (some ⟨g, o, none⟩) n c, .slice (some ⟨g2, o2, none⟩) n c2] w fun e w' => ∃ ao cap, e = .returned (.tuple #[.slice ao n cap, .bool true]) ∧ ArgI w' ao n (pOut q xs n (dOut q xs n (resRow q ys) (n - 1)) n) ∧ RowKit.Below w.heap.size w w' := by
  have HI := mkHid hI
  have HJ := mkHid hJ
  have HP := mkHid hP
  have HQ := mkHid (And.intro hq1 hq2)
  have HYL : Hid (ys.length = n) := mkHid hJ.len.symm
  have HN0 := mkHid hn0
  clear hI hJ hP hq1 hq2
  have d1 : ((n : Int) == (n : Int)) = true := by simp
  have d2 : ((n : Int) != (n : Int)) = false := by simp
  go_enter Tryd.func63, Tryd.ntmps63
  go_wp2_with fail
  refine HP.out.mono ?_
  rintro e w1 ⟨rfl, b1⟩
  have B1 := mkHid b1
  have I1 := mkHid (HI.out.below b1)
  have J1 := mkHid (HJ.out.below b1)
  have S1 : Hid (w.heap.size ≤ w1.heap.size) := mkHid b1.size
  clear b1 HP HI HJ
  generalize hG : w1.heap.size = G at *
  have HG := mkHid hG
  clear hG
  go_wp2_with fail
  clear d1 d2
  go_loopw [8, 31] (fun s d wr => ∃ (i : Nat) (ao : Option Addr) (cp : Nat), s = .slice ao i cp ∧ d = .int .i64 i ∧ i ≤ n ∧ Hid (OwnS wr G cp (iv (resRow q (ys.take i))) ao) ∧ Hid (RowKit.Below G w1 wr)) (fun _ d _ => (n - intOf d).toNat)
  case atStart => exact ⟨0, none, 0, rfl, rfl, by omega, mkHid (.nil rfl rfl), mkHid (Below.refl _ _)⟩
  case round =>
    obtain ⟨i, ao, cp, rfl, rfl, hi, ho, hb⟩ := hrel
    have e2 : IntKind.i64.wrap ((i : Int) + 1) = ((i + 1 : Nat) : Int) := IntWalk.i64_in _ (by omega)
    have hlen : Hid ((resRow q (ys.take i)).length = i) := mkHid (by simp [resRow]; have := HYL.out; omega)
    by_cases hlt : i < n
    · obtain ⟨g', o', he, hc, -⟩ := (J1.out.keptS HG.out hb.out).here (by omega)
      obtain ⟨rfl, rfl⟩ : g2 = g' ∧ o2 = o' := by injection he with he; injection he with e1 e2; exact ⟨e1, e2⟩
      have x1 := hc i hlt
      have ii : (i : Int) < n := by omega
      have hap := mkHid (resRow_take q ys i (by rw [HYL.out]; exact hlt))
      obtain ⟨x, hx⟩ : ∃ a, ys.getD i 0 = a := ⟨_, rfl⟩
      rw [hx] at x1 hap
      clear hc he hx
      have kR := residue_any q x wr HQ.out.1 HQ.out.2
      have y0 := Int.emod_nonneg x (show q ≠ 0 by have := HQ.out.1; omega)
      have y1 := Int.emod_lt_of_pos x (show 0 < q by have := HQ.out.1; omega)
      have y2 : x % q < 2305843009213693952 := by have := HQ.out.2; omega
      obtain ⟨y, hy⟩ : ∃ y, x % q = y := ⟨_, rfl⟩
      rw [hy] at kR hap y0 y2
      have KR := mkHid kR
      clear kR hy y1
      have e4 : IntKind.i64.wrap y = y := IntWalk.i64_in _ (by omega)
      have SA : Hid (G ≤ wr.heap.size) := mkHid (by have := hb.out.size; have := HG.out; omega)
      go_wp2_with fail
      refine KR.out.mono ?_
      rintro e w' ⟨rfl, rfl⟩
      go_wp2_with (at_builtin; refine app_ints wr G rfl (.tmp 35) (.tmp 40) rfl ao cp i (resRow q (ys.take i)) ?q1 ?q2 ho.out SA.out 1 1 #[.int .i64 y] 3 [y] ?q3 rfl rfl (by omega) ?q4 ?_; (case q1 => exact hlen.out.symm); (case q2 => rfl); (case q3 => rfl); (case q4 => omega); intro g4 off4 c4 wb o8 b8; have OB := mkHid o8; have B8 := mkHid b8; clear o8 b8)
      go_roundw
      case rel => exact ⟨i + 1, some ⟨g4, off4, none⟩, c4, rfl, rfl, by omega, mkHid (by rw [hap.out]; exact OB.out.s), mkHid (hb.out.trans B8.out)⟩
      case measure => simp only [intOf]; omega
    · obtain rfl : n = i := by omega
      have hlt2 : ys.take n = ys := List.take_of_length_le (by rw [HYL.out]; exact Nat.le_refl _)
      rw [hlt2] at ho hlen
      clear hlt2 e2 hlt
      obtain ⟨d0, hd0⟩ : ∃ d, resRow q ys = d := ⟨_, rfl⟩
      rw [hd0] at ho hlen
      have HD0 := mkHid hd0
      clear hd0
      obtain ⟨gd, od, hao⟩ : ∃ gd od, ao = some ⟨gd, od, none⟩ := by
        have h := ho.out
        cases h with
        | nil h hc =>
          have : d0 = [] := by simpa [iv] using h
          have h1 := hlen.out; rw [this] at h1; have := HN0.out; simp at h1; omega
        | «at» g off h => exact ⟨g, off, rfl⟩
      subst hao
      have HO : Hid (OwnAt wr G gd od cp (iv d0)) := mkHid (by have h := ho.out; cases h with | «at» g off h => exact h)
      have GD : Hid (G ≤ gd) := mkHid HO.out.own
      clear ho hi HYL J1
      generalize wr = wa at *
      have hn2 : (2 : Nat) ≤ 9223372036854775807 := by omega
      go_wp2_with fail
      as_aux_lemma =>
        go_loopw [11] (fun kv wr => ∃ K : Nat, kv = .int .i64 K ∧ 1 ≤ K ∧ K ≤ n ∧ Hid (OwnAt wr G gd od cp (iv (dOut q xs n d0 (K - 1)))) ∧ Hid (RowKit.Below G w1 wr)) (fun kv _ => (n - intOf kv).toNat)
        case atStart => exact ⟨1, rfl, by omega, by omega, HO, hb⟩
        case round =>
          clear HO hb
          obtain ⟨K, rfl, hK1, hK, ho, hb⟩ := hrel
          have e1 : IntKind.i64.wrap ((K : Int) + 1) = ((K + 1 : Nat) : Int) := IntWalk.i64_in _ (by omega)
          by_cases hlt : K < n
          · have kn : (K : Int) < n := by omega
            have e2 : IntKind.i64.wrap ((n : Int) - 1) = ((n - 1 : Nat) : Int) := by rw [IntWalk.i64_in _ (by omega)]; omega
            obtain ⟨D, hD⟩ : ∃ D, dOut q xs n d0 (K - 1) = D := ⟨_, rfl⟩
            have hst : Hid (dOut q xs n d0 K = dIn q xs n K D (n - K)) := mkHid (by
              obtain ⟨k, rfl⟩ : ∃ k, K = k + 1 := ⟨K - 1, by omega⟩
              rw [dOut, ← hD]; rfl)
            have HDL : Hid (D.length = n) := mkHid (by rw [← hD, dOut_len]; exact hlen.out)
            rw [hD] at ho
            clear hD
            have HO : Hid (OwnAt wr G gd od cp (iv (dIn q xs n K D (n - 1 - (n - 1))))) := mkHid (by rw [Nat.sub_self]; exact ho.out)
            generalize wr = wa at *
            go_wp2_with fail
            go_loopw [12] (fun mv wq => ∃ m : Nat, mv = .int .i64 m ∧ K ≤ m + 1 ∧ m + 1 ≤ n ∧ Hid (OwnAt wq G gd od cp (iv (dIn q xs n K D (n - 1 - m)))) ∧ Hid (RowKit.Below G w1 wq)) (fun mv _ => (intOf mv).toNat)
            case atStart => exact ⟨n - 1, rfl, by omega, by omega, HO, hb⟩
            case round =>
              clear HO hb ho
              obtain ⟨m, rfl, hm1, hm2, ho, hb⟩ := hrel
              by_cases hkm : K ≤ m
              · as_aux_lemma =>
                have km : (K : Int) ≤ m := by omega
                have mn : (m : Int) < n := by omega
                have m0 : ((m - K : Nat) : Int) < n := by omega
                have m1 : ((m - 1 : Nat) : Int) < n := by omega
                have e3 : IntKind.i64.wrap ((m : Int) - (K : Int)) = ((m - K : Nat) : Int) := by rw [IntWalk.i64_in _ (by omega)]; omega
                have e4 : IntKind.i64.wrap ((m : Int) - 1) = ((m - 1 : Nat) : Int) := by rw [IntWalk.i64_in _ (by omega)]; omega
                obtain ⟨g', o', he, hc, -⟩ := (I1.out.keptS HG.out hb.out).here HN0.out
                obtain ⟨rfl, rfl⟩ : g = g' ∧ o = o' := by injection he with he; injection he with e1 e2; exact ⟨e1, e2⟩
                have x1 := hc m (by omega)
                have x2 := hc (m - K) (by omega)
                have hst2 := mkHid (dIn_step q xs n K D m hm2 (by omega))
                have hld := dIn_len q xs n K D (n - 1 - m)
                rw [HDL.out] at hld
                have HLD := mkHid hld
                obtain ⟨T, hT⟩ : ∃ T, dIn q xs n K D (n - 1 - m) = T := ⟨_, rfl⟩
                rw [hT] at ho hst2 HLD
                obtain ⟨a, ha⟩ : ∃ a, xs.getD m 0 = a := ⟨_, rfl⟩
                obtain ⟨b, hb2⟩ : ∃ a, xs.getD (m - K) 0 = a := ⟨_, rfl⟩
                rw [ha] at x1 hst2
                rw [hb2] at x2 hst2
                clear hc he hT ha hb2 hld
                obtain ⟨s, hs⟩ : ∃ s, subI q a b = s := ⟨_, rfl⟩
                rw [hs] at hst2
                obtain ⟨v, hv⟩ : ∃ v, invI q s = v := ⟨_, rfl⟩
                obtain ⟨vb, hvb⟩ : ∃ v, invB q s = v := ⟨_, rfl⟩
                rw [hv] at hst2
                have kS0 : ∀ W : World, Calls Tryd.prog 26 #[.int .i64 q, .int .i64 a, .int .i64 b] W fun e w' => e = .returned (.int .i64 s) ∧ RowKit.Below W.heap.size W w' := fun W => by have h := sub_bb q a b W; rw [hs] at h; exact h
                have kI0 : ∀ W : World, Calls Tryd.prog 20 #[.int .i64 q, .int .i64 s] W fun e w' => e = .returned (.tuple #[.int .i64 v, .bool vb]) ∧ RowKit.Below W.heap.size W w' := fun W => by have h := inv_b q s W; rw [hv, hvb] at h; exact h
                have KS := mkHid kS0
                have KI := mkHid kI0
                clear kS0 kI0 hs hv hvb
                go_upto_region 15 with (fail)
                have n1 := cell_regrown x1
                have n2 := cell_regrown x2
                have kS := regr wr (fun W _ => KS.out W)
                have kI := regr wr (fun W _ => KI.out W)
                clear x1 x2
                refine wp_region_quiet_below (by kernel_rfl) (by kernel_rfl) ?_
                repeat (go_big_quiet_step (with_reducible (first | exact kS _ _ | exact kI _ _)))
                refine wpQuiet_nil ?_
                intro _ hw'
                obtain ⟨⟨dq, osq⟩, hw''⟩ := hw'
                subst hw''
                have hbb := below_regrown wr dq osq
                have ZG : Hid (gd < wr.heap.size) := mkHid ho.out.lt
                have O2 := mkHid (ho.out.of_block (hbb.block gd ZG.out) hbb.size)
                have B2 := mkHid (hb.out.trans (hbb.mono (by have := hb.out.size; have := HG.out; omega)))
                clear kS kI n1 n2 hbb KS KI ho hb ZG
                generalize grow (redrawn wr dq) osq = wd at *
                obtain ⟨u1, hu1⟩ : ∃ u, T.getD m 0 = u := ⟨_, rfl⟩
                obtain ⟨u2, hu2⟩ : ∃ u, T.getD (m - 1) 0 = u := ⟨_, rfl⟩
                rw [hu1, hu2] at hst2
                have y1 := O2.out.cell_i m (by rw [HLD.out]; omega)
                have y2 := O2.out.cell_i (m - 1) (by rw [HLD.out]; omega)
                rw [hu1] at y1
                rw [hu2] at y2
                obtain ⟨s2, hs2⟩ : ∃ s, subI q u1 u2 = s := ⟨_, rfl⟩
                rw [hs2] at hst2
                obtain ⟨nv, hnv⟩ : ∃ s, mulI q s2 v = s := ⟨_, rfl⟩
                rw [hnv] at hst2
                have kS0 : ∀ W : World, Calls Tryd.prog 26 #[.int .i64 q, .int .i64 u1, .int .i64 u2] W fun e w' => e = .returned (.int .i64 s2) ∧ RowKit.Below W.heap.size W w' := fun W => by have h := sub_bb q u1 u2 W; rw [hs2] at h; exact h
                have kM0 : ∀ W : World, Calls Tryd.prog 28 #[.int .i64 q, .int .i64 s2, .int .i64 v] W fun e w' => e = .returned (.int .i64 nv) ∧ RowKit.Below W.heap.size W w' := fun W => by have h := mul_bb2 q s2 v W; rw [hnv] at h; exact h
                have KS := mkHid kS0
                have KM := mkHid kM0
                clear kS0 kM0 hs2 hnv hu1 hu2
                as_aux_lemma =>
                  go_upto_region 16 with (fail)
                  have n1 := cell_regrown y1
                  have n2 := cell_regrown y2
                  have kS := regr wd (fun W _ => KS.out W)
                  have kM := regr wd (fun W _ => KM.out W)
                  clear y1 y2
                  refine wp_region_qtb 17 (by kernel_rfl) (by kernel_rfl) ?_
                  simp only [List.take_succ_cons, List.take_zero, List.drop_succ_cons, List.drop_zero]
                  repeat (go_big_quiet_step (with_reducible (first | exact kS _ _ | exact kM _ _)))
                  refine wpQuiet_nil ?_
                  intro _ hw'
                  obtain ⟨⟨dq, osq⟩, hw''⟩ := hw'
                  subst hw''
                  have hbb := below_regrown wd dq osq
                  have ZG : Hid (gd < wd.heap.size) := mkHid O2.out.lt
                  have O3 := mkHid (O2.out.of_block (hbb.block gd ZG.out) hbb.size)
                  have B3 := mkHid (B2.out.trans (hbb.mono (by have := B2.out.size; have := HG.out; omega)))
                  clear kS kM n1 n2 hbb KS KM O2 B2 ZG
                  generalize grow (redrawn wd dq) osq = we at *
                  have z1 := O3.out.cell_i m (by rw [HLD.out]; omega)
                  have z2 := O3.out.warm m (by have := O3.out.le; rw [iv_length, HLD.out] at this; omega)
                  have V7 : Hid (OwnAt (we.setCell ⟨gd, od + m, none⟩ (.int .i64 nv)) G gd od cp (iv (dIn q xs n K D (n - 1 - (m - 1))))) := mkHid (by
                    have h := O3.out.set m (.int .i64 nv) (by rw [iv_length, HLD.out]; omega)
                    rw [iv_set, ← hst2.out] at h
                    exact h)
                  have B7 : Hid (RowKit.Below G w1 (we.setCell ⟨gd, od + m, none⟩ (.int .i64 nv))) := mkHid (below_setCell B3.out (p := ⟨gd, od + m, none⟩) GD.out _)
                  go_wp2
                  go_roundw
                  case rel => exact ⟨m - 1, rfl, by omega, by omega, V7, B7⟩
                  case measure => simp only [intOf]; omega
              · obtain rfl : K = m + 1 := by omega
                have hst2 : Hid (dOut q xs n d0 (m + 1) = dIn q xs n (m + 1) D (n - 1 - m)) := mkHid (by rw [hst.out, show n - (m + 1) = n - 1 - m by omega])
                go_wp2_with fail
                go_roundw
                case rel => exact ⟨m + 1 + 1, rfl, by omega, by omega, mkHid (by rw [show m + 1 + 1 - 1 = m + 1 by omega, hst2.out]; exact ho.out), hb⟩
                case measure => simp only [intOf]; omega
          · obtain rfl : K = n := by omega
            obtain ⟨dd, hdd⟩ : ∃ dd, dOut q xs K d0 (K - 1) = dd := ⟨_, rfl⟩
            rw [hdd] at ho
            have HDD := mkHid (by rw [← HD0.out] at hdd; exact hdd)
            have HDL : Hid (dd.length = K) := mkHid (by rw [← hdd, dOut_len]; exact hlen.out)
            have x0 : Hid (∀ i, i < K → wr.cell? ⟨gd, od + i, none⟩ = some (.int .i64 (dd.getD i 0))) := mkHid (fun i hi => ho.out.cell_i i (by rw [HDL.out]; exact hi))
            have GL : Hid (gd < wr.heap.size) := mkHid ho.out.lt
            clear hdd ho hlt e1 hK hlen
            have hn6 : K ≤ 1000000 := by omega
            have e2 : IntKind.i64.wrap ((K : Int) - 1) = (K : Int) - 1 := IntWalk.i64_in _ (by omega)
            as_aux_lemma =>
              go_wp2_with (refine wpList_make_ints wr rfl (.tmp 92) (.tmp 92) rfl K rfl rfl hn6 ?_; intro w5 o5 b5 z5; have O5 := mkHid o5; have B5 := mkHid b5; clear o5 b5 z5)
              have F5 : Hid (OwnAt w5 wr.heap.size wr.heap.size 0 K (iv (pOut q xs K dd 0))) := O5
              have GW : Hid (G ≤ wr.heap.size) := mkHid (by have := hb.out.size; have := HG.out; omega)
              clear O5
              generalize wr = wc at *
              generalize hTT : wc.heap.size = T at *
              have HTT := mkHid hTT
              clear hTT
              go_loopw [16] (fun jv wq => ∃ j : Nat, jv = .int .i64 ((K : Int) - 1 - j) ∧ j ≤ K ∧ Hid (OwnAt wq T T 0 K (iv (pOut q xs K dd j))) ∧ Hid (RowKit.Below T wc wq)) (fun jv _ => (intOf jv + 1).toNat)
              case atStart => exact ⟨0, by simp, by omega, F5, B5⟩
              case round =>
                clear F5 B5
                obtain ⟨j, rfl, hj, ho, hbq⟩ := hrel
                by_cases hlt : j < K
                · obtain ⟨i, hi⟩ : ∃ i, K - 1 - j = i := ⟨_, rfl⟩
                  have hiv : (K : Int) - 1 - j = (i : Int) := by omega
                  have hiK : i < K := by omega
                  rw [hiv]
                  have hst : Hid (pOut q xs K dd (j + 1) = (pIn q K (xs.getD i 0) (pOut q xs K dd j) K).set 0 (addI q ((pIn q K (xs.getD i 0) (pOut q xs K dd j) K).getD 0 0) (dd.getD i 0))) := mkHid (by rw [pOut, hi])
                  have hpl := pOut_len q xs K dd j
                  obtain ⟨P, hP⟩ : ∃ P, pOut q xs K dd j = P := ⟨_, rfl⟩
                  obtain ⟨a, ha⟩ : ∃ a, xs.getD i 0 = a := ⟨_, rfl⟩
                  rw [hP] at ho hst hpl
                  rw [ha] at hst
                  have HPL := mkHid hpl
                  have HA := mkHid ha
                  clear hP ha hpl
                  have ik : (i : Int) < K := by omega
                  have e5 : IntKind.i64.wrap ((i : Int) - 1) = (K : Int) - 1 - ((j + 1 : Nat) : Int) := by rw [IntWalk.i64_in _ (by omega)]; omega
                  have HO : Hid (OwnAt wr T T 0 K (iv (pIn q K a P 0))) := ho
                  generalize wr = wd at *
                  go_wp2_with fail
                  go_loopw [17] (fun lv wq => ∃ l : Nat, lv = .int .i64 ((K : Int) - 1 - l) ∧ l ≤ K ∧ Hid (OwnAt wq T T 0 K (iv (pIn q K a P l))) ∧ Hid (RowKit.Below T wc wq)) (fun lv _ => (intOf lv + 1).toNat)
                  case atStart => exact ⟨0, by simp, by omega, HO, hbq⟩
                  case round =>
                    clear HO hbq ho
                    obtain ⟨l, rfl, hl, ho, hbq⟩ := hrel
                    have BQ : Hid (RowKit.Below G w1 wr) := mkHid (hb.out.trans (hbq.out.mono GW.out))
                    have BT : Hid (RowKit.Below w.heap.size w wr) := mkHid (B1.out.trans (BQ.out.mono (by have := S1.out; have := HG.out; omega)))
                    by_cases hll : l < K
                    · obtain ⟨m, hm⟩ : ∃ m, K - 1 - l = m := ⟨_, rfl⟩
                      have hmv : (K : Int) - 1 - l = (m : Int) := by omega
                      have hmK : m < K := by omega
                      rw [hmv]
                      have hps : Hid (pIn q K a P (l + 1) = if m = 0 then (pIn q K a P l).set m (subI q 0 (mulI q ((pIn q K a P l).getD m 0) a)) else (pIn q K a P l).set m (addI q (subI q 0 (mulI q ((pIn q K a P l).getD m 0) a)) ((pIn q K a P l).getD (m - 1) 0))) := mkHid (by rw [pIn, hm])
                      have hTl := pIn_len q K a P l
                      rw [HPL.out] at hTl
                      obtain ⟨T2, hT2⟩ : ∃ T2, pIn q K a P l = T2 := ⟨_, rfl⟩
                      rw [hT2] at ho hps hTl
                      have HTL := mkHid hTl
                      clear hT2 hTl
                      obtain ⟨g', o', he, hc, -⟩ := (I1.out.keptS HG.out BQ.out).here HN0.out
                      obtain ⟨rfl, rfl⟩ : g = g' ∧ o = o' := by injection he with he; injection he with e1 e2; exact ⟨e1, e2⟩
                      have x1 := hc i hiK
                      rw [HA.out] at x1
                      clear hc he
                      have mK : (m : Int) < K := by omega
                      have y1 := ho.out.cell_i m (by rw [HTL.out]; exact hmK)
                      rw [Nat.zero_add] at y1
                      obtain ⟨u1, hu1⟩ : ∃ u, T2.getD m 0 = u := ⟨_, rfl⟩
                      obtain ⟨u2, hu2⟩ : ∃ u, T2.getD (m - 1) 0 = u := ⟨_, rfl⟩
                      rw [hu1] at y1 hps
                      rw [hu2] at hps
                      have HU2 := mkHid hu2
                      obtain ⟨t1, ht1⟩ : ∃ u, mulI q u1 a = u := ⟨_, rfl⟩
                      rw [ht1] at hps
                      obtain ⟨t2, ht2⟩ : ∃ u, subI q 0 t1 = u := ⟨_, rfl⟩
                      rw [ht2] at hps
                      have kM0 : ∀ W : World, Calls Tryd.prog 28 #[.int .i64 q, .int .i64 u1, .int .i64 a] W fun e w' => e = .returned (.int .i64 t1) ∧ RowKit.Below W.heap.size W w' := fun W => by have h := mul_bb2 q u1 a W; rw [ht1] at h; exact h
                      have kS0 : ∀ W : World, Calls Tryd.prog 26 #[.int .i64 q, .int .i64 0, .int .i64 t1] W fun e w' => e = .returned (.int .i64 t2) ∧ RowKit.Below W.heap.size W w' := fun W => by have h := sub_bb q 0 t1 W; rw [ht2] at h; exact h
                      have KM := mkHid kM0
                      have KS := mkHid kS0
                      clear kM0 kS0 hu1 hu2 ht1 ht2
                      as_aux_lemma =>
                        go_upto_region 24 with (fail)
                        have n1 := cell_regrown x1
                        have n2 := cell_regrown y1
                        have kS := regr wr (fun W _ => KS.out W)
                        have kM := regr wr (fun W _ => KM.out W)
                        clear x1 y1
                        refine wp_region_qtb 15 (by kernel_rfl) (by kernel_rfl) ?_
                        simp only [List.take_succ_cons, List.take_zero, List.drop_succ_cons, List.drop_zero]
                        repeat (go_big_quiet_step (with_reducible (first | exact kM _ _ | exact kS _ _)))
                        refine wpQuiet_nil ?_
                        intro _ hw'
                        obtain ⟨⟨dq, osq⟩, hw''⟩ := hw'
                        subst hw''
                        have hbb := below_regrown wr dq osq
                        have ZT : Hid (T < wr.heap.size) := mkHid ho.out.lt
                        have O3 := mkHid (ho.out.of_block (hbb.block T ZT.out) hbb.size)
                        have B3 := mkHid (hbq.out.trans (hbb.mono (Nat.le_of_lt ZT.out)))
                        clear kS kM n1 n2 hbb KS KM ho hbq BQ BT ZT
                        generalize grow (redrawn wr dq) osq = we at *
                        have z1 := O3.out.cell_i m (by rw [HTL.out]; exact hmK)
                        have z2 := O3.out.warm m hmK
                        rw [Nat.zero_add] at z1 z2
                        have V7 : Hid (OwnAt (we.setCell ⟨T, m, none⟩ (.int .i64 t2)) T T 0 K (iv (T2.set m t2))) := mkHid (by
                          have h := O3.out.set m (.int .i64 t2) (by rw [iv_length, HTL.out]; exact hmK)
                          rw [Nat.zero_add, iv_set] at h
                          exact h)
                        have B7 : Hid (RowKit.Below T wc (we.setCell ⟨T, m, none⟩ (.int .i64 t2))) := mkHid (below_setCell B3.out (p := ⟨T, m, none⟩) (Nat.le_refl _) _)
                        have e7 : IntKind.i64.wrap ((m : Int) - 1) = (K : Int) - 1 - ((l + 1 : Nat) : Int) := by rw [IntWalk.i64_in _ (by omega)]; omega
                        by_cases hm0 : m = 0
                        · have dm : decide ((0 : Int) < m) = false := decide_eq_false (by omega)
                          have dn : ¬ ((0 : Int) < m) := by omega
                          rw [if_pos hm0] at hps
                          have HM0 := mkHid hm0
                          clear hm0
                          go_wp2
                          go_roundw
                          case rel => exact ⟨l + 1, rfl, by omega, by rw [hps.out]; exact V7, B7⟩
                          case measure => simp only [intOf]; omega
                        · have dm : decide ((0 : Int) < m) = true := decide_eq_true (by omega)
                          have dn : (0 : Int) < m := by omega
                          rw [if_neg hm0] at hps
                          have HM0 := mkHid hm0
                          clear hm0
                          have HDN := mkHid dn
                          have m1 : ((m - 1 : Nat) : Int) < K := by omega
                          have e8 : IntKind.i64.wrap ((m : Int) - 1) = ((m - 1 : Nat) : Int) := by rw [IntWalk.i64_in _ (by omega)]; omega
                          have E7 := mkHid e7
                          clear e7
                          go_upto_region 26 with (fail)
                          clear z1 z2
                          generalize we.setCell ⟨T, m, none⟩ (.int .i64 t2) = wf at *
                          have y1 := V7.out.cell_i m (by rw [List.length_set, HTL.out]; exact hmK)
                          have y2 := V7.out.cell_i (m - 1) (by rw [List.length_set, HTL.out]; omega)
                          rw [getD_set _ _ _ _ _ (by rw [HTL.out]; exact hmK), if_pos rfl, Nat.zero_add] at y1
                          rw [getD_set _ _ _ _ _ (by rw [HTL.out]; exact hmK), if_neg (by have := HM0.out; omega), HU2.out, Nat.zero_add] at y2
                          obtain ⟨t3, ht3⟩ : ∃ u, addI q t2 u2 = u := ⟨_, rfl⟩
                          rw [ht3] at hps
                          have kA0 : ∀ W : World, Calls Tryd.prog 24 #[.int .i64 q, .int .i64 t2, .int .i64 u2] W fun e w' => e = .returned (.int .i64 t3) ∧ RowKit.Below W.heap.size W w' := fun W => by have h := add_bb2 q t2 u2 W; rw [ht3] at h; exact h
                          have n1 := cell_regrown y1
                          have n2 := cell_regrown y2
                          have kA := regr wf (fun W _ => kA0 W)
                          clear y1 y2 kA0 ht3
                          refine wp_region_qtb 14 (by kernel_rfl) (by kernel_rfl) ?_
                          simp only [List.take_succ_cons, List.take_zero, List.drop_succ_cons, List.drop_zero]
                          repeat (go_big_quiet_step (with_reducible (first | exact kA _ _)))
                          refine wpQuiet_nil ?_
                          intro _ hw'
                          obtain ⟨⟨dq, osq⟩, hw''⟩ := hw'
                          subst hw''
                          have hbb := below_regrown wf dq osq
                          have ZT : Hid (T < wf.heap.size) := mkHid V7.out.lt
                          have O8 := mkHid (V7.out.of_block (hbb.block T ZT.out) hbb.size)
                          have B8 := mkHid (B7.out.trans (hbb.mono (Nat.le_of_lt ZT.out)))
                          clear kA n1 n2 hbb V7 B7 ZT O3 B3 e8
                          generalize grow (redrawn wf dq) osq = wh at *
                          have z1 := O8.out.cell_i m (by rw [List.length_set, HTL.out]; exact hmK)
                          have z2 := O8.out.warm m hmK
                          rw [Nat.zero_add] at z1 z2
                          have V9 : Hid (OwnAt (wh.setCell ⟨T, m, none⟩ (.int .i64 t3)) T T 0 K (iv (pIn q K a P (l + 1)))) := mkHid (by
                            have h := O8.out.set m (.int .i64 t3) (by rw [iv_length, List.length_set, HTL.out]; exact hmK)
                            rw [Nat.zero_add, iv_set, List.set_set, ← hps.out] at h
                            exact h)
                          have B9 : Hid (RowKit.Below T wc (wh.setCell ⟨T, m, none⟩ (.int .i64 t3))) := mkHid (below_setCell B8.out (p := ⟨T, m, none⟩) (Nat.le_refl _) _)
                          have e7 := E7.out
                          go_wp2
                          go_roundw
                          case rel => exact ⟨l + 1, rfl, by omega, V9, B9⟩
                          case measure => simp only [intOf]; omega
                    · obtain rfl : l = K := by omega
                      rw [show (l : Int) - 1 - l = -1 by omega]
                      have l0 : ((0 : Int)) < l := by have := HN0.out; omega
                      have l1 : 0 < l := by omega
                      have y1 := ho.out.cell_i 0 (by rw [pIn_len, HPL.out]; exact l1)
                      rw [Nat.zero_add] at y1
                      have y2 := (hbq.out.cell (p := ⟨gd, od + i, none⟩) (by have := GL.out; have := HTT.out; show gd < _; omega)).trans (x0.out i hiK)
                      have hTl := pIn_len q l a P l
                      rw [HPL.out] at hTl
                      obtain ⟨T2, hT2⟩ : ∃ T2, pIn q l a P l = T2 := ⟨_, rfl⟩
                      rw [hT2] at ho hst hTl y1
                      have HTL := mkHid hTl
                      clear hT2 hTl
                      obtain ⟨u1, hu1⟩ : ∃ u, T2.getD 0 0 = u := ⟨_, rfl⟩
                      obtain ⟨u2, hu2⟩ : ∃ u, dd.getD i 0 = u := ⟨_, rfl⟩
                      rw [hu1] at y1 hst
                      rw [hu2] at y2 hst
                      obtain ⟨t3, ht3⟩ : ∃ u, addI q u1 u2 = u := ⟨_, rfl⟩
                      rw [ht3] at hst
                      have kA0 : ∀ W : World, Calls Tryd.prog 24 #[.int .i64 q, .int .i64 u1, .int .i64 u2] W fun e w' => e = .returned (.int .i64 t3) ∧ RowKit.Below W.heap.size W w' := fun W => by have h := add_bb2 q u1 u2 W; rw [ht3] at h; exact h
                      have KA := mkHid kA0
                      clear kA0 hu1 hu2 ht3
                      go_upto_region 27 with (fail)
                      have n1 := cell_regrown y1
                      have n2 := cell_regrown y2
                      have kA := regr wr (fun W _ => KA.out W)
                      clear y1 y2
                      refine wp_region_qtb 11 (by kernel_rfl) (by kernel_rfl) ?_
                      simp only [List.take_succ_cons, List.take_zero, List.drop_succ_cons, List.drop_zero]
                      repeat (go_big_quiet_step (with_reducible (first | exact kA _ _)))
                      refine wpQuiet_nil ?_
                      intro _ hw'
                      obtain ⟨⟨dq, osq⟩, hw''⟩ := hw'
                      subst hw''
                      have hbb := below_regrown wr dq osq
                      have ZT : Hid (T < wr.heap.size) := mkHid ho.out.lt
                      have O8 := mkHid (ho.out.of_block (hbb.block T ZT.out) hbb.size)
                      have B8 := mkHid (hbq.out.trans (hbb.mono (Nat.le_of_lt ZT.out)))
                      clear kA n1 n2 hbb ZT KA ho hbq BQ BT
                      generalize grow (redrawn wr dq) osq = wh at *
                      have z1 := O8.out.cell_i 0 (by rw [HTL.out]; exact l1)
                      have z2 := O8.out.warm 0 l1
                      rw [Nat.zero_add] at z1 z2
                      have V9 : Hid (OwnAt (wh.setCell ⟨T, 0, none⟩ (.int .i64 t3)) T T 0 l (iv (pOut q xs l dd (j + 1)))) := mkHid (by
                        have h := O8.out.set 0 (.int .i64 t3) (by rw [iv_length, HTL.out]; exact l1)
                        rw [Nat.zero_add, iv_set, ← hst.out] at h
                        exact h)
                      have B9 : Hid (RowKit.Below T wc (wh.setCell ⟨T, 0, none⟩ (.int .i64 t3))) := mkHid (below_setCell B8.out (p := ⟨T, 0, none⟩) (Nat.le_refl _) _)
                      go_wp2
                      go_roundw
                      case rel => exact ⟨j + 1, rfl, by omega, V9, B9⟩
                      case measure => simp only [intOf]; omega
                · obtain rfl : j = K := by omega
                  rw [show (j : Int) - 1 - j = -1 by omega]
                  go_wp2_with fail
                  go_ret2
                  rw [HDD.out]
                  exact ⟨some ⟨T, 0, none⟩, j, rfl, ho.out.arg (by rw [pOut_len]), (B1.out.trans (hb.out.mono S1.out)).trans (hbq.out.mono (Nat.le_trans S1.out (by have := HG.out; have := GW.out; omega)))⟩
end Go.Proofs.YtbllanmhbfnagaaDoor
