/- SHA-256 of the reference: the whole function (walk). The number of a string by the reference (walk). Groups of the reference: ValidGroup, Member, Element (walks). Groups of the reference: Times, Power, Over, Make, Base (walks). -/
import Derived.Outline
import Derived.Test.YtbllanmhbfnagaaDoorU25
import Derived.Test.YtbllanmhbfnagaaDoorU15
import Derived.Test.YtbllanmhbfnagaaDoorU5
import Derived.Test.YtbllanmhbfnagaaDoorU6
import Derived.Test.YtbllanmhbfnagaaDoorU0
set_option linter.unusedVariables false
set_option linter.unusedSimpArgs false
namespace Go.Proofs.YtbllanmhbfnagaaDoor
open Go.RowKit Go.Sort
/-- The first j bytes of the state. -/
def outK (l : List Nat) (j : Nat) : List Nat := (List.range j).map (fun i => l.getD (i / 4) 0 / 2 ^ (24 - 8 * (i % 4)) % 256)
theorem outK_succ (l : List Nat) (j : Nat) : outK l (j + 1) = outK l j ++ [l.getD (j / 4) 0 / 2 ^ (24 - 8 * (j % 4)) % 256] := by
  simp [outK, List.range_succ]
theorem outK_len (l : List Nat) (j : Nat) : (outK l j).length = j := by simp [outK]
theorem outK_done (v : St) : outK (stL v) 32 = outL (stL v) 8 := by
  rw [outL_done]
  simp [outK, stBytes, wordBytes, stL, List.range, List.range.loop]
theorem stL_lt {v : St} (h : StOK v) (j : Nat) : (stL v).getD j 0 < 4294967296 := by
  obtain ⟨h0, h1, h2, h3, h4, h5, h6, h7⟩ := h
  match j with
  | 0 => exact h0
  | 1 => exact h1
  | 2 => exact h2
  | 3 => exact h3
  | 4 => exact h4
  | 5 => exact h5
  | 6 => exact h6
  | 7 => exact h7
  | n + 8 => show 0 < _; omega
theorem outK_lt (l : List Nat) (j : Nat) : ∀ y ∈ outK l j, y < 256 := by
  intro y hy
  obtain ⟨i, _, rfl⟩ := List.mem_map.1 hy
  exact Nat.mod_lt _ (by omega)
set_option maxHeartbeats 4000000 in
set_option maxRecDepth 100000 in
theorem rsha_any (s : ByteArray) (w : World) (hs : s.size ≤ 1099511627776) :
    Calls Tryd.prog 33 #[.string s] w fun e w' => e = .returned (.string (strN (shaF (bytesN s)))) ∧ Below w.heap.size w w' := by
  obtain ⟨l, hl⟩ : ∃ l, bytesN s = l := ⟨_, rfl⟩
  have hL : s.size = l.length := by rw [← hl, bytesN_length]
  have hlt : ∀ j, l.getD j 0 < 256 := fun j => by rw [← hl]; exact bytesN_lt s j
  rw [hl]
  have HL := mkHid hl
  have HLT := mkHid hlt
  clear hl hlt
  have HS : Hid (l.length ≤ 1099511627776) := mkHid (by omega)
  have HSZ := mkHid hL
  clear hs hL
  go_enter Tryd.func33, Tryd.ntmps33
  go_wp2_with (refine wpList_bytes_of _ rfl 9 83 (.tmp 8) rfl 5 .string Tryd.underlying9 Tryd.underlying83 Tryd.underlying5 s ?cs ?cm ?_; (case cs => rfl); (case cm => have := HS.out; have := HSZ.out; simp only [maxLen]; omega); intro g0 c0 w1 o1 b1; rw [HL.out] at o1; have O1 := mkHid o1; have B1 := mkHid b1; have e0 := HSZ.out; rw [e0]; clear o1 b1 e0)
  refine (padded_any g0 0 c0 l _ HS.out O1.out.cells O1.out.lt).mono ?_
  rintro e w2 ⟨g, off, cap, rfl, o2, b2⟩
  have O2 := mkHid o2
  have B2 := mkHid (B1.out.trans (b2.mono B1.out.size))
  clear o2 b2
  obtain ⟨N, hN⟩ : ∃ N, (padF l).length = 64 * N := ⟨_, padF_blocks l⟩
  have hp : Hid (∀ j, (padF l).getD j 0 < 256) := mkHid (padF_lt l HLT.out)
  have hsha := mkHid (shaF_eq l N hN)
  have hNb : N ≤ 17179869188 := by
    have h1 := padF_len l; have := zerosN_le l.length; have := HS.out; omega
  rw [hN]
  have HN := mkHid hN
  clear hN
  generalize padF l = p at *
  go_wp2_with fail
  refine (firsts_any _).mono ?_
  rintro e w3 ⟨rfl, hw3⟩
  have BN := (Below.refl w2.heap.size w2).alloc (Nat.le_refl _) (.cells (wcells (stL firstF)) 84)
  have ON := own_built w2 84 (stL firstF) (by simp [maxLen, stL])
  have hcp : 64 * N ≤ cap := by have := O2.out.le; rw [bv_length, HN.out] at this; exact this
  have HC : Hid (∀ j, j < 64 * N → w3.cell? ⟨g, off + j, none⟩ = some (.int .u8 (p.getD j 0 : Nat))) := mkHid (fun j hj => by
    rw [hw3, BN.cell (p := ⟨g, off + j, none⟩) O2.out.lt]
    exact O2.out.cells j _ (bv_at p j (by rw [HN.out]; exact hj)))
  have RH : Hid (Reads w3 w2.heap.size 0 (wv (stL (blocksF p 0)))) := mkHid (by rw [hw3]; exact ON.cells)
  have LH : w2.heap.size < w3.heap.size := by rw [hw3]; exact ON.lt
  have LG : g < w3.heap.size := by rw [hw3]; exact Nat.lt_of_lt_of_le O2.out.lt BN.size
  have B3 : Hid (Below w.heap.size w w3) := mkHid (by rw [hw3]; exact B2.out.trans (BN.mono B2.out.size))
  clear BN ON hw3 O1 O2 B1 B2
  go_wp2_with fail
  go_loopw [4, 5] (fun c d wr => ∃ (i gh oh ch k : Nat), c = .slice (some ⟨gh, oh, none⟩) 8 ch ∧ d = .int .i64 k ∧ i ≤ N ∧ Hid (k = 64 * i) ∧ Hid (Reads wr gh oh (wv (stL (blocksF p i)))) ∧ gh < wr.heap.size ∧ g < wr.heap.size ∧ Hid (∀ j, j < 64 * N → wr.cell? ⟨g, off + j, none⟩ = some (.int .u8 (p.getD j 0 : Nat))) ∧ Hid (Below w.heap.size w wr)) (fun _ d _ => (64 * N - intOf d).toNat)
  case atStart => exact ⟨0, w2.heap.size, 0, 8, 0, rfl, rfl, by omega, mkHid rfl, RH, LH, LG, HC, B3⟩
  case round =>
    clear RH LH LG HC B3
    obtain ⟨i, gh, oh, ch, k, rfl, rfl, hi, hk, hr, lh, lg, hc, hb⟩ := hrel
    by_cases hlt : i < N
    · have h1 : k + 64 ≤ 64 * N := by have := hk.out; omega
      have h2 : k + 64 ≤ cap := by omega
      have h3 : (k : Int) < 64 * N := by omega
      have h4 : (k : Int) + 64 ≤ cap := by omega
      have h5 : IntKind.i64.wrap ((k : Int) + 64) = (k : Int) + 64 := IntWalk.i64_in _ (by omega)
      have h6 : ((k : Int) + 64).toNat = k + 64 := by omega
      have h7 : ¬ cap - k = 0 := by omega
      have h8 : 0 ≤ (k : Int) + 64 := by omega
      have h9 : k + 64 - k = 64 := by omega
      have h10 : ¬ cap = k := by omega
      have h11 : (k : Int) ≤ (k : Int) + 64 := by omega
      go_wp2_with fail
      have HBK := mkHid (blk_len p i N HN.out hlt)
      have hcb : Hid (∀ j, j < 64 → wr.cell? ⟨g, (off + k) + j, none⟩ = some (.int .u8 (((p.drop (64 * i)).take 64).getD j 0 : Nat))) := mkHid (fun j hj => by
        rw [blk_getD p i j hj, ← hk.out, Nat.add_assoc]; exact hc.out (k + j) (by omega))
      have hbl := mkHid (blk_lt p i hp.out)
      have hsu := mkHid (blocksF_succ p i)
      generalize (p.drop (64 * i)).take 64 = bl at *
      refine (rblock_any gh oh ch g (off + k) (cap - k) bl (blocksF p i) wr HBK.out hbl.out (by omega) hcb.out lg (blocksF_ok p i) hr.out lh).mono ?_
      rintro e w4 ⟨g4, o4, c4, rfl, q4, b4⟩
      rw [← hsu.out] at q4
      have R4 := mkHid q4.cells
      have l4 := q4.lt
      have l5 : g < w4.heap.size := Nat.lt_of_lt_of_le lg b4.size
      have C4 : Hid (∀ j, j < 64 * N → w4.cell? ⟨g, off + j, none⟩ = some (.int .u8 (p.getD j 0 : Nat))) := mkHid (fun j hj => by rw [b4.cell (p := ⟨g, off + j, none⟩) lg]; exact hc.out j hj)
      have B4 := mkHid (hb.out.trans (b4.mono hb.out.size))
      clear q4 b4 hcb hc hr hb
      go_wp2_with fail
      go_roundw
      case rel => exact ⟨i + 1, g4, o4, c4, k + 64, rfl, by go_num, by omega, mkHid (by have := hk.out; omega), R4, l4, l5, C4, B4⟩
      case measure => simp [intOf]; omega
    · obtain rfl : i = N := by omega
      have hk2 : ¬ (k : Int) < 64 * i := by have := hk.out; omega
      have h8l : Hid ((stL (blocksF p i)).length = 8) := mkHid rfl
      have HSH : Hid (shaF l = outK (stL (blocksF p i)) 32) := mkHid (by rw [outK_done]; exact hsha.out)
      have HLW : Hid (∀ j, (stL (blocksF p i)).getD j 0 < 4294967296) := mkHid (stL_lt (blocksF_ok p i))
      clear hsha
      generalize stL (blocksF p i) = ol at *
      go_wp2_with fail
      have ON := own_new0 wr 5 wr.heap.size (Nat.le_refl _)
      have hwB := hb.out.size
      have hgB := lh
      obtain ⟨Bq, hBq⟩ : ∃ y, y = wr.heap.size := ⟨_, rfl⟩
      have BN := (Below.refl wr.heap.size wr).alloc (Nat.le_refl _) (.cells #[] 5)
      have z5 : Hid (Bq ≤ (wr.alloc (.cells #[] 5)).heap.size) := mkHid (by rw [hBq]; exact BN.size)
      rw [← hBq] at hwB hgB
      have O5 : Hid (OwnS (wr.alloc (.cells #[] 5)) Bq 0 (bv (outK ol 0)) (some ⟨wr.heap.size, 0, none⟩)) := mkHid (by rw [hBq]; exact ON.s)
      have R5 := mkHid (hr.out.of_block (BN.block gh lh))
      have l5 : gh < (wr.alloc (.cells #[] 5)).heap.size := Nat.lt_of_lt_of_le lh BN.size
      have B5 := mkHid (hb.out.trans (BN.mono hb.out.size))
      clear ON BN hr hb hc lh lg hk hk2 hBq
      generalize wr.alloc (.cells #[] 5) = w5 at *
      go_loopw [6, 7] (fun c d wr => ∃ (j n cap : Nat) (ao : Option Addr), c = .slice ao n cap ∧ d = .int .i64 j ∧ j ≤ 32 ∧ Hid (n = j) ∧ Hid (OwnS wr Bq cap (bv (outK ol j)) ao) ∧ Hid (Reads wr gh oh (wv ol)) ∧ Hid (Bq ≤ wr.heap.size) ∧ Hid (Below w.heap.size w wr)) (fun _ d _ => (32 - intOf d).toNat)
      case atStart => exact ⟨0, 0, 0, _, rfl, rfl, by omega, mkHid rfl, O5, R5, z5, B5⟩
      case round =>
        clear O5 R5 l5 B5 z5
        obtain ⟨j, n, cap3, ao, rfl, rfl, hj, hn, ho, hr, hz, hb⟩ := hrel
        by_cases hlt2 : j < 32
        · have hst := mkHid (outK_succ ol j)
          have hln := mkHid (outK_len ol j)
          obtain ⟨q, hq⟩ : ∃ q, j / 4 = q := ⟨_, rfl⟩
          obtain ⟨r, hrr⟩ : ∃ r, j % 4 = r := ⟨_, rfl⟩
          have hq8 : q < 8 := by omega
          have hr4 : r < 4 := by omega
          have ce := hr.out q _ (wv_at ol q (by rw [h8l.out]; exact hq8))
          have hxl := HLW.out q
          rw [hq, hrr] at hst
          generalize ol.getD q 0 = x at *
          obtain ⟨y, hy⟩ : ∃ y, x / 2 ^ (24 - 8 * r) % 256 = y := ⟨_, rfl⟩
          rw [hy] at hst
          have e1 : (j : Int).tdiv 4 = (q : Int) := by rw [Int.tdiv_eq_ediv_of_nonneg (by omega)]; omega
          have e2 : (j : Int) / 4 = (q : Int) := by omega
          have e3 : (j : Int).tmod 4 = (r : Int) := by rw [Int.tmod_eq_emod_of_nonneg (by omega)]; omega
          have e4 : (j : Int) % 4 = (r : Int) := by omega
          have e5 : (q : Int) < 8 := by omega
          have e6 : IntKind.i64.wrap (8 * (r : Int)) = 8 * (r : Int) := IntWalk.i64_in _ (by omega)
          have e7 : IntKind.i64.wrap (24 - 8 * (r : Int)) = 24 - 8 * (r : Int) := IntWalk.i64_in _ (by omega)
          have e8 : (24 - 8 * (r : Int)).toNat = 24 - 8 * r := by omega
          have e9 : 0 ≤ 24 - 8 * (r : Int) := by omega
          have e10 : 24 - 8 * (r : Int) < 32 := by omega
          have e11 : ((x : Int) / 2 ^ (24 - 8 * r)) % 256 = ((y : Nat) : Int) := by rw [← hy]; push_cast; rfl
          have e12 : 8 * (r : Int) ≤ 24 := by omega
          clear hq hrr hy
          go_wp2_with (at_builtin; refine app_bytes wr Bq rfl (.tmp 30) (.tmp 42) rfl ao cap3 n (outK ol j) ?y1 ?y2 ho.out hz.out 1 1 #[.int .u8 (y : Nat)] 5 [y] ?y3 rfl rfl (by omega) ?y4 ?_; (case y1 => exact hn.out.trans hln.out.symm); (case y2 => rfl); (case y3 => rfl); (case y4 => have := hn.out; omega); intro g4 off4 c4 w4 o4 b4; rw [← hst.out] at o4; have O4 := mkHid o4; have B4 := mkHid (hb.out.trans (b4.mono hwB)); have R4 := mkHid (hr.out.of_block (b4.block gh hgB)); have Z4 := mkHid (Nat.le_trans hz.out b4.size); clear o4 b4)
          go_roundw
          case rel => exact ⟨j + 1, n + 1, c4, some ⟨g4, off4, none⟩, rfl, by go_num, by omega, mkHid (by have := hn.out; omega), mkHid O4.out.s, R4, Z4, B4⟩
          case measure => simp [intOf]; omega
        · obtain rfl : j = 32 := by omega
          obtain rfl : n = 32 := hn.out
          have hlen := outK_len ol 32
          have hoo : ∃ g off, ao = some ⟨g, off, none⟩ ∧ Hid (Reads wr g off (bv (outK ol 32))) := by
            cases ho.out with
            | nil h => have := congrArg List.length h; rw [bv_length, hlen] at this; simp at this
            | «at» g off h => exact ⟨g, off, rfl, mkHid h.cells⟩
          obtain ⟨g5, off5, rfl, hr5⟩ := hoo
          have hlt2 := mkHid (outK_lt ol 32)
          have hl32 := mkHid hlen
          clear ho hn hlen hr
          rw [show ((32 : Nat) : Int) = 32 from rfl]
          go_wp2_with (refine wpList_string_of _ rfl 83 9 (.tmp 44) rfl 5 Tryd.underlying83 Tryd.underlying5 Tryd.underlying9 ⟨g5, off5, none⟩ 32 cap3 (outK ol 32) ?z1 hl32.out.symm hlt2.out ?z2 ?_; (case z1 => rfl); (case z2 => (intro j u hj; rw [Addr.add_lit]; exact hr5.out j u hj)))
          go_ret
          exact ⟨by rw [HSH.out]; rfl, hb.out⟩
end Go.Proofs.YtbllanmhbfnagaaDoor
namespace Go.Proofs.YtbllanmhbfnagaaDoor
open Go.RowKit Go.Sort
theorem rmul_bb (n a b : Int) (w : World) :
    Calls Tryd.prog 29 #[.int .i64 n, .int .i64 a, .int .i64 b] w fun e w' => e = .returned (.int .i64 (mulI n a b)) ∧ Below w.heap.size w w' :=
  (rmul_any n a b w).mono fun _ _ ⟨h1, h2⟩ => ⟨h1, h2 ▸ Below.refl _ _⟩
theorem radd_bb (n a b : Int) (w : World) :
    Calls Tryd.prog 25 #[.int .i64 n, .int .i64 a, .int .i64 b] w fun e w' => e = .returned (.int .i64 (addI n a b)) ∧ Below w.heap.size w w' :=
  (radd_any n a b w).mono fun _ _ ⟨h1, h2⟩ => ⟨h1, h2 ▸ Below.refl _ _⟩
set_option maxHeartbeats 2000000 in
set_option maxRecDepth 100000 in
theorem rnumber_any (s : ByteArray) (n : Int) (w : World) (hs : s.size ≤ 1099511627776) :
    Calls Tryd.prog 35 #[.string s, .int .i64 n] w fun e w' => e = .returned (.int .i64 (numI n (shaF (bytesN s)))) ∧ Below w.heap.size w w' := by
  have hl32 := mkHid (shaF_len (bytesN s))
  have hlt := mkHid (shaF_lt (bytesN s))
  obtain ⟨l, hl⟩ : ∃ l, shaF (bytesN s) = l := ⟨_, rfl⟩
  have HL := mkHid hl
  rw [hl] at hl32 hlt ⊢
  clear hl
  cases hm : modB n with
  | false =>
    have hr : Hid (numI n l = 0) := mkHid (by unfold numI; rw [hm]; rfl)
    have V := mkHid hm
    clear hm
    go_enter Tryd.func35, Tryd.ntmps35
    go_wp2_with fail
    refine (rvalid_no n _ V.out).mono ?_
    rintro e w' ⟨rfl, rfl⟩
    go_wp2
    go_ret
    exact ⟨by rw [hr.out]; rfl, Below.refl _ _⟩
  | true =>
    have hr : Hid (numI n l = numL n (l.take 32)) := mkHid (by unfold numI; rw [hm, List.take_of_length_le (by rw [hl32.out]; exact Nat.le_refl _)]; rfl)
    have V := mkHid hm
    clear hm
    go_enter Tryd.func35, Tryd.ntmps35
    go_wp2_with fail
    refine (rvalid_yes n _ V.out).mono ?_
    rintro e w' ⟨rfl, rfl⟩
    go_wp2_with fail
    refine (rsha_any s _ hs).mono ?_
    rintro e w1 ⟨rfl, b1⟩
    rw [HL.out]
    have B1 := mkHid b1
    have hsz : Hid ((strN l).size = 32) := mkHid (by rw [strN_size, hl32.out])
    have hix := mkHid (fun j hj W => str_at l j hj hlt.out W)
    clear b1
    generalize strN l = t at *
    go_wp2_with fail
    go_loopw [6, 7] (fun c d wr => ∃ (j : Nat), c = .int .i64 (numL n (l.take j)) ∧ d = .int .i64 j ∧ j ≤ 32 ∧ Hid (Below w.heap.size w wr)) (fun _ d _ => (32 - intOf d).toNat)
    case atStart => exact ⟨0, rfl, rfl, by omega, B1⟩
    case round =>
      clear B1
      obtain ⟨j, rfl, rfl, hj, hb⟩ := hrel
      have hz := hsz.out
      by_cases hlt2 : j < 32
      · have hst := mkHid (numL_take n l j (by rw [hl32.out]; exact hlt2))
        have hxl : l.getD j 0 < 256 := by
          rw [List.getD, List.getElem?_eq_getElem (by rw [hl32.out]; exact hlt2)]
          exact hlt.out _ (List.getElem_mem _)
        have hnb := numL_bd n (l.take j)
        have hx := hix.out j (by rw [hl32.out]; exact hlt2)
        generalize l.getD j 0 = x at *
        generalize numL n (l.take j) = o at *
        have hjj : (j : Int) < 32 := by omega
        have cx : IntKind.i64.wrap (x : Int) = (x : Int) := IntWalk.i64_in _ (by omega)
        have q1 : ∀ W : World, Calls Tryd.prog 29 #[.int .i64 n, .int .i64 o, .int .i64 256] W fun e' w' => e' = .returned (.int .i64 (mulI n o 256)) ∧ Below W.heap.size W w' := fun W => rmul_bb n o 256 W
        have q2 : ∀ W : World, Calls Tryd.prog 25 #[.int .i64 n, .int .i64 (mulI n o 256), .int .i64 (x : Int)] W fun e' w' => e' = .returned (.int .i64 (addI n (mulI n o 256) x)) ∧ Below W.heap.size W w' := fun W => radd_bb n (mulI n o 256) x W
        rw [← hst.out] at q2
        generalize mulI n o 256 = o2 at *
        generalize hq : numL n (l.take (j + 1)) = o3 at *
        have HQ := mkHid hq
        have Q1 := mkHid q1
        have Q2 := mkHid q2
        clear q1 q2 hst hq
        go_upto_region 8 with (fail)
        have k1 := regr wr (fun W _ => Q1.out W)
        have k2 := regr wr (fun W _ => Q2.out W)
        refine wp_region_quiet_below (by kernel_rfl) (by kernel_rfl) ?_
        repeat (quiet_step (with_reducible (first | exact k1 _ _ | exact k2 _ _)))
        refine wpQuiet_nil ?_
        intro _ hw'
        obtain ⟨⟨dq, osq⟩, hw''⟩ := hw'
        subst hw''
        have B4 := mkHid (hb.out.trans ((below_regrown wr dq osq).mono hb.out.size))
        clear k1 k2 hx
        generalize grow (redrawn wr dq) osq = wa at *
        go_wp2_with fail
        go_roundw
        case rel => exact ⟨j + 1, by rw [HQ.out], by go_num, by omega, B4⟩
        case measure => simp only [intOf]; omega
      · obtain rfl : j = 32 := by omega
        rw [← hr.out]
        go_wp2
        go_ret
        exact ⟨rfl, hb.out⟩
end Go.Proofs.YtbllanmhbfnagaaDoor
namespace Go.Proofs.YtbllanmhbfnagaaDoor
open Go.RowKit Go.Sort
theorem rpower_s (n a b : Int) (w : World) (hm : modB n = true) (b0 : 0 ≤ b) (b1 : b ≤ 9223372036854775807) :
    Calls Tryd.prog 85 #[.int .i64 n, .int .i64 a, .int .i64 b] w fun e w' => e = .returned (.int .i64 (powS n a b)) ∧ Below w.heap.size w w' := by
  rw [powS_nn hm b0]
  exact (rpower_any n a b w hm b0 b1).mono fun _ _ ⟨h1, h2⟩ => ⟨h1, h2 ▸ Below.refl _ _⟩
set_option maxHeartbeats 2000000 in
set_option maxRecDepth 100000 in
theorem rvalid_group_any (P Q G : Int) (w : World) :
    Calls Tryd.prog 47 #[.agg #[.int .i64 P, .int .i64 Q, .int .i64 G]] w fun e w' => e = .returned (.bool (vgB P Q G)) ∧ Below w.heap.size w w' := by
  have B1 := mkHid ((Below.refl w.heap.size w).alloc (Nat.le_refl _) (.cells #[.int .i64 P, .int .i64 Q, .int .i64 G] 38))
  have G1 := mkHid (GrpAt.new w 38 P Q G)
  by_cases h1 : Q < 5
  · have hv := mkHid (vg_no (P := P) (Q := Q) (G := G) (fun h => by have := h.q5; omega))
    go_enter Tryd.func47, Tryd.ntmps47
    go_wp2
    go_ret
    exact ⟨ret_bool hv.out.symm, B1.out⟩
  by_cases h2 : 1152921504606846976 ≤ Q
  · have hv := mkHid (vg_no (P := P) (Q := Q) (G := G) (fun h => by have := h.qm; omega))
    go_enter Tryd.func47, Tryd.ntmps47
    go_wp2
    go_ret
    exact ⟨ret_bool hv.out.symm, B1.out⟩
  by_cases h3 : P = 2 * Q + 1
  · subst h3
    by_cases h4 : G < 2
    · have hv := mkHid (vg_no (P := 2 * Q + 1) (Q := Q) (G := G) (fun h => by have := h.g2; omega))
      go_enter Tryd.func47, Tryd.ntmps47
      go_wp2
      go_ret
      exact ⟨ret_bool hv.out.symm, B1.out⟩
    by_cases h5 : 2 * Q + 1 ≤ G
    · have hv := mkHid (vg_no (P := 2 * Q + 1) (Q := Q) (G := G) (fun h => by have := h.gp; omega))
      go_enter Tryd.func47, Tryd.ntmps47
      go_wp2
      go_ret
      exact ⟨ret_bool hv.out.symm, B1.out⟩
    have HE := mkHid (vg_eq (P := 2 * Q + 1) (Q := Q) (G := G) (by omega) (by omega) rfl (by omega) (by omega))
    have c5 : (5 : Int) ≤ Q := by omega
    have c6 : Q < 1152921504606846976 := by omega
    cases hq : primeB Q with
    | false =>
      have HQ := mkHid hq
      clear hq
      go_enter Tryd.func47, Tryd.ntmps47
      go_wp2_with fail
      refine (rprime_any Q _).mono ?_
      rintro e w2 ⟨rfl, b2⟩
      rw [HQ.out]
      go_wp2
      go_ret
      exact ⟨ret_bool (by rw [HE.out, HQ.out]; rfl), B1.out.trans (b2.mono B1.out.size)⟩
    | true =>
      have HQ := mkHid hq
      clear hq
      cases hp : primeB (2 * Q + 1) with
      | false =>
        have HP := mkHid hp
        clear hp
        go_enter Tryd.func47, Tryd.ntmps47
        go_wp2_with fail
        refine (rprime_any Q _).mono ?_
        rintro e w2 ⟨rfl, b2⟩
        rw [HQ.out]
        have g2 := G1.out.below b2
        have B2 := mkHid (B1.out.trans (b2.mono B1.out.size))
        obtain ⟨g2p, g2q, g2g, g2l⟩ := g2
        clear b2
        go_wp2_with fail
        refine (rprime_any (2 * Q + 1) _).mono ?_
        rintro e w3 ⟨rfl, b3⟩
        rw [HP.out]
        clear g2p g2q g2g
        go_wp2
        go_ret
        exact ⟨ret_bool (by rw [HE.out, HQ.out, HP.out]; rfl), B2.out.trans (b3.mono B2.out.size)⟩
      | true =>
        have HP := mkHid hp
        clear hp
        cases ho : (powS (2 * Q + 1) G Q == 1) with
        | false =>
          have HO := mkHid ho
          clear ho
          go_enter Tryd.func47, Tryd.ntmps47
          go_wp2_with fail
          refine (rprime_any Q _).mono ?_
          rintro e w2 ⟨rfl, b2⟩
          rw [HQ.out]
          have g2 := G1.out.below b2
          have G2 := mkHid g2
          have B2 := mkHid (B1.out.trans (b2.mono B1.out.size))
          obtain ⟨g2p, g2q, g2g, g2l⟩ := g2
          clear b2
          go_wp2_with fail
          refine (rprime_any (2 * Q + 1) _).mono ?_
          rintro e w3 ⟨rfl, b3⟩
          rw [HP.out]
          clear g2p g2q g2g
          obtain ⟨g3p, g3q, g3g, g3l⟩ := G2.out.below b3
          have B3 := mkHid (B2.out.trans (b3.mono B2.out.size))
          clear b3
          go_wp2_with fail
          refine (rpower_s (2 * Q + 1) G Q _ (modB_iff.2 (by omega)) (by omega) (by omega)).mono ?_
          rintro e w4 ⟨rfl, b4⟩
          have hoo := HO.out
          generalize powS (2 * Q + 1) G Q = x at *
          go_wp2
          go_ret
          exact ⟨ret_bool (by rw [HE.out, HQ.out, HP.out, HO.out]; rfl), B3.out.trans (b4.mono B3.out.size)⟩
        | true =>
          have HO := mkHid ho
          clear ho
          go_enter Tryd.func47, Tryd.ntmps47
          go_wp2_with fail
          refine (rprime_any Q _).mono ?_
          rintro e w2 ⟨rfl, b2⟩
          rw [HQ.out]
          have g2 := G1.out.below b2
          have G2 := mkHid g2
          have B2 := mkHid (B1.out.trans (b2.mono B1.out.size))
          obtain ⟨g2p, g2q, g2g, g2l⟩ := g2
          clear b2
          go_wp2_with fail
          refine (rprime_any (2 * Q + 1) _).mono ?_
          rintro e w3 ⟨rfl, b3⟩
          rw [HP.out]
          clear g2p g2q g2g
          obtain ⟨g3p, g3q, g3g, g3l⟩ := G2.out.below b3
          have B3 := mkHid (B2.out.trans (b3.mono B2.out.size))
          clear b3
          go_wp2_with fail
          refine (rpower_s (2 * Q + 1) G Q _ (modB_iff.2 (by omega)) (by omega) (by omega)).mono ?_
          rintro e w4 ⟨rfl, b4⟩
          have hoo := HO.out
          generalize powS (2 * Q + 1) G Q = x at *
          go_wp2
          go_ret
          exact ⟨ret_bool (by rw [HE.out, HQ.out, HP.out, HO.out]; rfl), B3.out.trans (b4.mono B3.out.size)⟩
  · have hv := mkHid (vg_no (P := P) (Q := Q) (G := G) (fun h => by have := h.p; omega))
    go_enter Tryd.func47, Tryd.ntmps47
    go_wp2
    go_ret
    exact ⟨ret_bool hv.out.symm, B1.out⟩
set_option maxHeartbeats 2000000 in
set_option maxRecDepth 100000 in
theorem rmember_any (P Q G x : Int) (w : World) (h1 : 1 ≤ x) (h2 : x < P) (hm : modB P = true) (q0 : 0 ≤ Q) (q1 : Q ≤ 9223372036854775807) :
    Calls Tryd.prog 91 #[grpV P Q G, .int .i64 x] w fun e w' => e = .returned (.bool (powS P x Q == 1)) ∧ Below w.heap.size w w' := by
  unfold grpV gcells
  have B1 := mkHid ((Below.refl w.heap.size w).alloc (Nat.le_refl _) (.cells (gcells P Q G) 38))
  have M := mkHid hm
  have c1 : ¬ x < 1 := by omega
  clear hm
  go_enter Tryd.func91, Tryd.ntmps91
  go_wp2_with fail
  refine (rpower_s P x Q _ M.out q0 q1).mono ?_
  rintro e w2 ⟨rfl, b2⟩
  have B2 := mkHid (B1.out.trans (b2.mono B1.out.size))
  clear b2
  cases ho : (powS P x Q == 1) with
  | false =>
    have HO := mkHid ho
    go_wp2
    go_ret
    exact ⟨ret_bool HO.out.symm, B2.out⟩
  | true =>
    have HO := mkHid ho
    go_wp2
    go_ret
    exact ⟨ret_bool HO.out.symm, B2.out⟩
set_option maxHeartbeats 2000000 in
set_option maxRecDepth 100000 in
theorem relement_any (P Q G x : Int) (w : World) :
    Calls Tryd.prog 48 #[grpV P Q G, .int .i64 x] w fun e w' => e = .returned (.bool (elB P Q G x)) ∧ Below w.heap.size w w' := by
  have r0 : ∀ W : World, Calls Tryd.prog 47 #[grpV P Q G] W fun e w' => e = .returned (.bool (vgB P Q G)) ∧ Below W.heap.size W w' := fun W => rvalid_group_any P Q G W
  have r1 := fun (W : World) h1 h2 hm q0 q1 => rmember_any P Q G x W h1 h2 hm q0 q1
  unfold grpV gcells at r0 r1 ⊢
  have R0 := mkHid r0
  have R1 := mkHid r1
  clear r0 r1
  have B1 := mkHid ((Below.refl w.heap.size w).alloc (Nat.le_refl _) (.cells (gcells P Q G) 38))
  have G1 := mkHid (HasG.new w P Q G)
  by_cases h1 : x < 1
  · have hv : Hid (elB P Q G x = false) := mkHid (by unfold elB; rw [decide_eq_false (by omega)]; rfl)
    go_enter Tryd.func48, Tryd.ntmps48
    go_wp2
    go_ret
    exact ⟨ret_bool hv.out.symm, B1.out⟩
  by_cases h2 : P ≤ x
  · have hv : Hid (elB P Q G x = false) := mkHid (by unfold elB; rw [decide_eq_false (p := x < P) (by omega)]; simp)
    go_enter Tryd.func48, Tryd.ntmps48
    go_wp2
    go_ret
    exact ⟨ret_bool hv.out.symm, B1.out⟩
  have HE := mkHid (el_eq (Q := Q) (G := G) (show 1 ≤ x by omega) (show x < P by omega))
  cases hq : vgB P Q G with
  | false =>
    have HQ := mkHid hq
    clear hq
    go_enter Tryd.func48, Tryd.ntmps48
    go_wp2_with fail
    refine (R0.out _).mono ?_
    rintro e w2 ⟨rfl, b2⟩
    rw [HQ.out]
    go_wp2
    go_ret
    exact ⟨ret_bool (by rw [HE.out, HQ.out]; rfl), B1.out.trans (b2.mono B1.out.size)⟩
  | true =>
    have qb := mkHid ((vgB_iff P Q G).1 hq)
    have HQ := mkHid hq
    clear hq
    go_enter Tryd.func48, Tryd.ntmps48
    go_wp2_with fail
    refine (R0.out _).mono ?_
    rintro e w2 ⟨rfl, b2⟩
    rw [HQ.out]
    have B2 := mkHid (B1.out.trans (b2.mono B1.out.size))
    obtain ⟨g1, g2, g3⟩ := (G1.out.below b2).cells
    clear b2
    go_wp2_with fail
    refine (R1.out _ (by omega) (by omega) (modB_iff.2 (by have := qb.out.q5; have := qb.out.qm; have := qb.out.p; omega)) (by have := qb.out.q5; omega) (by have := qb.out.qm; omega)).mono ?_
    rintro e w4 ⟨rfl, b4⟩
    have B4 := mkHid (B2.out.trans (b4.mono B2.out.size))
    clear b4 g1 g2 g3
    cases ho : (powS P x Q == 1) with
    | false =>
      have HO := mkHid ho
      clear ho
      go_wp2
      go_ret
      exact ⟨ret_bool (by rw [HE.out, HQ.out, HO.out]; rfl), B4.out⟩
    | true =>
      have HO := mkHid ho
      clear ho
      go_wp2
      go_ret
      exact ⟨ret_bool (by rw [HE.out, HQ.out, HO.out]; rfl), B4.out⟩
end Go.Proofs.YtbllanmhbfnagaaDoor
namespace Go.Proofs.YtbllanmhbfnagaaDoor
open Go.RowKit Go.Sort
theorem rresidue_b (n a : Int) (w : World) (h1 : 1 ≤ n) (h2 : n < 2305843009213693952) :
    Calls Tryd.prog 79 #[.int .i64 n, .int .i64 a] w fun e w' => e = .returned (.int .i64 (a % n)) ∧ Below w.heap.size w w' :=
  (rresidue_any n a w h1 h2).mono fun _ _ ⟨a, b⟩ => ⟨a, by subst b; exact Below.refl _ _⟩
theorem rpow_k (n a b : Int) (w : World) (hm : modB n = true) (b0 : 0 ≤ b) (b1 : b ≤ 9223372036854775807) :
    Calls Tryd.prog 85 #[.int .i64 n, .int .i64 a, .int .i64 b] w fun e w' => e = .returned (.int .i64 (powI n a b.toNat)) ∧ Below w.heap.size w w' :=
  (rpower_any n a b w hm b0 b1).mono fun _ _ ⟨a, b⟩ => ⟨a, by subst b; exact Below.refl _ _⟩
theorem rpow_b (n a b : Int) (w : World) (hb0 : -9223372036854775808 ≤ b) (hb1 : b ≤ 9223372036854775807) :
    Calls Tryd.prog 31 #[.int .i64 n, .int .i64 a, .int .i64 b] w fun e w' => e = .returned (.int .i64 (powS n a b)) ∧ Below w.heap.size w w' :=
  (rpow_any n a b w hb0 hb1).mono fun _ _ ⟨a, b⟩ => ⟨a, by subst b; exact Below.refl _ _⟩
set_option maxHeartbeats 1000000 in
set_option maxRecDepth 100000 in
theorem rtimes_any (P Q G a b : Int) (w : World) :
    Calls Tryd.prog 50 #[grpV P Q G, .int .i64 a, .int .i64 b] w fun e w' => e = .returned (.int .i64 (gtI P Q a b)) ∧ Below w.heap.size w w' := by
  unfold grpV gcells
  have B1 := mkHid ((Below.refl w.heap.size w).alloc (Nat.le_refl _) (.cells (gcells P Q G) 38))
  cases hQ : modB Q with
  | false =>
    have hr : Hid (gtI P Q a b = 0) := mkHid (by unfold gtI; rw [hQ]; rfl)
    have V := mkHid hQ
    clear hQ
    go_enter Tryd.func50, Tryd.ntmps50
    go_wp2_with fail
    refine (rvalid_no Q _ V.out).mono ?_
    rintro e w' ⟨rfl, rfl⟩
    go_wp2
    go_ret
    exact ⟨by rw [hr.out]; rfl, B1.out⟩
  | true =>
    have hr : Hid (gtI P Q a b = mulI P a b) := mkHid (by unfold gtI; rw [hQ]; rfl)
    have V := mkHid hQ
    clear hQ
    go_enter Tryd.func50, Tryd.ntmps50
    go_wp2_with fail
    refine (rvalid_yes Q _ V.out).mono ?_
    rintro e w' ⟨rfl, rfl⟩
    go_wp2_with fail
    refine (rmul_any P a b _).mono ?_
    rintro e w' ⟨rfl, rfl⟩
    rw [← hr.out]
    go_wp2
    go_ret
    exact ⟨rfl, B1.out⟩
set_option maxHeartbeats 1000000 in
set_option maxRecDepth 100000 in
theorem rpower_g_any (P Q G x k : Int) (w : World) :
    Calls Tryd.prog 49 #[grpV P Q G, .int .i64 x, .int .i64 k] w fun e w' => e = .returned (.int .i64 (gpI P Q x k)) ∧ Below w.heap.size w w' := by
  unfold grpV gcells
  have B1 := mkHid ((Below.refl w.heap.size w).alloc (Nat.le_refl _) (.cells (gcells P Q G) 38))
  cases hP : modB P with
  | false =>
    have hr : Hid (gpI P Q x k = 0) := mkHid (by unfold gpI; rw [hP]; rfl)
    have V := mkHid hP
    clear hP
    go_enter Tryd.func49, Tryd.ntmps49
    go_wp2_with fail
    refine (rvalid_no P _ V.out).mono ?_
    rintro e w' ⟨rfl, rfl⟩
    go_wp2
    go_ret
    exact ⟨by rw [hr.out]; rfl, B1.out⟩
  | true =>
    cases hQ : modB Q with
    | false =>
      have hr : Hid (gpI P Q x k = 0) := mkHid (by unfold gpI; rw [hP, hQ]; rfl)
      have V := mkHid hP
      have U := mkHid hQ
      clear hP hQ
      go_enter Tryd.func49, Tryd.ntmps49
      go_wp2_with fail
      refine (rvalid_yes P _ V.out).mono ?_
      rintro e w' ⟨rfl, rfl⟩
      go_wp2_with fail
      refine (rvalid_no Q _ U.out).mono ?_
      rintro e w' ⟨rfl, rfl⟩
      go_wp2
      go_ret
      exact ⟨by rw [hr.out]; rfl, B1.out⟩
    | true =>
      have hr : Hid (gpI P Q x k = powI P x (k % Q).toNat) := mkHid (by unfold gpI; rw [hP, hQ]; rfl)
      have hm1 := mkHid (modB_iff.1 hP)
      have hm2 := mkHid (modB_iff.1 hQ)
      have V := mkHid hP
      have U := mkHid hQ
      clear hP hQ
      have G1 := mkHid (HasG.new w P Q G).cells
      go_enter Tryd.func49, Tryd.ntmps49
      go_wp2_with fail
      refine (rvalid_yes P _ V.out).mono ?_
      rintro e w' ⟨rfl, rfl⟩
      go_wp2_with fail
      refine (rvalid_yes Q _ U.out).mono ?_
      rintro e w' ⟨rfl, rfl⟩
      go_wp2_with fail
      have B2 := B1.out
      have G2 := G1.out
      clear B1 G1
      simp only [gcells] at B2 G2
      generalize w.alloc (.cells #[.int .i64 P, .int .i64 Q, .int .i64 G] 38) = W at *
      obtain ⟨g1, g2, g3⟩ := G2
      have HB := mkHid B2
      clear B2
      have k1 := cell_regrown g1
      have k2 := cell_regrown g2
      clear g1 g2 g3
      have r2 := regr W (fun w _ => rresidue_b Q k w hm2.out.1 hm2.out.2)
      have xb := emod_bd x P hm1.out.1
      have kb := emod_bd k Q hm2.out.1
      have hq2 := hm2.out.2
      have r3 := regr W (fun w _ => rpow_k P x (k % Q) w (modB_iff.2 hm1.out) kb.1 (by omega))
      have pb := powI_bd (n := P) hm1.out.1 x (k % Q).toNat
      have hp2 := hm1.out.2
      rw [← hr.out] at r3 pb
      have wrp : IntKind.i64.wrap (gpI P Q x k) = gpI P Q x k := by simp only [IntKind.wrap_i64]; omega
      refine wp_region_quiet_below (by kernel_rfl) (by kernel_rfl) ?_
      repeat (quiet_step (with_reducible (first | exact r2 _ _ | exact r3 _ _)))
      refine wpQuiet_nil ?_
      intro _ hw'
      obtain ⟨⟨dq, osq⟩, hw''⟩ := hw'
      subst hw''
      go_wp2
      go_ret
      exact ⟨rfl, HB.out.trans ((below_regrown W dq osq).mono HB.out.size)⟩
set_option maxHeartbeats 2000000 in
set_option maxRecDepth 100000 in
theorem rover_any (P Q G a b : Int) (w : World) :
    Calls Tryd.prog 51 #[grpV P Q G, .int .i64 a, .int .i64 b] w fun e w' => e = .returned (.int .i64 (gtI P Q a (powS P b (-1)))) ∧ Below w.heap.size w w' := by
  unfold grpV gcells
  have B2 := mkHid ((Below.refl w.heap.size w).alloc (Nat.le_refl _) (.cells (gcells P Q G) 38))
  have G2 := mkHid (HasG.new w P Q G).cells
  cases hQ : modB Q with
  | false =>
    have hr : Hid (gtI P Q a (powS P b (-1)) = 0) := mkHid (by unfold gtI; rw [hQ]; rfl)
    have V := mkHid hQ
    clear hQ
    go_enter Tryd.func51, Tryd.ntmps51
    go_wp2_with fail
    refine (rvalid_no Q _ V.out).mono ?_
    rintro e w' ⟨rfl, rfl⟩
    go_wp2
    go_ret
    exact ⟨by rw [hr.out]; rfl, B2.out⟩
  | true =>
    have hr : Hid (gtI P Q a (powS P b (-1)) = mulI P a (powS P b (-1))) := mkHid (by unfold gtI; rw [hQ]; rfl)
    have V := mkHid hQ
    clear hQ
    have rp : ∀ W : World, Calls Tryd.prog 31 #[.int .i64 P, .int .i64 b, .int .i64 (-1)] W fun e w' => e = .returned (.int .i64 (powS P b (-1))) ∧ Below W.heap.size W w' := fun W => rpow_b P b (-1) W (by omega) (by omega)
    have r0 : ∀ W : World, Calls Tryd.prog 29 #[.int .i64 P, .int .i64 a, .int .i64 (powS P b (-1))] W fun e w' => e = .returned (.int .i64 (mulI P a (powS P b (-1)))) ∧ Below W.heap.size W w' := fun W => rmul_bb P a (powS P b (-1)) W
    have RR := hr
    rw [hr.out]
    clear hr RR
    generalize mulI P a (powS P b (-1)) = y at *
    generalize powS P b (-1) = x at *
    have RP := mkHid rp
    have R0 := mkHid r0
    clear rp r0
    go_enter Tryd.func51, Tryd.ntmps51
    go_wp2_with fail
    refine (rvalid_yes Q _ V.out).mono ?_
    rintro e w' ⟨rfl, rfl⟩
    go_upto_region 3 with (fail)
    replace B2 := B2.out
    replace G2 := G2.out
    simp only [gcells] at B2 G2
    generalize w.alloc (.cells #[.int .i64 P, .int .i64 Q, .int .i64 G] 38) = W at *
    obtain ⟨g1, g2, g3⟩ := G2
    have HB := mkHid B2
    clear B2
    have k1 := cell_regrown g1
    clear g1 g2 g3
    have r1 := regr W (fun w _ => RP.out w)
    have r2 := regr W (fun w _ => R0.out w)
    refine wp_region_quiet_below (by kernel_rfl) (by kernel_rfl) ?_
    repeat (quiet_step (with_reducible (first | exact r1 _ _ | exact r2 _ _)))
    refine wpQuiet_nil ?_
    intro _ hw'
    obtain ⟨⟨dq, osq⟩, hw''⟩ := hw'
    subst hw''
    go_wp2
    go_ret
    exact ⟨rfl, HB.out.trans ((below_regrown W dq osq).mono HB.out.size)⟩
end Go.Proofs.YtbllanmhbfnagaaDoor
