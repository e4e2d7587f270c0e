/- SHA-256 of the reference: the whole function (walk). -/
import Derived.Test.YtbllanmhbfnagaaDoorRE
import Derived.Outline
set_option linter.unusedVariables false
set_option linter.unusedSimpArgs false
namespace Go.Proofs.YtbllanmhbfnagaaDoor
open Go.RowKit Go.Sort
/-- The first j bytes of the state. -/
def outK (l : List Nat) (j : Nat) : List Nat := (List.range j).map (fun i => l.getD (i / 4) 0 / 2 ^ (24 - 8 * (i % 4)) % 256)
theorem outK_succ (l : List Nat) (j : Nat) : outK l (j + 1) = outK l j ++ [l.getD (j / 4) 0 / 2 ^ (24 - 8 * (j % 4)) % 256] := by
  simp [outK, List.range_succ]
theorem outK_len (l : List Nat) (j : Nat) : (outK l j).length = j := by simp [outK]
theorem outK_done (v : St) : outK (stL v) 32 = outL (stL v) 8 := by
  rw [outL_done]
  simp [outK, stBytes, wordBytes, stL, List.range, List.range.loop]
theorem stL_lt {v : St} (h : StOK v) (j : Nat) : (stL v).getD j 0 < 4294967296 := by
  obtain ⟨h0, h1, h2, h3, h4, h5, h6, h7⟩ := h
  match j with
  | 0 => exact h0
  | 1 => exact h1
  | 2 => exact h2
  | 3 => exact h3
  | 4 => exact h4
  | 5 => exact h5
  | 6 => exact h6
  | 7 => exact h7
  | n + 8 => show 0 < _; omega
theorem outK_lt (l : List Nat) (j : Nat) : ∀ y ∈ outK l j, y < 256 := by
  intro y hy
  obtain ⟨i, _, rfl⟩ := List.mem_map.1 hy
  exact Nat.mod_lt _ (by omega)
set_option maxHeartbeats 4000000 in
set_option maxRecDepth 100000 in
theorem rsha_any (s : ByteArray) (w : World) (hs : s.size ≤ 1099511627776) :
    Calls Tryd.prog 33 #[.string s] w fun e w' => e = .returned (.string (strN (shaF (bytesN s)))) ∧ Below w.heap.size w w' := by
  obtain ⟨l, hl⟩ : ∃ l, bytesN s = l := ⟨_, rfl⟩
  have hL : s.size = l.length := by rw [← hl, bytesN_length]
  have hlt : ∀ j, l.getD j 0 < 256 := fun j => by rw [← hl]; exact bytesN_lt s j
  rw [hl]
  have HL := mkHid hl
  have HLT := mkHid hlt
  clear hl hlt
  have HS : Hid (l.length ≤ 1099511627776) := mkHid (by omega)
  have HSZ := mkHid hL
  clear hs hL
  go_enter Tryd.func33, Tryd.ntmps33
  go_wp2_with (refine wpList_bytes_of _ rfl 9 83 (.tmp 8) rfl 5 .string Tryd.underlying9 Tryd.underlying83 Tryd.underlying5 s ?cs ?cm ?_; (case cs => rfl); (case cm => have := HS.out; have := HSZ.out; simp only [maxLen]; omega); intro g0 c0 w1 o1 b1; rw [HL.out] at o1; have O1 := mkHid o1; have B1 := mkHid b1; have e0 := HSZ.out; rw [e0]; clear o1 b1 e0)
  refine (padded_any g0 0 c0 l _ HS.out O1.out.cells O1.out.lt).mono ?_
  rintro e w2 ⟨g, off, cap, rfl, o2, b2⟩
  have O2 := mkHid o2
  have B2 := mkHid (B1.out.trans (b2.mono B1.out.size))
  clear o2 b2
  obtain ⟨N, hN⟩ : ∃ N, (padF l).length = 64 * N := ⟨_, padF_blocks l⟩
  have hp : Hid (∀ j, (padF l).getD j 0 < 256) := mkHid (padF_lt l HLT.out)
  have hsha := mkHid (shaF_eq l N hN)
  have hNb : N ≤ 17179869188 := by
    have h1 := padF_len l; have := zerosN_le l.length; have := HS.out; omega
  rw [hN]
  have HN := mkHid hN
  clear hN
  generalize padF l = p at *
  go_wp2_with fail
  refine (firsts_any _).mono ?_
  rintro e w3 ⟨rfl, hw3⟩
  have BN := (Below.refl w2.heap.size w2).alloc (Nat.le_refl _) (.cells (wcells (stL firstF)) 84)
  have ON := own_built w2 84 (stL firstF) (by simp [maxLen, stL])
  have hcp : 64 * N ≤ cap := by have := O2.out.le; rw [bv_length, HN.out] at this; exact this
  have HC : Hid (∀ j, j < 64 * N → w3.cell? ⟨g, off + j, none⟩ = some (.int .u8 (p.getD j 0 : Nat))) := mkHid (fun j hj => by
    rw [hw3, BN.cell (p := ⟨g, off + j, none⟩) O2.out.lt]
    exact O2.out.cells j _ (bv_at p j (by rw [HN.out]; exact hj)))
  have RH : Hid (Reads w3 w2.heap.size 0 (wv (stL (blocksF p 0)))) := mkHid (by rw [hw3]; exact ON.cells)
  have LH : w2.heap.size < w3.heap.size := by rw [hw3]; exact ON.lt
  have LG : g < w3.heap.size := by rw [hw3]; exact Nat.lt_of_lt_of_le O2.out.lt BN.size
  have B3 : Hid (Below w.heap.size w w3) := mkHid (by rw [hw3]; exact B2.out.trans (BN.mono B2.out.size))
  clear BN ON hw3 O1 O2 B1 B2
  go_wp2_with fail
  go_loopw [4, 5] (fun c d wr => ∃ (i gh oh ch k : Nat), c = .slice (some ⟨gh, oh, none⟩) 8 ch ∧ d = .int .i64 k ∧ i ≤ N ∧ Hid (k = 64 * i) ∧ Hid (Reads wr gh oh (wv (stL (blocksF p i)))) ∧ gh < wr.heap.size ∧ g < wr.heap.size ∧ Hid (∀ j, j < 64 * N → wr.cell? ⟨g, off + j, none⟩ = some (.int .u8 (p.getD j 0 : Nat))) ∧ Hid (Below w.heap.size w wr)) (fun _ d _ => (64 * N - intOf d).toNat)
  case atStart => exact ⟨0, w2.heap.size, 0, 8, 0, rfl, rfl, by omega, mkHid rfl, RH, LH, LG, HC, B3⟩
  case round =>
    clear RH LH LG HC B3
    obtain ⟨i, gh, oh, ch, k, rfl, rfl, hi, hk, hr, lh, lg, hc, hb⟩ := hrel
    by_cases hlt : i < N
    · have h1 : k + 64 ≤ 64 * N := by have := hk.out; omega
      have h2 : k + 64 ≤ cap := by omega
      have h3 : (k : Int) < 64 * N := by omega
      have h4 : (k : Int) + 64 ≤ cap := by omega
      have h5 : IntKind.i64.wrap ((k : Int) + 64) = (k : Int) + 64 := IntWalk.i64_in _ (by omega)
      have h6 : ((k : Int) + 64).toNat = k + 64 := by omega
      have h7 : ¬ cap - k = 0 := by omega
      have h8 : 0 ≤ (k : Int) + 64 := by omega
      have h9 : k + 64 - k = 64 := by omega
      have h10 : ¬ cap = k := by omega
      have h11 : (k : Int) ≤ (k : Int) + 64 := by omega
      go_wp2_with fail
      have HBK := mkHid (blk_len p i N HN.out hlt)
      have hcb : Hid (∀ j, j < 64 → wr.cell? ⟨g, (off + k) + j, none⟩ = some (.int .u8 (((p.drop (64 * i)).take 64).getD j 0 : Nat))) := mkHid (fun j hj => by
        rw [blk_getD p i j hj, ← hk.out, Nat.add_assoc]; exact hc.out (k + j) (by omega))
      have hbl := mkHid (blk_lt p i hp.out)
      have hsu := mkHid (blocksF_succ p i)
      generalize (p.drop (64 * i)).take 64 = bl at *
      refine (rblock_any gh oh ch g (off + k) (cap - k) bl (blocksF p i) wr HBK.out hbl.out (by omega) hcb.out lg (blocksF_ok p i) hr.out lh).mono ?_
      rintro e w4 ⟨g4, o4, c4, rfl, q4, b4⟩
      rw [← hsu.out] at q4
      have R4 := mkHid q4.cells
      have l4 := q4.lt
      have l5 : g < w4.heap.size := Nat.lt_of_lt_of_le lg b4.size
      have C4 : Hid (∀ j, j < 64 * N → w4.cell? ⟨g, off + j, none⟩ = some (.int .u8 (p.getD j 0 : Nat))) := mkHid (fun j hj => by rw [b4.cell (p := ⟨g, off + j, none⟩) lg]; exact hc.out j hj)
      have B4 := mkHid (hb.out.trans (b4.mono hb.out.size))
      clear q4 b4 hcb hc hr hb
      go_wp2_with fail
      go_roundw
      case rel => exact ⟨i + 1, g4, o4, c4, k + 64, rfl, by go_num, by omega, mkHid (by have := hk.out; omega), R4, l4, l5, C4, B4⟩
      case measure => simp [intOf]; omega
    · obtain rfl : i = N := by omega
      have hk2 : ¬ (k : Int) < 64 * i := by have := hk.out; omega
      have h8l : Hid ((stL (blocksF p i)).length = 8) := mkHid rfl
      have HSH : Hid (shaF l = outK (stL (blocksF p i)) 32) := mkHid (by rw [outK_done]; exact hsha.out)
      have HLW : Hid (∀ j, (stL (blocksF p i)).getD j 0 < 4294967296) := mkHid (stL_lt (blocksF_ok p i))
      clear hsha
      generalize stL (blocksF p i) = ol at *
      go_wp2_with fail
      have ON := own_new0 wr 5 wr.heap.size (Nat.le_refl _)
      have hwB := hb.out.size
      have hgB := lh
      obtain ⟨Bq, hBq⟩ : ∃ y, y = wr.heap.size := ⟨_, rfl⟩
      have BN := (Below.refl wr.heap.size wr).alloc (Nat.le_refl _) (.cells #[] 5)
      have z5 : Hid (Bq ≤ (wr.alloc (.cells #[] 5)).heap.size) := mkHid (by rw [hBq]; exact BN.size)
      rw [← hBq] at hwB hgB
      have O5 : Hid (OwnS (wr.alloc (.cells #[] 5)) Bq 0 (bv (outK ol 0)) (some ⟨wr.heap.size, 0, none⟩)) := mkHid (by rw [hBq]; exact ON.s)
      have R5 := mkHid (hr.out.of_block (BN.block gh lh))
      have l5 : gh < (wr.alloc (.cells #[] 5)).heap.size := Nat.lt_of_lt_of_le lh BN.size
      have B5 := mkHid (hb.out.trans (BN.mono hb.out.size))
      clear ON BN hr hb hc lh lg hk hk2 hBq
      generalize wr.alloc (.cells #[] 5) = w5 at *
      go_loopw [6, 7] (fun c d wr => ∃ (j n cap : Nat) (ao : Option Addr), c = .slice ao n cap ∧ d = .int .i64 j ∧ j ≤ 32 ∧ Hid (n = j) ∧ Hid (OwnS wr Bq cap (bv (outK ol j)) ao) ∧ Hid (Reads wr gh oh (wv ol)) ∧ Hid (Bq ≤ wr.heap.size) ∧ Hid (Below w.heap.size w wr)) (fun _ d _ => (32 - intOf d).toNat)
      case atStart => exact ⟨0, 0, 0, _, rfl, rfl, by omega, mkHid rfl, O5, R5, z5, B5⟩
      case round =>
        clear O5 R5 l5 B5 z5
        obtain ⟨j, n, cap3, ao, rfl, rfl, hj, hn, ho, hr, hz, hb⟩ := hrel
        by_cases hlt2 : j < 32
        · have hst := mkHid (outK_succ ol j)
          have hln := mkHid (outK_len ol j)
          obtain ⟨q, hq⟩ : ∃ q, j / 4 = q := ⟨_, rfl⟩
          obtain ⟨r, hrr⟩ : ∃ r, j % 4 = r := ⟨_, rfl⟩
          have hq8 : q < 8 := by omega
          have hr4 : r < 4 := by omega
          have ce := hr.out q _ (wv_at ol q (by rw [h8l.out]; exact hq8))
          have hxl := HLW.out q
          rw [hq, hrr] at hst
          generalize ol.getD q 0 = x at *
          obtain ⟨y, hy⟩ : ∃ y, x / 2 ^ (24 - 8 * r) % 256 = y := ⟨_, rfl⟩
          rw [hy] at hst
          have e1 : (j : Int).tdiv 4 = (q : Int) := by rw [Int.tdiv_eq_ediv_of_nonneg (by omega)]; omega
          have e2 : (j : Int) / 4 = (q : Int) := by omega
          have e3 : (j : Int).tmod 4 = (r : Int) := by rw [Int.tmod_eq_emod_of_nonneg (by omega)]; omega
          have e4 : (j : Int) % 4 = (r : Int) := by omega
          have e5 : (q : Int) < 8 := by omega
          have e6 : IntKind.i64.wrap (8 * (r : Int)) = 8 * (r : Int) := IntWalk.i64_in _ (by omega)
          have e7 : IntKind.i64.wrap (24 - 8 * (r : Int)) = 24 - 8 * (r : Int) := IntWalk.i64_in _ (by omega)
          have e8 : (24 - 8 * (r : Int)).toNat = 24 - 8 * r := by omega
          have e9 : 0 ≤ 24 - 8 * (r : Int) := by omega
          have e10 : 24 - 8 * (r : Int) < 32 := by omega
          have e11 : ((x : Int) / 2 ^ (24 - 8 * r)) % 256 = ((y : Nat) : Int) := by rw [← hy]; push_cast; rfl
          have e12 : 8 * (r : Int) ≤ 24 := by omega
          clear hq hrr hy
          go_wp2_with (at_builtin; refine app_bytes wr Bq rfl (.tmp 30) (.tmp 42) rfl ao cap3 n (outK ol j) ?y1 ?y2 ho.out hz.out 1 1 #[.int .u8 (y : Nat)] 5 [y] ?y3 rfl rfl (by omega) ?y4 ?_; (case y1 => exact hn.out.trans hln.out.symm); (case y2 => rfl); (case y3 => rfl); (case y4 => have := hn.out; omega); intro g4 off4 c4 w4 o4 b4; rw [← hst.out] at o4; have O4 := mkHid o4; have B4 := mkHid (hb.out.trans (b4.mono hwB)); have R4 := mkHid (hr.out.of_block (b4.block gh hgB)); have Z4 := mkHid (Nat.le_trans hz.out b4.size); clear o4 b4)
          go_roundw
          case rel => exact ⟨j + 1, n + 1, c4, some ⟨g4, off4, none⟩, rfl, by go_num, by omega, mkHid (by have := hn.out; omega), mkHid O4.out.s, R4, Z4, B4⟩
          case measure => simp [intOf]; omega
        · obtain rfl : j = 32 := by omega
          obtain rfl : n = 32 := hn.out
          have hlen := outK_len ol 32
          have hoo : ∃ g off, ao = some ⟨g, off, none⟩ ∧ Hid (Reads wr g off (bv (outK ol 32))) := by
            cases ho.out with
            | nil h => have := congrArg List.length h; rw [bv_length, hlen] at this; simp at this
            | «at» g off h => exact ⟨g, off, rfl, mkHid h.cells⟩
          obtain ⟨g5, off5, rfl, hr5⟩ := hoo
          have hlt2 := mkHid (outK_lt ol 32)
          have hl32 := mkHid hlen
          clear ho hn hlen hr
          rw [show ((32 : Nat) : Int) = 32 from rfl]
          go_wp2_with (refine wpList_string_of _ rfl 83 9 (.tmp 44) rfl 5 Tryd.underlying83 Tryd.underlying5 Tryd.underlying9 ⟨g5, off5, none⟩ 32 cap3 (outK ol 32) ?z1 hl32.out.symm hlt2.out ?z2 ?_; (case z1 => rfl); (case z2 => (intro j u hj; rw [Addr.add_lit]; exact hr5.out j u hj)))
          go_ret
          exact ⟨by rw [HSH.out]; rfl, hb.out⟩
end Go.Proofs.YtbllanmhbfnagaaDoor
