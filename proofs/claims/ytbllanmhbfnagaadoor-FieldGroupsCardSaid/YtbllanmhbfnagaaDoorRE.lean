/- SHA-256 of the reference: the padding (walk). -/
import Derived.Test.YtbllanmhbfnagaaDoorRD
import Derived.Test.YtbllanmhbfnagaaDoorSD
set_option linter.unusedVariables false
set_option linter.unusedSimpArgs false
namespace Go.Proofs.YtbllanmhbfnagaaDoor
open Go.RowKit Go.Sort
set_option maxHeartbeats 4000000 in
set_option maxRecDepth 100000 in
theorem padded_any (gb ob cb : Nat) (l : List Nat) (w : World) (hs : l.length ≤ 1099511627776) (hr : Reads w gb ob (bv l)) (hgl : gb < w.heap.size) :
    Calls Tryd.prog 88 #[.slice (some ⟨gb, ob, none⟩) l.length cb] w fun e w' => ∃ g off cap, e = .returned (.slice (some ⟨g, off, none⟩) (padF l).length cap) ∧ OwnAt w' w.heap.size g off cap (bv (padF l)) ∧ Below w.heap.size w w' := by
  have HR := mkHid hr
  have HS := mkHid hs
  clear hr hs
  obtain ⟨i0, hi, hz0, hz1, hz2⟩ := info_parts info_byte
  have I0 := mkHid hi
  have Z0 := mkHid hz0
  have Z1 := mkHid hz1
  have Z2 := mkHid hz2
  clear hi hz0 hz1 hz2
  go_enter Tryd.func88, Tryd.ntmps88
  go_wp2_with (first | (at_builtin; refine wpList_append_copy w w.heap.size rfl (.tmp 6) (.tmp 7) 83 rfl 5 i0 (.int .u8 0) 1 Tryd.underlying83 I0.out Z0.out Z1.out Z2.out rfl 5 ?q1 (Nat.le_refl _) ⟨gb, ob, none⟩ l.length cb (bv l) ?q2 (bv_length l) ?q3 hgl (bv_one _) ?q5 ?q6 ?_; (case q1 => rfl); (case q2 => rfl); (case q3 => intro j u hj; rw [Addr.add_lit]; exact HR.out j u hj); (case q5 => have := HS.out; simp only [maxLen]; omega); (case q6 => have := HS.out; omega); intro g0 off0 c0 w1 o1 b1 l1; have O1 := mkHid o1; have B1 := mkHid b1; clear o1 b1 l1) | (at_builtin; refine app_bytes w1 w.heap.size rfl (.tmp 9) (.tmp 10) rfl (some ⟨g0, off0, none⟩) c0 l.length l rfl ?p1 O1.out.s B1.out.size 1 1 #[.int .u8 128] 5 [128] ?p2 rfl rfl (by omega) ?p3 ?_; (case p1 => rfl); (case p2 => rfl); (case p3 => have := HS.out; omega); intro g1 off1 c1 w2 o2 b2; have O2 := mkHid o2; have B2 := mkHid (B1.out.trans b2); clear o2 b2 O1 B1))
  rw [show l ++ [128] = padZ l 0 by simp [padZ]] at O2
  go_loopw [3] (fun c wr => ∃ z n g off cap, c = .slice (some ⟨g, off, none⟩) n cap ∧ Hid (n = l.length + 1 + z) ∧ z ≤ zerosN l.length ∧ Hid (OwnAt wr w.heap.size g off cap (bv (padZ l z))) ∧ Hid (Below w.heap.size w wr)) (fun c _ => l.length + 100 - lenOf c)
  case atStart => exact ⟨0, _, _, _, _, rfl, mkHid rfl, by omega, O2, B2⟩
  case round =>
    obtain ⟨z, n, g, off, cap, rfl, hn, hz, ho, hb⟩ := hrel
    clear O2 B2
    have hn2 : Hid (n = (padZ l z).length) := mkHid (by rw [hn.out, padZ_len])
    have hn3 : n ≤ 1099511627776 + 64 := by have := hn.out; have := HS.out; have := zerosN_le l.length; omega
    by_cases hlt : z < zerosN l.length
    · have hq : ((n : Int) % 64 == 56) = false := by
        rw [beq_eq_false_iff_ne]; have := zerosN_not l.length z hlt; have := hn.out; omega
      have hq2 : ¬ ((n : Int) % 64 = 56) := by simpa using hq
      go_wp2_with (at_builtin; refine app_bytes wr w.heap.size rfl (.tmp 16) (.tmp 17) rfl (some ⟨g, off, none⟩) cap n (padZ l z) ?q1 ?q2 ho.out.s hb.out.size 1 1 #[.int .u8 0] 5 [0] ?q3 rfl rfl (by omega) ?q4 ?_; (case q1 => exact hn2.out); (case q2 => rfl); (case q3 => rfl); (case q4 => omega); intro g3 off3 c3 w3 o3 b3; rw [padZ_step] at o3; have O3 := mkHid o3; have B3 := mkHid (hb.out.trans b3); clear o3 b3)
      go_roundw
      case rel => exact ⟨z + 1, n + 1, g3, off3, c3, rfl, mkHid (by have := hn.out; omega), by omega, O3, B3⟩
      case measure => have := hn.out; have := zerosN_le l.length; simp only [lenOf]; omega
    · obtain rfl : z = zerosN l.length := by omega
      have hq : ((n : Int) % 64) = 56 := by have := zerosN_end l.length; have := hn.out; omega
      rw [padJ_zero] at ho
      have hl2 : l.length ≤ 1099511627776 := HS.out
      go_wp2_with fail
      go_loopw [3, 5] (fun c d wr => ∃ (j n : Nat) (k : Int) (g off cap : Nat), c = .slice (some ⟨g, off, none⟩) n cap ∧ d = .int .i64 k ∧ Hid (n = (padJ l j).length) ∧ j ≤ 8 ∧ Hid (k = 56 - 8 * (j : Int)) ∧ Hid (OwnAt wr w.heap.size g off cap (bv (padJ l j))) ∧ Hid (Below w.heap.size w wr)) (fun _ d _ => (intOf d + 8).toNat)
      case atStart => exact ⟨0, n, 56, g, off, cap, rfl, rfl, mkHid (by rw [hn2.out, padJ_zero]), by omega, mkHid (by omega), ho, hb⟩
      case round =>
        clear ho hb hq hn hn2 hn3
        obtain ⟨j, n, k, g, off, cap, rfl, rfl, hn, hj, hk, ho, hb⟩ := hrel
        by_cases hlt : j < 8
        · have hk0 : 0 ≤ k := by have := hk.out; omega
          have hk1 : k ≤ 56 := by have := hk.out; omega
          obtain ⟨x, hx⟩ : ∃ x, 8 * l.length / 2 ^ (56 - 8 * j) % 256 = x := ⟨_, rfl⟩
          have hv : 8 * (l.length : Int) / 2 ^ k.toNat % 256 = ((x : Nat) : Int) := by
            rw [← hx, show k.toNat = 56 - 8 * j by have := hk.out; omega]; push_cast; rfl
          have hst := mkHid (padJ_step l j hlt)
          rw [hx] at hst
          have hn3 : n ≤ 1099511627776 + 128 := by have := hn.out; rw [padJ_len l j (by omega)] at this; have := zerosN_le l.length; omega
          clear hx
          go_wp2_with (at_builtin; refine app_bytes wr w.heap.size rfl (.tmp 27) (.tmp 32) rfl (some ⟨g, off, none⟩) cap n (padJ l j) ?r1 ?r2 ho.out.s hb.out.size 1 1 #[.int .u8 (x : Nat)] 5 [x] ?r3 rfl rfl (by omega) ?r4 ?_; (case r1 => exact hn.out); (case r2 => rfl); (case r3 => rfl); (case r4 => omega); intro g3 off3 c3 w3 o3 b3; rw [hst.out] at o3; have O3 := mkHid o3; have B3 := mkHid (hb.out.trans b3); clear o3 b3)
          go_roundw
          case rel =>
            refine ⟨j + 1, n + 1, _, g3, off3, c3, rfl, rfl, ?_, by omega, ?_, O3, B3⟩
            · exact mkHid (by have := hn.out; rw [padJ_len l j (by omega)] at this; rw [padJ_len l (j + 1) (by omega)]; omega)
            · exact mkHid (by have := hk.out; omega)
          case measure => have := hk.out; simp [intOf]; omega
        · obtain rfl : j = 8 := by omega
          obtain rfl : k = -8 := by have := hk.out; omega
          clear hk
          rw [padJ_done] at ho hn
          have hn9 := hn.out
          go_wp2_with fail
          go_ret
          exact ⟨g, off, cap, by rw [← hn9]; rfl, ho.out, hb.out⟩
end Go.Proofs.YtbllanmhbfnagaaDoor
