/- SHA-256 of the reference: the schedule (walk). -/
import Derived.Outline
import Derived.Test.YtbllanmhbfnagaaDoorU8
import Derived.Test.YtbllanmhbfnagaaDoorU13
import Derived.Test.YtbllanmhbfnagaaDoorU19
set_option linter.unusedVariables false
set_option linter.unusedSimpArgs false
namespace Go.Proofs.YtbllanmhbfnagaaDoor
open Go.RowKit
theorem turn_m (x n m : Nat) (k : Int) (w : World) (hx : x < 4294967296) (h0 : 0 < n) (hn : n < 32) (hk : k = (n : Int)) (hm : 32 - n = m) :
    Calls Tryd.prog 113 #[.int .u32 x, .int .i64 k] w fun e w' => e = .returned (.int .u32 (rotl x m)) ∧ Drew w w' := by
  subst hk hm; exact turn_any x n w hx h0 hn
theorem drew_bel {w w' : World} (h : Drew w w') : Below w.heap.size w w' := by obtain ⟨m, rfl⟩ := h; exact below_drewN (Below.refl _ _) m
/-- Words as cells. -/
def wv (l : List Nat) : List Value := l.map (fun x : Nat => Value.int .u32 ((x : Nat) : Int))
theorem wv_length (l : List Nat) : (wv l).length = l.length := by simp [wv]
theorem wv_append (l m : List Nat) : wv (l ++ m) = wv l ++ wv m := by simp [wv]
theorem wv_at (l : List Nat) (j : Nat) (h : j < l.length) : (wv l)[j]? = some (.int .u32 (l.getD j 0 : Nat)) := by
  simp [wv, List.getD, h]
theorem wv_one (l : List Nat) : ∀ u ∈ wv l, u.oneCell' = true := by
  intro u hu
  obtain ⟨x, _, rfl⟩ := List.mem_map.1 hu
  rfl
theorem info_word : (Tryd.prog.info? 84).map (fun i => (i.zero, i.size, i.bytes)) = some (some (.int .u32 0), 1, 4) := by kernel_rfl
/-- An append of words that were just built. -/
theorem app_words {ops : Array Oper} {rest : List Oper} {o : Oper} {a : Act} {Q : Exit → Act → World → Prop} (w1 : World) (B : Nat)
    (hg : o.guard = none) (s x : Operand) (hop : o.op = Op.call { callee := Callee.builtin Builtin.append, args := #[s, x], argTypes := #[91, 91] })
    (ao : Option Addr) (cap n : Nat) (l : List Nat) (hn : n = l.length) (hs : a.eval s = .slice ao n cap) (hO : OwnS w1 B cap (wv l) ao) (hB : B ≤ w1.heap.size)
    (m c : Nat) (cs : Array Value) (te : TypeId) (news : List Nat) (hx : a.eval x = .slice (some ⟨w1.heap.size, 0, none⟩) m c) (hcs : cs.toList = wv news) (hm : news.length = m) (hm0 : 0 < m)
    (b1 : n + m ≤ 1000000000)
    (hK : ∀ g off cap' w', OwnAt w' B g off cap' (wv (l ++ news)) → Below B w1 w' → wpList Tryd.prog ops Q rest (a.put o.dst (.slice (some ⟨g, off, none⟩) (n + m) cap')) w') :
    wpList Tryd.prog ops Q (o :: rest) a (w1.alloc (.cells cs te)) := by
  obtain ⟨i0, hi, hz0, hz1, hz2⟩ := info_parts info_word
  refine wpList_append_new w1 B hg s x 91 hop 84 i0 (.int .u32 0) 4 Tryd.underlying91 hi hz0 hz1 hz2 rfl ao cap (wv l) n (by rw [wv_length]; exact hn) hs hO hB m c cs te hx
    (by rw [← Array.length_toList, hcs, wv_length]; exact hm) hm0 (by rw [hcs]; exact wv_one _) (by simp only [maxLen]; omega) (by omega) ?_
  intro g off cap' w' h _ hb _
  refine hK g off cap' w' ?_ hb
  rw [wv_append, ← hcs]
  exact h
set_option maxHeartbeats 4000000 in
set_option maxRecDepth 100000 in
theorem rwords_any (blk off cap : Nat) (b : List Nat) (w : World) (hb64 : b.length = 64) (hlt : ∀ j, b.getD j 0 < 256) (hcap : 64 ≤ cap)
    (hc : ∀ j, j < 64 → w.cell? ⟨blk, off + j, none⟩ = some (.int .u8 (b.getD j 0 : Nat))) (hbl : blk < w.heap.size) :
    Calls Tryd.prog 111 #[.slice (some ⟨blk, off, none⟩) 64 cap] w fun e w' => ∃ g o c, e = .returned (.slice (some ⟨g, o, none⟩) 64 c) ∧ OwnAt w' w.heap.size g o c (wv (sched b 64)) ∧ Below w.heap.size w w' := by
  have HC := mkHid hc
  have HL := mkHid hlt
  clear hc hlt hb64 hcap
  go_enter Tryd.func111, Tryd.ntmps111
  go_wp2_with fail
  go_loopw [3, 4] (fun c d wr => ∃ (k : Nat) (ao : Option Addr) (n cp : Nat), c = .slice ao n cp ∧ d = .int .i64 k ∧ k ≤ 16 ∧ Hid (n = k) ∧ Hid (OwnS wr w.heap.size cp (wv (sched b k)) ao) ∧ Hid (Below w.heap.size w wr)) (fun _ d _ => (16 - intOf d).toNat)
  case atStart => exact ⟨0, none, 0, 0, rfl, rfl, by omega, mkHid rfl, mkHid (.nil rfl rfl), mkHid (Below.refl _ _)⟩
  case round =>
    obtain ⟨k, ao, n, cp, rfl, rfl, hk, hn, ho, hb⟩ := hrel
    by_cases h16 : k < 16
    · have e0 := HC.out (4 * k) (by omega)
      have e1 := HC.out (4 * k + 1) (by omega)
      have e2 := HC.out (4 * k + 2) (by omega)
      have e3 := HC.out (4 * k + 3) (by omega)
      have l0 := HL.out (4 * k)
      have l1 := HL.out (4 * k + 1)
      have l2 := HL.out (4 * k + 2)
      have l3 := HL.out (4 * k + 3)
      have hx : Hid (sched b (k + 1) = sched b k ++ [wordAt b k]) := mkHid (by simp [sched, h16])
      have hwd : Hid (wordAt b k = ((b.getD (4 * k) 0 * 16777216 ||| b.getD (4 * k + 1) 0 * 65536) ||| b.getD (4 * k + 2) 0 * 256) ||| b.getD (4 * k + 3) 0) := mkHid rfl
      generalize b.getD (4 * k) 0 = b0 at *
      generalize b.getD (4 * k + 1) 0 = b1 at *
      generalize b.getD (4 * k + 2) 0 = b2 at *
      generalize b.getD (4 * k + 3) 0 = b3 at *
      have hor := word_or b0 b1 b2 b3 l0 l1 l2 l3
      rw [← hwd.out] at hor
      rw [← hb.out.cell (p := ⟨blk, _, none⟩) hbl] at e0 e1 e2 e3
      have w0 : IntKind.i64.wrap (4 * (k : Int)) = 4 * (k : Int) := IntWalk.i64_in _ (by omega)
      have w1 : IntKind.i64.wrap (4 * (k : Int) + 1) = 4 * (k : Int) + 1 := IntWalk.i64_in _ (by omega)
      have w2 : IntKind.i64.wrap (4 * (k : Int) + 2) = 4 * (k : Int) + 2 := IntWalk.i64_in _ (by omega)
      have w3 : IntKind.i64.wrap (4 * (k : Int) + 3) = 4 * (k : Int) + 3 := IntWalk.i64_in _ (by omega)
      have t0 : (4 * (k : Int)).toNat = 4 * k := by omega
      have t1 : (4 * (k : Int) + 1).toNat = 4 * k + 1 := by omega
      have t2 : (4 * (k : Int) + 2).toNat = 4 * k + 2 := by omega
      have t3 : (4 * (k : Int) + 3).toNat = 4 * k + 3 := by omega
      have g0 : 0 ≤ 4 * (k : Int) := by omega
      have g1 : 0 ≤ 4 * (k : Int) + 1 := by omega
      have g2 : 0 ≤ 4 * (k : Int) + 2 := by omega
      have g3 : 0 ≤ 4 * (k : Int) + 3 := by omega
      have k0 : 4 * (k : Int) < 64 := by omega
      have k1 : 4 * (k : Int) + 1 < 64 := by omega
      have k2 : 4 * (k : Int) + 2 < 64 := by omega
      have k3 : 4 * (k : Int) + 3 < 64 := by omega
      have kk : (k : Int) < 16 := by omega
      have v0 : IntKind.u32.wrap (b0 : Int) = (b0 : Int) := IntWalk.u32_in _ (by omega)
      have v1 : IntKind.u32.wrap (b1 : Int) = (b1 : Int) := IntWalk.u32_in _ (by omega)
      have v2 : IntKind.u32.wrap (b2 : Int) = (b2 : Int) := IntWalk.u32_in _ (by omega)
      have v3 : IntKind.u32.wrap (b3 : Int) = (b3 : Int) := IntWalk.u32_in _ (by omega)
      have y0 : IntKind.u32.wrap ((b0 : Int) * 16777216) = (b0 : Int) * 16777216 := IntWalk.u32_in _ (by omega)
      have y1 : IntKind.u32.wrap ((b1 : Int) * 65536) = (b1 : Int) * 65536 := IntWalk.u32_in _ (by omega)
      have y2 : IntKind.u32.wrap ((b2 : Int) * 256) = (b2 : Int) * 256 := IntWalk.u32_in _ (by omega)
      have hsl := mkHid (sched_len b k)
      generalize wordAt b k = x at *
      go_wp2_with fail
      refine wp_region_mst (.slice ao n cp) 33 (by kernel_rfl) (by kernel_rfl) (fun _ _ _ h => h) (Or.inl ⟨by rfl, fun _ => rfl⟩) ?_
      simp only [List.take_succ_cons, List.take_zero, List.drop_succ_cons, List.drop_zero]
      repeat still_step
      try refine wpStill_nil ?_
      clear w0 w1 w2 w3 t0 t1 t2 t3 g0 g1 g2 g3 k0 k1 k2 k3 v0 v1 v2 v3 y0 y1 y2 hor e0 e1 e2 e3
      go_wp2_with (at_builtin; refine app_words wr.drew w.heap.size rfl (.tmp 14) (.tmp 48) rfl ao cp n (sched b k) ?q1 ?q2 (ho.out.of_block (fun _ _ _ => rfl) (Nat.le_refl _)) hb.out.size 1 1 #[.int .u32 (x : Nat)] 84 [x] ?q3 rfl rfl (by omega) ?q4 ?_; (case q1 => exact hn.out.trans hsl.out.symm); (case q2 => rfl); (case q3 => rfl); (case q4 => have := hn.out; omega); intro g4 off4 c4 w4 o4 b4; rw [← hx.out] at o4; have O4 := mkHid o4; have B4 := mkHid (hb.out.drew.trans b4); clear o4 b4)
      go_roundw
      case rel => exact ⟨k + 1, some ⟨g4, off4, none⟩, n + 1, c4, rfl, by go_num, by omega, mkHid (by have := hn.out; omega), mkHid O4.out.s, B4⟩
      case measure => simp only [intOf]; omega
    · obtain rfl : k = 16 := by omega
      obtain rfl : n = 16 := hn.out
      have hoo : ∃ g off, ao = some ⟨g, off, none⟩ ∧ Hid (OwnAt wr w.heap.size g off cp (wv (sched b 16))) := by
        cases ho.out with
        | nil h => have := congrArg List.length h; rw [wv_length, sched_len] at this; simp at this
        | «at» g off h => exact ⟨g, off, rfl, mkHid h⟩
      obtain ⟨g5, off5, rfl, hr⟩ := hoo
      clear ho hn
      go_wp2_with fail
      go_loopw [3, 5] (fun c d wr => ∃ (k g off cp : Nat), c = .slice (some ⟨g, off, none⟩) k cp ∧ d = .int .i64 k ∧ 16 ≤ k ∧ k ≤ 64 ∧ Hid (OwnAt wr w.heap.size g off cp (wv (sched b k))) ∧ Hid (Below w.heap.size w wr)) (fun _ d _ => (64 - intOf d).toNat)
      case atStart => exact ⟨16, g5, off5, cp, rfl, rfl, by omega, by omega, hr, hb⟩
      case round =>
        clear hr hb
        obtain ⟨k, g, off, cp, rfl, rfl, h16, hk, ho, hb⟩ := hrel
        by_cases hlt : k < 64
        · have a15 := ho.out.cells (k - 15) _ (wv_at _ (k - 15) (by rw [sched_len]; omega))
          have a2 := ho.out.cells (k - 2) _ (wv_at _ (k - 2) (by rw [sched_len]; omega))
          have a16 := ho.out.cells (k - 16) _ (wv_at _ (k - 16) (by rw [sched_len]; omega))
          have a7 := ho.out.cells (k - 7) _ (wv_at _ (k - 7) (by rw [sched_len]; omega))
          have l15 := sched_lt b HL.out k (k - 15)
          have l2 := sched_lt b HL.out k (k - 2)
          have hx : Hid (sched b (k + 1) = sched b k ++ [((((sched b k).getD (k - 16) 0 + sg0 ((sched b k).getD (k - 15) 0)) % 4294967296 + (sched b k).getD (k - 7) 0) % 4294967296 + sg1 ((sched b k).getD (k - 2) 0)) % 4294967296]) := mkHid (by rw [sched, if_neg (by omega)])
          generalize (sched b k).getD (k - 15) 0 = x15 at *
          generalize (sched b k).getD (k - 2) 0 = x2 at *
          generalize (sched b k).getD (k - 16) 0 = x16 at *
          generalize (sched b k).getD (k - 7) 0 = x7 at *
          have s0 := xor_sg0 x15 l15
          have s1 := xor_sg1 x2 l2
          have d1 := add_w x16 (sg0 x15)
          have d2 := add_w ((x16 + sg0 x15) % 4294967296) x7
          have d3 := add_w (((x16 + sg0 x15) % 4294967296 + x7) % 4294967296) (sg1 x2)
          generalize sg0 x15 = z0 at *
          generalize sg1 x2 = z1 at *
          generalize (x16 + z0) % 4294967296 = u1 at *
          generalize (u1 + x7) % 4294967296 = u2 at *
          generalize (u2 + z1) % 4294967296 = u3 at *
          have w15 : IntKind.i64.wrap ((k : Int) - 15) = (k : Int) - 15 := IntWalk.i64_in _ (by omega)
          have w2 : IntKind.i64.wrap ((k : Int) - 2) = (k : Int) - 2 := IntWalk.i64_in _ (by omega)
          have w16 : IntKind.i64.wrap ((k : Int) - 16) = (k : Int) - 16 := IntWalk.i64_in _ (by omega)
          have w7 : IntKind.i64.wrap ((k : Int) - 7) = (k : Int) - 7 := IntWalk.i64_in _ (by omega)
          have t15 : ((k : Int) - 15).toNat = k - 15 := by omega
          have t2 : ((k : Int) - 2).toNat = k - 2 := by omega
          have t16 : ((k : Int) - 16).toNat = k - 16 := by omega
          have t7 : ((k : Int) - 7).toNat = k - 7 := by omega
          have g15 : 0 ≤ (k : Int) - 15 := by omega
          have g2 : 0 ≤ (k : Int) - 2 := by omega
          have g16 : 0 ≤ (k : Int) - 16 := by omega
          have g7 : 0 ≤ (k : Int) - 7 := by omega
          have q7 : (7 : Int) ≤ (k : Int) := by omega
          have q15 : (15 : Int) ≤ (k : Int) := by omega
          have q2 : (2 : Int) ≤ (k : Int) := by omega
          have q16 : (16 : Int) ≤ (k : Int) := by omega
          have k15 : (k : Int) - 15 < k := by omega
          have k2 : (k : Int) - 2 < k := by omega
          have k16 : (k : Int) - 16 < k := by omega
          have k7 : (k : Int) - 7 < k := by omega
          have kk : (k : Int) < 64 := by omega
          go_wp2_with fail
          refine (turn_m x15 7 25 7 _ l15 (by omega) (by omega) rfl rfl).mono ?_
          rintro e v1 ⟨rfl, b1⟩
          have b1 := mkHid (drew_bel b1)
          go_wp2_with fail
          refine (turn_m x15 18 14 18 _ l15 (by omega) (by omega) rfl rfl).mono ?_
          rintro e v2 ⟨rfl, b2⟩
          have b2 := mkHid (drew_bel b2)
          go_wp2_with fail
          refine (turn_m x2 17 15 17 _ l2 (by omega) (by omega) rfl rfl).mono ?_
          rintro e v3 ⟨rfl, b3⟩
          have b3 := mkHid (drew_bel b3)
          go_wp2_with fail
          refine (turn_m x2 19 13 19 _ l2 (by omega) (by omega) rfl rfl).mono ?_
          rintro e v4 ⟨rfl, b4⟩
          have b4 := mkHid (drew_bel b4)
          go_wp2_with fail
          have c2 := b1.out.trans (b2.out.mono b1.out.size)
          have c3 := c2.trans (b3.out.mono c2.size)
          have c4 := c3.trans (b4.out.mono c3.size)
          have A16 := (c4.cell (p := ⟨g, off + (k - 16), none⟩) ho.out.lt).trans a16
          have A7 := (c4.cell (p := ⟨g, off + (k - 7), none⟩) ho.out.lt).trans a7
          have O4 := mkHid (ho.out.of_block (c4.block g ho.out.lt) c4.size)
          have BB := mkHid (hb.out.trans (c4.mono hb.out.size))
          clear c2 c3 c4 b1 b2 b3 b4 a16 a7 a15 a2 ho hb
          refine wp_region_mst (.slice (some ⟨g, off, none⟩) k cp) 15 (by kernel_rfl) (by kernel_rfl) (fun _ _ _ h => h) (Or.inl ⟨by rfl, fun _ => rfl⟩) ?_
          simp only [List.take_succ_cons, List.take_zero, List.drop_succ_cons, List.drop_zero]
          repeat still_step
          try refine wpStill_nil ?_
          clear w15 w2 w16 w7 t15 t2 t16 t7 g15 g2 g16 g7 k15 k2 k16 k7 A16 A7 s0 s1 d1 d2 d3
          have hsl := mkHid (sched_len b k)
          go_wp2_with (at_builtin; refine app_words v4.drew w.heap.size rfl (.tmp 80) (.tmp 96) rfl (some ⟨g, off, none⟩) cp k (sched b k) ?q1 ?q2 (O4.out.s.of_block (fun _ _ _ => rfl) (Nat.le_refl _)) BB.out.size 1 1 #[.int .u32 (u3 : Nat)] 84 [u3] ?q3 rfl rfl (by omega) ?q4 ?_; (case q1 => exact hsl.out.symm); (case q2 => rfl); (case q3 => rfl); (case q4 => omega); intro g6 off6 c6 w6 o6 b6; rw [← hx.out] at o6; have O6 := mkHid o6; have B6 := mkHid (BB.out.drew.trans b6); clear o6 b6)
          go_roundw
          case rel => (repeat apply Exists.intro); exact ⟨⟨k + 1, g6, off6, c6, rfl, by go_num, by omega, by omega, O6, B6⟩, rfl⟩
          case measure => simp [intOf]; omega
        · obtain rfl : k = 64 := by omega
          go_wp2_with fail
          go_ret
          exact ⟨g, off, cp, rfl, ho.out, hb.out⟩
end Go.Proofs.YtbllanmhbfnagaaDoor
