/- SHA-256 of field: the whole function (walk). -/
import Derived.Test.YtbllanmhbfnagaaDoorU9
import Derived.Test.YtbllanmhbfnagaaDoorU13
import Derived.Test.YtbllanmhbfnagaaDoorU0
set_option linter.unusedVariables false
set_option linter.unusedSimpArgs false
namespace Go.Proofs.YtbllanmhbfnagaaDoor
open Go.RowKit

theorem info_byte : (Tryd.prog.info? 5).map (fun i => (i.zero, i.size, i.bytes)) = some (some (.int .u8 0), 1, 1) := by kernel_rfl
/-- An append of bytes that were just built. -/
theorem app_bytes {ops : Array Oper} {rest : List Oper} {o : Oper} {a : Act} {Q : Exit → Act → World → Prop} (w1 : World) (B : Nat)
    (hg : o.guard = none) (s x : Operand) (hop : o.op = Op.call { callee := Callee.builtin Builtin.append, args := #[s, x], argTypes := #[83, 83] })
    (ao : Option Addr) (cap n : Nat) (l : List Nat) (hn : n = l.length) (hs : a.eval s = .slice ao n cap) (hO : OwnS w1 B cap (bv l) ao) (hB : B ≤ w1.heap.size)
    (m c : Nat) (cs : Array Value) (te : TypeId) (news : List Nat) (hx : a.eval x = .slice (some ⟨w1.heap.size, 0, none⟩) m c) (hcs : cs.toList = bv news) (hm : news.length = m) (hm0 : 0 < m)
    (b1 : n + m ≤ 2199023255552)
    (hK : ∀ g off cap' w', OwnAt w' B g off cap' (bv (l ++ news)) → Below B w1 w' → wpList Tryd.prog ops Q rest (a.put o.dst (.slice (some ⟨g, off, none⟩) (n + m) cap')) w') :
    wpList Tryd.prog ops Q (o :: rest) a (w1.alloc (.cells cs te)) := by
  obtain ⟨i0, hi, hz0, hz1, hz2⟩ := info_parts info_byte
  refine wpList_append_new w1 B hg s x 83 hop 5 i0 (.int .u8 0) 1 Tryd.underlying83 hi hz0 hz1 hz2 rfl ao cap (bv l) n (by rw [bv_length]; exact hn) hs hO hB m c cs te hx
    (by rw [← Array.length_toList, hcs, bv_length]; exact hm) hm0 (by rw [hcs]; exact bv_one _) (by simp only [maxLen]; omega) (by omega) ?_
  intro g off cap' w' h _ hb _
  refine hK g off cap' w' ?_ hb
  rw [bv_append, ← hcs]
  exact h
theorem wpStill_load_row {P : Program} {ops : Array Oper} {w : World} {rest : List Oper} {o : Oper} {a : Act} {Q : Act → Prop} (hgd : o.guard = none) (ty : TypeId) (x : Operand) (ho : o.op = .load ty x)
    (g : Nat) (hx : a.eval x = .pointer (some ⟨g, 0, none⟩)) (t : TypeId) (cs : Array Value) (fr : Nat × Nat) (d : TypeDesc) (hg : w.heap[g]? = some (.cells cs t fr))
    (hu : P.underlying ty = some d) (hd : (match d with | .struct _ | .array _ _ => true | _ => false) = true) (hi : (P.info? ty).map (·.size) = some cs.size)
    (h : wpStill P ops w Q rest (a.put o.dst (.agg cs))) : wpStill P ops w Q (o :: rest) a := by
  have hw : Region.wanted o (yielded ops a.tmps) = true := by simp [Region.wanted, hgd]
  rw [wpStill, if_pos hw]
  unfold Oper.still execOp
  simp only [ho, hx, Instr.loadAt, Instr.sureAddr, Sem.run_bind, Sem.run_pure, Result.andThen_ok, run_loadVar_row w g t ty cs fr d hg hu hd hi]
  exact ⟨rfl, h⟩
theorem run_index_words (cs : Array Value) (j : Nat) (hj : j < 8) (x : Int) (hx : cs[j]? = some (.int .u32 x)) (w : World) :
    (Instr.index 86 (.agg cs) (.int .i64 j)).run Tryd.prog w = .ok (.int .u32 x) w := by
  have h0 : 0 ≤ (j : Int) ∧ (j : Int) < ((8 : Nat) : Int) := by omega
  have hs : ∀ w, (Go.sizeOf 84).run Tryd.prog w = .ok 1 w := fun _ => by kernel_rfl
  have hp : ∀ w, (part 84 cs j).run Tryd.prog w = .ok (.int .u32 x) w := fun w => by
    have ha : ∀ w, (isAgg 84).run Tryd.prog w = .ok false w := fun _ => by kernel_rfl
    simp [part, Sem.run_bind, ha, Result.andThen, hx, go_sem]
  simp only [Instr.index, asIntOf, Sem.run_bind, Sem.run_pure, Result.andThen_ok, run_underlying Tryd.underlying86, if_pos h0, hs, Int.toNat_natCast, Nat.mul_one, hp]
def lenOf : Value → Nat | .slice _ n _ => n | _ => 0
set_option maxHeartbeats 2000000 in
set_option maxRecDepth 100000 in
theorem sha_any (s : ByteArray) (w : World) (hs : s.size ≤ 1099511627776) :
    Calls Tryd.prog 32 #[.string s] w fun e w' => e = .returned (.string (strN (shaF (bytesN s)))) ∧ Below w.heap.size w w' := by
  obtain ⟨l, hl⟩ : ∃ l, bytesN s = l := ⟨_, rfl⟩
  have hL : s.size = l.length := by rw [← hl, bytesN_length]
  have hlt : ∀ j, l.getD j 0 < 256 := fun j => by rw [← hl]; exact bytesN_lt s j
  rw [hl]
  have HL := mkHid hl
  have HLT := mkHid hlt
  clear hl hlt
  have HS : Hid (l.length ≤ 1099511627776) := mkHid (by omega)
  have HSZ := mkHid hL
  clear hs hL
  go_enter Tryd.func32, Tryd.ntmps32
  go_wp2_with (first | (refine wpList_bytes_of _ rfl 9 83 (.tmp 9) rfl 5 .string Tryd.underlying9 Tryd.underlying83 Tryd.underlying5 s ?cs ?cm ?_; (case cs => rfl); (case cm => have := HS.out; have := HSZ.out; simp only [maxLen]; omega); intro g0 c0 w1 o1 b1; rw [HL.out] at o1; have O1 := mkHid o1; have B1 := mkHid b1; have e0 := HSZ.out; rw [e0]; clear o1 b1 e0) | (at_builtin; refine app_bytes w1 w.heap.size rfl (.tmp 10) (.tmp 11) rfl (some ⟨g0, 0, none⟩) c0 l.length l rfl ?p1 O1.out.s B1.out.size 1 1 #[.int .u8 128] 5 [128] ?p2 rfl rfl (by omega) ?p3 ?_; (case p1 => rfl); (case p2 => rfl); (case p3 => have := HS.out; omega); intro g1 off1 c1 w2 o2 b2; have O2 := mkHid o2; have B2 := mkHid (B1.out.trans b2); clear o2 b2 O1 B1))
  rw [show l ++ [128] = padZ l 0 by simp [padZ]] at O2
  go_loopw [3] (fun c wr => ∃ z n g off cap, c = .slice (some ⟨g, off, none⟩) n cap ∧ Hid (n = l.length + 1 + z) ∧ z ≤ zerosN l.length ∧ Hid (OwnAt wr w.heap.size g off cap (bv (padZ l z))) ∧ Hid (Below w.heap.size w wr)) (fun c _ => l.length + 100 - lenOf c)
  case atStart => exact ⟨0, _, _, _, _, rfl, mkHid rfl, by omega, O2, B2⟩
  case round =>
    obtain ⟨z, n, g, off, cap, rfl, hn, hz, ho, hb⟩ := hrel
    clear O2 B2
    have hn2 : Hid (n = (padZ l z).length) := mkHid (by rw [hn.out, padZ_len])
    have hn3 : n ≤ 1099511627776 + 64 := by have := hn.out; have := HS.out; have := zerosN_le l.length; omega
    by_cases hlt : z < zerosN l.length
    · have hq : ((n : Int) % 64 == 56) = false := by
        rw [beq_eq_false_iff_ne]; have := zerosN_not l.length z hlt; have := hn.out; omega
      have hq2 : ¬ ((n : Int) % 64 = 56) := by simpa using hq
      go_wp2_with (at_builtin; refine app_bytes wr w.heap.size rfl (.tmp 17) (.tmp 18) rfl (some ⟨g, off, none⟩) cap n (padZ l z) ?q1 ?q2 ho.out.s hb.out.size 1 1 #[.int .u8 0] 5 [0] ?q3 rfl rfl (by omega) ?q4 ?_; (case q1 => exact hn2.out); (case q2 => rfl); (case q3 => rfl); (case q4 => omega); intro g3 off3 c3 w3 o3 b3; rw [padZ_step] at o3; have O3 := mkHid o3; have B3 := mkHid (hb.out.trans b3); clear o3 b3)
      go_roundw
      case rel => exact ⟨z + 1, n + 1, g3, off3, c3, rfl, mkHid (by have := hn.out; omega), by omega, O3, B3⟩
      case measure => have := hn.out; have := zerosN_le l.length; simp only [lenOf]; omega
    · obtain rfl : z = zerosN l.length := by omega
      have hq : ((n : Int) % 64) = 56 := by have := zerosN_end l.length; have := hn.out; omega
      rw [padJ_zero] at ho
      go_wp2_with fail
      go_loopw [3, 4] (fun c d wr => ∃ (j n : Nat) (k : Int) (g off cap : Nat), c = .slice (some ⟨g, off, none⟩) n cap ∧ d = .int .i64 k ∧ Hid (n = (padJ l j).length) ∧ j ≤ 8 ∧ Hid (k = 56 - 8 * (j : Int)) ∧ Hid (OwnAt wr w.heap.size g off cap (bv (padJ l j))) ∧ Hid (Below w.heap.size w wr)) (fun _ d _ => (intOf d + 8).toNat)
      case atStart => exact ⟨0, n, 56, g, off, cap, rfl, rfl, mkHid (by rw [hn2.out, padJ_zero]), by omega, mkHid (by omega), ho, hb⟩
      case round =>
        clear ho hb hq hn hn2 hn3
        obtain ⟨j, n, k, g, off, cap, rfl, rfl, hn, hj, hk, ho, hb⟩ := hrel
        by_cases hlt : j < 8
        · have hk0 : 0 ≤ k := by have := hk.out; omega
          have hk1 : k ≤ 56 := by have := hk.out; omega
          have e0 := HSZ.out
          have hl2 : l.length ≤ 1099511627776 := HS.out
          obtain ⟨x, hx⟩ : ∃ x, 8 * l.length / 2 ^ (56 - 8 * j) % 256 = x := ⟨_, rfl⟩
          have hv : 8 * (l.length : Int) / 2 ^ k.toNat % 256 = ((x : Nat) : Int) := by
            rw [← hx, show k.toNat = 56 - 8 * j by have := hk.out; omega]; push_cast; rfl
          have hst := mkHid (padJ_step l j hlt)
          rw [hx] at hst
          have hn3 : n ≤ 1099511627776 + 128 := by have := hn.out; rw [padJ_len l j (by omega)] at this; have := zerosN_le l.length; omega
          clear hx
          go_wp2_with (at_builtin; refine app_bytes wr w.heap.size rfl (.tmp 24) (.tmp 32) rfl (some ⟨g, off, none⟩) cap n (padJ l j) ?r1 ?r2 ho.out.s hb.out.size 1 1 #[.int .u8 (x : Nat)] 5 [x] ?r3 rfl rfl (by omega) ?r4 ?_; (case r1 => exact hn.out); (case r2 => rfl); (case r3 => rfl); (case r4 => omega); intro g3 off3 c3 w3 o3 b3; rw [hst.out] at o3; have O3 := mkHid o3; have B3 := mkHid (hb.out.trans b3); clear o3 b3)
          go_roundw
          case rel => exact ⟨j + 1, n + 1, _, g3, off3, c3, rfl, rfl, mkHid (by have := hn.out; rw [padJ_len l j (by omega)] at this; rw [padJ_len l (j + 1) (by omega)]; omega), by omega, mkHid (by have := hk.out; omega), O3, B3⟩
          case measure => have := hk.out; simp only [intOf]; omega
        · obtain rfl : j = 8 := by omega
          obtain rfl : k = -8 := by have := hk.out; omega
          clear hk
          rw [padJ_done] at ho hn
          obtain ⟨N, hN⟩ : ∃ N, (padF l).length = 64 * N := ⟨_, padF_blocks l⟩
          have hp : Hid (∀ j, (padF l).getD j 0 < 256) := mkHid (padF_lt l HLT.out)
          have hsha := mkHid (shaF_eq l N hN)
          have hNb : N ≤ 17179869188 := by
            have h1 := padF_len l; have := zerosN_le l.length; have := HS.out; omega
          obtain rfl : n = 64 * N := by have := hn.out; omega
          have HN := mkHid hN
          clear hn hN
          generalize padF l = p at *
          go_wp2_with fail
          refine (first_any _).mono ?_
          rintro e w2 ⟨rfl, b2⟩
          have z2 := b2.size
          have HC : Hid (∀ j, j < 64 * N → w2.cell? ⟨g, off + j, none⟩ = some (.int .u8 (p.getD (64 * 0 + j) 0 : Nat))) := mkHid (fun j hj => by
            rw [b2.cell (p := ⟨g, off + j, none⟩) ho.out.lt, Nat.mul_zero, Nat.zero_add]
            exact ho.out.cells j _ (bv_at p j (by rw [HN.out]; exact hj)))
          have hgl : g < w2.heap.size := Nat.lt_of_lt_of_le ho.out.lt z2
          have hcp : 64 * N ≤ cap := by have := ho.out.le; rw [bv_length, HN.out] at this; exact this
          have B2 : Hid (Below w.heap.size w w2) := mkHid (hb.out.trans (b2.mono hb.out.size))
          have hgo := ho.out.own
          clear ho hb b2
          go_wp2_with (refine wpList_store_abs rfl 86 (.tmp 5) (.tmp 34) rfl w2.heap.size (wcells (stL firstF)) ?s1 ?s2 86 _ (heap_alloc_last _ _) ?s5 ?s6 (wcells_one _) ?_; (case s1 => rfl); (case s2 => rfl); (case s5 => exact wcells_inf rfl); (case s6 => exact (stL_size _).symm); intro W3 s3 u3; have S3 : Hid (HasW W3 w2.heap.size 86 (stL (blocksF p 0))) := mkHid s3; have B3 := mkHid (u3.below (B2.out.alloc B2.out.size _) (by have := B2.out.size; omega)); have C3 : Hid (∀ j, j < 64 * N → W3.cell? ⟨g, off + j, none⟩ = some (.int .u8 (p.getD (64 * 0 + j) 0 : Nat))) := mkHid (fun j hj => by rw [World.cell?_of_block (w := w2) (a := ⟨g, off + j, none⟩) ((u3.block g (by omega)).trans (Below.heap_alloc _ _ _ hgl))]; exact HC.out j hj); have Z3 : W3.heap.size = w2.heap.size + 1 := u3.size.trans (by simp); clear s3 u3 B2 HC)
          have hA : w.heap.size ≤ w2.heap.size := Nat.le_trans (Nat.le_trans hgo (Nat.le_of_lt hgl)) (Nat.le_refl _)
          have ZZ := mkHid Z3
          clear Z3 z2
          generalize w2.heap.size = A at *
          simp only [Act.put]
          go_loopw [3] (fun c wr => ∃ i off n cap, c = .slice (some ⟨g, off, none⟩) n cap ∧ i ≤ N ∧ Hid (n = 64 * (N - i)) ∧ n ≤ cap ∧ Hid (∀ j, j < n → wr.cell? ⟨g, off + j, none⟩ = some (.int .u8 (p.getD (64 * i + j) 0 : Nat))) ∧ Hid (HasW wr A 86 (stL (blocksF p i))) ∧ Hid (Below w.heap.size w wr) ∧ A < wr.heap.size) (fun c _ => lenOf c)
          case atStart => exact ⟨0, off, 64 * N, cap, rfl, by omega, mkHid (by omega), hcp, C3, S3, B3, by have := ZZ.out; omega⟩
          case round =>
            clear C3 S3 B3 ZZ hcp
            obtain ⟨i, off, n, cap, rfl, hi, hn, hcp, hc, hh, hb, hz⟩ := hrel
            by_cases hlt : i < N
            · have hn0 : 0 < n := by have := hn.out; omega
              have hn64 : 64 ≤ n := by have := hn.out; omega
              have hnb : n ≤ 2199023255552 := by have := hn.out; omega
              go_wp2_with fail
              have hc0 : ¬ cap = 0 := by omega
              have hc64 : 64 ≤ cap := by omega
              have hc65 : (64 : Int) ≤ (cap : Int) := by omega
              refine wp_region_still_tail 3 (by kernel_rfl) (by kernel_rfl) ?_
              simp only [List.take_succ_cons, List.take_zero, List.drop_succ_cons, List.drop_zero]
              refine wpStill_load_row rfl 86 (.tmp 5) rfl A rfl 86 (wcells (stL (blocksF p i))) (0, 0) _ hh.out Tryd.underlying86 rfl (wcells_inf rfl) ?_
              repeat still_step
              refine wpStill_nil ?_
              have hbk : ((p.drop (64 * i)).take 64).length = 64 := blk_len p i N HN.out hlt
              have HBK := mkHid hbk
              have hcb : Hid (∀ j, j < 64 → wr.cell? ⟨g, off + j, none⟩ = some (.int .u8 (((p.drop (64 * i)).take 64).getD j 0 : Nat))) := mkHid (fun j hj => by rw [blk_getD p i j hj]; exact hc.out j (by omega))
              have hbl := mkHid (blk_lt p i hp.out)
              have hsu := mkHid (blocksF_succ p i)
              clear hbk
              generalize (p.drop (64 * i)).take 64 = bl at *
              go_wp2_with fail
              refine (mix_x g off cap bl (blocksF p i) wr.drew HBK.out hbl.out hc64 (fun j hj => hcb.out j hj) (by show g < wr.heap.size; omega) (blocksF_ok p i)).mono ?_
              rintro e w3 ⟨rfl, b3⟩
              have b4 : Below wr.heap.size wr w3 := ⟨b3.os, b3.tape, b3.output, b3.size, b3.block⟩
              have H3 : Hid (HasW w3 A 86 (stL (blocksF p i))) := mkHid (hh.out.below b4 hz)
              have C3 : Hid (∀ j, j < n → w3.cell? ⟨g, off + j, none⟩ = some (.int .u8 (p.getD (64 * i + j) 0 : Nat))) := mkHid (fun j hj => by rw [b4.cell (p := ⟨g, off + j, none⟩) (by show g < wr.heap.size; omega)]; exact hc.out j hj)
              have B3 : Hid (Below w.heap.size w w3) := mkHid (hb.out.trans (b4.mono hb.out.size))
              have Z3 := b4.size
              rw [← hsu.out]
              clear b3 b4 hcb hc hh hb
              go_wp2_with (first | (refine wpList_store_abs rfl 86 (.tmp 5) (.tmp 43) rfl A (wcells (stL (blocksF p (i + 1)))) ?t1 ?t2 86 _ H3.out ?t5 ?t6 (wcells_one _) ?_; (case t1 => rfl); (case t2 => rfl); (case t5 => exact wcells_inf rfl); (case t6 => exact (stL_size _).trans (stL_size _).symm); intro W4 s4 u4; have S4 : Hid (HasW W4 A 86 (stL (blocksF p (i + 1)))) := mkHid s4; have B4 := mkHid (u4.below B3.out (by omega)); have C4 : Hid (∀ j, j < n → W4.cell? ⟨g, off + j, none⟩ = some (.int .u8 (p.getD (64 * i + j) 0 : Nat))) := mkHid (fun j hj => by rw [World.cell?_of_block (w := w3) (a := ⟨g, off + j, none⟩) (u4.block g (by omega))]; exact C3.out j hj); have Z4 : W4.heap.size = w3.heap.size := u4.size; clear s4 u4 B3 C3 H3) | (refine wpList_slice_from W4 rfl 83 (.tmp 38) (.const (.int .i64 64)) rfl 5 Tryd.underlying83 ?v1 g off n cap .i64 64 64 rfl ?v2 ?v3 hn64 ?_; (case v1 => kernel_rfl); (case v2 => rfl); (case v3 => rfl); intro off2 ho2))
              go_roundw
              case rel => exact ⟨i + 1, off2, n - 64, cap - 64, rfl, by omega, mkHid (by have := hn.out; omega), by omega, mkHid (fun j hj => by rw [ho2 (by omega), Nat.add_assoc, C4.out (64 + j) (by omega)]; rw [show 64 * i + (64 + j) = 64 * (i + 1) + j by omega]), S4, B4, by omega⟩
              case measure => simp only [lenOf]; omega
            · obtain rfl : i = N := by omega
              obtain rfl : n = 0 := by have := hn.out; omega
              clear hn hc
              have h8 := mkHid (stL_size (blocksF p i))
              have h8l : Hid ((stL (blocksF p i)).length = 8) := mkHid rfl
              generalize stL (blocksF p i) = ol at *
              have io : Hid ((Tryd.prog.info? 86).map (·.size) = some (wcells ol).size) := mkHid (by rw [h8.out]; kernel_rfl)
              go_wp2_with (refine wpList_load_row rfl 86 (.tmp 5) rfl A ?x1 86 (wcells ol) (0, 0) _ hh.out Tryd.underlying86 rfl io.out ?_; (case x1 => rfl))
              have HSH : Hid (shaF l = outL ol 8) := hsha
              clear hsha h8
              go_loopw [6, 45] (fun c d wr => ∃ (j : Nat) (ao : Option Addr) (n cap : Nat), c = .slice ao n cap ∧ d = .int .i64 j ∧ j ≤ 8 ∧ Hid (n = 4 * j) ∧ Hid (OwnS wr w.heap.size cap (bv (outL ol j)) ao) ∧ Hid (Below w.heap.size w wr)) (fun _ d _ => (8 - intOf d).toNat)
              case atStart => exact ⟨0, none, 0, 0, rfl, rfl, by omega, mkHid rfl, mkHid (.nil rfl rfl), hb⟩
              case round =>
                clear hb hh
                obtain ⟨j, ao, n, cap2, rfl, rfl, hj, hn, ho, hb⟩ := hrel
                by_cases hlt : j < 8
                · have hjl := mkHid (outL_step ol j (by rw [h8l.out]; exact hlt))
                  have hjn := mkHid (outL_len ol j (by rw [h8l.out]; omega))
                  have hwc := mkHid (run_index_words (wcells ol) j hlt (ol.getD j 0 : Nat) (by simp [wcells, List.getD, show j < ol.length by rw [h8l.out]; exact hlt]))
                  generalize ol.getD j 0 = x at *
                  have hjj : (j : Int) < 8 := by omega
                  have hwd := hwc.out wr
                  have hbv : Hid ((#[.int .u8 ((x : Int) / 16777216 % 256), .int .u8 ((x : Int) / 65536 % 256), .int .u8 ((x : Int) / 256 % 256), .int .u8 ((x : Int) % 256)] : Array Value).toList = bv (wordBytes x)) := mkHid (by simp [bv, wordBytes])
                  go_wp2_with (at_builtin; refine app_bytes wr w.heap.size rfl (.tmp 48) (.tmp 60) rfl ao cap2 n (outL ol j) ?y1 ?y2 ho.out hb.out.size 4 4 #[.int .u8 ((x : Int) / 16777216 % 256), .int .u8 ((x : Int) / 65536 % 256), .int .u8 ((x : Int) / 256 % 256), .int .u8 ((x : Int) % 256)] 5 (wordBytes x) ?y3 hbv.out rfl (by omega) ?y4 ?_; (case y1 => exact hn.out.trans hjn.out.symm); (case y2 => rfl); (case y3 => rfl); (case y4 => have := hn.out; omega); intro g4 off4 c4 w4 o4 b4; rw [hjl.out] at o4; have O4 := mkHid o4; have B4 := mkHid (hb.out.trans (b4)); clear o4 b4)
                  go_roundw
                  case rel => exact ⟨j + 1, some ⟨g4, off4, none⟩, n + 4, c4, rfl, by go_num, by omega, mkHid (by have := hn.out; omega), mkHid O4.out.s, B4⟩
                  case measure => simp only [intOf]; omega
                · obtain rfl : j = 8 := by omega
                  have hlen := outL_len ol 8 (by rw [h8l.out]; omega)
                  obtain rfl : n = 32 := hn.out
                  have hoo : ∃ g off, ao = some ⟨g, off, none⟩ ∧ Hid (Reads wr g off (bv (outL ol 8))) := by
                    cases ho.out with
                    | nil h => have := congrArg List.length h; rw [bv_length, hlen] at this; simp at this
                    | «at» g off h => exact ⟨g, off, rfl, mkHid h.cells⟩
                  obtain ⟨g5, off5, rfl, hr⟩ := hoo
                  have hlt2 := mkHid (outL_lt ol 8)
                  have hl32 := mkHid hlen
                  clear ho hn hlen
                  rw [show ((8 : Nat) : Int) = 8 from rfl]
                  go_wp2_with (refine wpList_string_of _ rfl 83 9 (.tmp 63) rfl 5 Tryd.underlying83 Tryd.underlying5 Tryd.underlying9 ⟨g5, off5, none⟩ 32 cap2 (outL ol 8) ?z1 hl32.out.symm hlt2.out ?z2 ?_; (case z1 => rfl); (case z2 => (intro j u hj; rw [Addr.add_lit]; exact hr.out j u hj)))
                  go_ret
                  exact ⟨by rw [HSH.out]; rfl, hb.out⟩
end Go.Proofs.YtbllanmhbfnagaaDoor
