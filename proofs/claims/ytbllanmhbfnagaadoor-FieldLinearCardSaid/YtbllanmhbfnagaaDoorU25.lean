/- SHA-256 of the reference: a block (walk). SHA-256 of the reference: the padding (walk). -/
import Derived.Outline
import Derived.Test.YtbllanmhbfnagaaDoorU24
import Derived.Test.YtbllanmhbfnagaaDoorU11
import Derived.Test.YtbllanmhbfnagaaDoorU12
import Derived.Test.YtbllanmhbfnagaaDoorU1
import Derived.Test.YtbllanmhbfnagaaDoorU14
set_option linter.unusedVariables false
set_option linter.unusedSimpArgs false
namespace Go.Proofs.YtbllanmhbfnagaaDoor
open Go.RowKit Go.Sort
theorem xor_rbs1 (x : Nat) (hx : x < 4294967296) : bits BinOp.xor IntKind.u32 (bits BinOp.xor IntKind.u32 (rotl x 26 : Nat) (rotl x 21 : Nat)) (rotl x 7 : Nat) = (bs1 x : Nat) := by
  rw [u32_xor_nat _ _ (rotl_lt x _ hx) (rotl_lt x _ hx), u32_xor_nat _ _ (Nat.xor_lt_two_pow (n := 32) (rotl_lt x _ hx) (rotl_lt x _ hx)) (rotl_lt x _ hx)]
  rfl
theorem xor_rbs0 (x : Nat) (hx : x < 4294967296) : bits BinOp.xor IntKind.u32 (bits BinOp.xor IntKind.u32 (rotl x 30 : Nat) (rotl x 19 : Nat)) (rotl x 10 : Nat) = (bs0 x : Nat) := by
  rw [u32_xor_nat _ _ (rotl_lt x _ hx) (rotl_lt x _ hx), u32_xor_nat _ _ (Nat.xor_lt_two_pow (n := 32) (rotl_lt x _ hx) (rotl_lt x _ hx)) (rotl_lt x _ hx)]
  rfl
/-- A word with its bits turned. -/
def notW (x : Nat) : Nat := 4294967295 ^^^ x
theorem notW_lt (x : Nat) (hx : x < 4294967296) : notW x < 4294967296 := Nat.xor_lt_two_pow (n := 32) (by omega) hx
theorem notW_bit (x i : Nat) (hx : x < 4294967296) (hi : i < 32) : (notW x).testBit i = !x.testBit i := by
  unfold notW
  rw [Nat.testBit_xor, show 4294967295 = 2 ^ 32 - 1 from rfl, Nat.testBit_two_pow_sub_one, decide_eq_true hi]
  simp
theorem xor_notW (x : Nat) (hx : x < 4294967296) : bits BinOp.xor IntKind.u32 IntKind.u32.max (x : Int) = (notW x : Nat) := u32_xor_nat 4294967295 x (by omega) hx
theorem ch_eq (e f g : Nat) (he : e < 4294967296) (hg : g < 4294967296) : (e &&& f) ^^^ (notW e &&& g) = chF e f g := by
  unfold chF
  apply Nat.eq_of_testBit_eq
  intro i
  rcases Nat.lt_or_ge i 32 with hi | hi
  · simp only [Nat.testBit_xor, Nat.testBit_and, notW_bit e i he hi]
    cases e.testBit i <;> cases f.testBit i <;> cases g.testBit i <;> rfl
  · have hb : ∀ x, x < 4294967296 → x.testBit i = false := fun x hx => Nat.testBit_lt_two_pow (Nat.lt_of_lt_of_le hx (Nat.pow_le_pow_right (n := 2) (by omega) hi))
    simp only [Nat.testBit_xor, Nat.testBit_and, hb e he, hb g hg]
    simp
theorem mj_eq (a b c : Nat) : ((a &&& b) ^^^ (a &&& c)) ^^^ (b &&& c) = mjF a b c := by
  unfold mjF
  apply Nat.eq_of_testBit_eq
  intro i
  simp only [Nat.testBit_xor, Nat.testBit_and, Nat.testBit_or]
  cases a.testBit i <;> cases b.testBit i <;> cases c.testBit i <;> rfl
theorem own_built (w : World) (t : TypeId) (l : List Nat) (hl : l.length ≤ maxLen) : OwnAt (w.alloc (.cells (wcells l) t)) w.heap.size w.heap.size 0 l.length (wv l) := by
  have hh := heap_alloc_new w (.cells (wcells l) t)
  have hcell : ∀ j, (w.alloc (.cells (wcells l) t)).cell? ⟨w.heap.size, 0 + j, none⟩ = (wcells l)[j]? := fun j => by rw [Nat.zero_add]; exact cell_of_row _ _ _ _ _ _ hh
  refine ⟨Nat.le_refl _, by simp, by rw [wv_length]; exact Nat.le_refl _, hl, ?_, ?_, ?_⟩
  · intro j u hj
    rw [hcell, ← hj]
    simp [wcells, wv]
  · intro j hj
    rw [hcell, wcells_at l j hj]; rfl
  · intro j hj
    rw [Nat.zero_add]; exact frozen_of_row _ _ _ _ _ hh
/-- What the rounds of the reference find. -/
structure BlkW (w w' : World) (gh oh gs os gk g off cp : Nat) (ws hl vl : List Nat) : Prop where
  h : Reads w' gh oh (wv hl)
  s : Reads w' gs os (wv ws)
  k : HasW w' gk 84 kTab
  v : OwnAt w' w.heap.size g off cp (wv vl)
  b : Below w.heap.size w w'
  lh : gh < w.heap.size
  ls : gs < w'.heap.size
  gs : gs ≠ g
  gk : gk ≠ g
theorem BlkW.step {w w' W : World} {gh oh gs os gk g off cp : Nat} {ws hl vl : List Nat} (h : BlkW w w' gh oh gs os gk g off cp ws hl vl) (hb : Below w'.heap.size w' W) : BlkW w W gh oh gs os gk g off cp ws hl vl :=
  ⟨h.h.of_block (hb.block gh (Nat.lt_of_lt_of_le h.lh h.b.size)), h.s.of_block (hb.block gs h.ls), h.k.below hb h.k.lt, h.v.of_block (hb.block g h.v.lt) hb.size, h.b.trans (hb.mono h.b.size), h.lh, Nat.lt_of_lt_of_le h.ls hb.size, h.gs, h.gk⟩
theorem BlkW.setv {w w' : World} {gh oh gs os gk g off cp : Nat} {ws hl vl : List Nat} (h : BlkW w w' gh oh gs os gk g off cp ws hl vl) (j z : Nat) (hj : j < vl.length) : BlkW w (w'.setCell ⟨g, off + j, none⟩ (.int .u32 (z : Nat))) gh oh gs os gk g off cp ws hl (vl.set j z) := by
  have hs := h.v.set j (.int .u32 (z : Nat)) (by rw [wv_length]; exact hj)
  rw [show (wv vl).set j (.int .u32 (z : Nat)) = wv (vl.set j z) by simp [wv, List.map_set]] at hs
  have ho : ∀ k, k ≠ g → (w'.setCell ⟨g, off + j, none⟩ (.int .u32 (z : Nat))).heap[k]? = w'.heap[k]? := fun k hk => heap_setCell_other w' _ k _ hk
  have hg := h.v.own
  exact ⟨h.h.of_block (ho gh (by have := h.lh; omega)), h.s.of_block (ho gs h.gs), by have := ho gk h.gk; unfold HasW; rw [this]; exact h.k, hs, below_setCell h.b hg _, h.lh, by rw [World.size_setCell]; exact h.ls, h.gs, h.gk⟩
theorem stL_reads {w : World} {g off : Nat} {a b c d e f g' h : Nat} (hv : Reads w g off (wv [a, b, c, d, e, f, g', h])) :
    w.cell? ⟨g, off, none⟩ = some (.int .u32 (a : Nat)) ∧ w.cell? ⟨g, off + 1, none⟩ = some (.int .u32 (b : Nat)) ∧ w.cell? ⟨g, off + 2, none⟩ = some (.int .u32 (c : Nat)) ∧ w.cell? ⟨g, off + 3, none⟩ = some (.int .u32 (d : Nat)) ∧ w.cell? ⟨g, off + 4, none⟩ = some (.int .u32 (e : Nat)) ∧ w.cell? ⟨g, off + 5, none⟩ = some (.int .u32 (f : Nat)) ∧ w.cell? ⟨g, off + 6, none⟩ = some (.int .u32 (g' : Nat)) ∧ w.cell? ⟨g, off + 7, none⟩ = some (.int .u32 (h : Nat)) :=
  ⟨hv 0 _ rfl, hv 1 _ rfl, hv 2 _ rfl, hv 3 _ rfl, hv 4 _ rfl, hv 5 _ rfl, hv 6 _ rfl, hv 7 _ rfl⟩
theorem turn_bb (x n m : Nat) (k : Int) (w : World) (hx : x < 4294967296) (h0 : 0 < n) (hn : n < 32) (hk : k = (n : Int)) (hm : 32 - n = m) :
    Calls Tryd.prog 113 #[.int .u32 x, .int .i64 k] w fun e w' => e = .returned (.int .u32 (rotl x m)) ∧ Below w.heap.size w w' :=
  (turn_m x n m k w hx h0 hn hk hm).mono fun _ _ ⟨h1, h2⟩ => ⟨h1, drew_bel h2⟩
set_option maxHeartbeats 8000000 in
set_option maxRecDepth 100000 in
theorem rblock_any (gh oh ch blk off cap : Nat) (b : List Nat) (st0 : St) (w : World) (hb64 : b.length = 64) (hlt : ∀ j, b.getD j 0 < 256) (hcap : 64 ≤ cap)
    (hc : ∀ j, j < 64 → w.cell? ⟨blk, off + j, none⟩ = some (.int .u8 (b.getD j 0 : Nat))) (hbl : blk < w.heap.size) (hok : StOK st0) (hh : Reads w gh oh (wv (stL st0))) (hgl : gh < w.heap.size) :
    Calls Tryd.prog 90 #[.slice (some ⟨gh, oh, none⟩) 8 ch, .slice (some ⟨blk, off, none⟩) 64 cap] w fun e w' => ∃ g o c, e = .returned (.slice (some ⟨g, o, none⟩) 8 c) ∧ OwnAt w' w.heap.size g o c (wv (stL (mixF st0 b))) ∧ Below w.heap.size w w' := by
  have HC := mkHid hc
  have HL := mkHid hlt
  have HH := mkHid hh
  have OK := mkHid hok
  clear hc hlt hh hok
  go_enter Tryd.func90, Tryd.ntmps90
  go_wp2_with fail
  refine (rwords_any blk off cap b _ hb64 HL.out hcap HC.out hbl).mono ?_
  rintro e w1 ⟨gs, os, cs, rfl, o1, b1⟩
  have O1 := mkHid o1
  have B1 := mkHid b1
  clear o1 b1
  go_wp2_with fail
  refine (adds_any _).mono ?_
  rintro e w2 ⟨rfl, rfl⟩
  go_upto_region 3 with (fail)
  have K2 : HasW (w1.alloc (.cells (wcells kTab) 84)) w1.heap.size 84 kTab := heap_alloc_new w1 _
  have BA := (Below.refl w1.heap.size w1).alloc (Nat.le_refl _) (.cells (wcells kTab) 84)
  have L1 : gs < w1.heap.size := O1.out.lt
  have S2 := O1.out.cells.of_block (BA.block gs L1)
  have H2 := (HH.out.of_block (B1.out.block gh hgl)).of_block (BA.block gh (Nat.lt_of_lt_of_le hgl B1.out.size))
  have B2 := B1.out.trans (BA.mono B1.out.size)
  have z2 : (w1.alloc (.cells (wcells kTab) 84)).heap.size = w1.heap.size + 1 := by simp
  have z1 := B1.out.size
  clear BA O1 B1
  generalize w1.alloc (.cells (wcells kTab) 84) = w2 at *
  generalize w1.heap.size = gk at *
  replace K2 := mkHid K2
  replace S2 := mkHid S2
  replace H2 := mkHid H2
  replace B2 := mkHid B2
  replace z2 := mkHid z2
  have hw8 := mkHid (show (wv (stL st0)).length = 8 by rw [wv_length]; rfl)
  obtain ⟨i0, hi, hz0, hz1, hz2⟩ := info_parts info_word
  have I0 := mkHid hi
  have Z0 := mkHid hz0
  have Z1 := mkHid hz1
  have Z2 := mkHid hz2
  clear hi hz0 hz1 hz2
  have hw64 := mkHid (sched_len b 64)
  have HB : Hid (mixF st0 b = addSt (roundsF (sched b 64) st0 64) st0) := mkHid (mixF_def st0 b)
  generalize sched b 64 = ws at *
  go_wp2_with (at_builtin; go_loud (refine wpList_append_copy w2 w.heap.size rfl (.tmp 18) (.tmp 19) 91 rfl 84 i0 (.int .u32 0) 4 Tryd.underlying91 I0.out Z0.out Z1.out Z2.out rfl 84 ?q1 B2.out.size ⟨gh, oh, none⟩ 8 ch (wv (stL st0)) ?q2 hw8.out ?q3 ?q4 (wv_one _) (by simp [maxLen]) (by omega) ?_; (case q1 => rfl); (case q2 => rfl); (case q3 => intro j u hj; rw [Addr.add_lit]; exact H2.out j u hj); (case q4 => exact Nat.lt_of_lt_of_le hgl B2.out.size)); intro g off3 cp w3 o3 b3 l3; have M3 := mkHid (BlkW.mk (H2.out.of_block (b3.block gh (Nat.lt_of_lt_of_le hgl B2.out.size))) (S2.out.of_block (b3.block gs (by have := z2.out; omega))) (K2.out.below b3 K2.out.lt) o3 (B2.out.trans (b3.mono B2.out.size)) hgl (Nat.lt_of_lt_of_le (show gs < w2.heap.size by have := z2.out; omega) b3.size) (by have := z2.out; omega) (by have := z2.out; omega)); clear o3 b3 l3)
  have OKR := fun i => OK.out.rounds ws i
  have OKR := mkHid OKR
  have M0 : Hid (BlkW w w3 gh oh gs os gk g off3 cp ws (stL st0) (stL (roundsF ws st0 0))) := M3
  clear M3 H2 K2 S2 B2 z2 I0 Z0 Z1 Z2
  go_loopw [7, 8] (fun c d wr => ∃ (i g off cp : Nat), c = .slice (some ⟨g, off, none⟩) 8 cp ∧ d = .int .i64 i ∧ i ≤ 64 ∧ Hid (BlkW w wr gh oh gs os gk g off cp ws (stL st0) (stL (roundsF ws st0 i)))) (fun _ d _ => (64 - intOf d).toNat)
  case atStart => exact ⟨0, g, off3, cp, rfl, rfl, by omega, M0⟩
  case round =>
    clear M0
    obtain ⟨i, g, off3, cp, rfl, rfl, hi, hm⟩ := hrel
    by_cases hlt : i < 64
    · have ok := OKR.out i
      have hn : Hid (roundsF ws st0 (i + 1) = roundF (roundsF ws st0 i) (kTab.getD i 0) (ws.getD i 0)) := mkHid rfl
      generalize roundsF ws st0 i = v at *
      obtain ⟨a, b', c, d, e, f, g7, h'⟩ := v
      obtain ⟨oa, ob, oc, od, oe, of, og, oh7⟩ := ok
      simp only at oa ob oc od oe of og oh7
      obtain ⟨c0, c1, c2, c3, c4, c5, c6, c7⟩ := stL_reads (a := a) (b := b') (c := c) (d := d) (e := e) (f := f) (g' := g7) (h := h') hm.out.v.cells
      have s1 := xor_rbs1 e oe
      have s0 := xor_rbs0 a oa
      have d1 := u32_and_nat e f oe of
      have d2 := xor_notW e oe
      have d3 := u32_and_nat (notW e) g7 (notW_lt e oe) og
      have d4 := u32_xor_nat (e &&& f) (notW e &&& g7) (Nat.and_lt_two_pow (n := 32) _ of) (Nat.and_lt_two_pow (n := 32) _ og)
      rw [ch_eq e f g7 oe og] at d4
      have d5 := u32_and_nat a b' oa ob
      have d6 := u32_and_nat a c oa oc
      have d7 := u32_and_nat b' c ob oc
      have d8 := u32_xor_nat (a &&& b') (a &&& c) (Nat.and_lt_two_pow (n := 32) _ ob) (Nat.and_lt_two_pow (n := 32) _ oc)
      have d9 := u32_xor_nat ((a &&& b') ^^^ (a &&& c)) (b' &&& c) (Nat.xor_lt_two_pow (n := 32) (Nat.and_lt_two_pow (n := 32) _ ob) (Nat.and_lt_two_pow (n := 32) _ oc)) (Nat.and_lt_two_pow (n := 32) _ oc)
      rw [mj_eq a b' c] at d9
      have t1 := add_w h' (bs1 e)
      have t2 := add_w ((h' + bs1 e) % 4294967296) (chF e f g7)
      have t3 := add_w (((h' + bs1 e) % 4294967296 + chF e f g7) % 4294967296) (kTab.getD i 0)
      have t4 := add_w ((((h' + bs1 e) % 4294967296 + chF e f g7) % 4294967296 + kTab.getD i 0) % 4294967296) (ws.getD i 0)
      have hv : Hid (roundF ⟨a, b', c, d, e, f, g7, h'⟩ (kTab.getD i 0) (ws.getD i 0) = ⟨((tF ⟨a, b', c, d, e, f, g7, h'⟩ (kTab.getD i 0) (ws.getD i 0) + bs0 a) % 4294967296 + mjF a b' c) % 4294967296, a, b', c, (d + tF ⟨a, b', c, d, e, f, g7, h'⟩ (kTab.getD i 0) (ws.getD i 0)) % 4294967296, e, f, g7⟩) := mkHid rfl
      have ht : ((((h' + bs1 e) % 4294967296 + chF e f g7) % 4294967296 + kTab.getD i 0) % 4294967296 + ws.getD i 0) % 4294967296 = tF ⟨a, b', c, d, e, f, g7, h'⟩ (kTab.getD i 0) (ws.getD i 0) := rfl
      rw [ht] at t4
      clear ht
      generalize tF ⟨a, b', c, d, e, f, g7, h'⟩ (kTab.getD i 0) (ws.getD i 0) = T at *
      generalize hkk : kTab.getD i 0 = kk at *
      generalize hww : ws.getD i 0 = ww at *
      have EK := mkHid hkk
      have EW := mkHid hww
      clear hkk hww
      have t5 := add_w T (bs0 a)
      have t6 := add_w ((T + bs0 a) % 4294967296) (mjF a b' c)
      have t7 := add_w d T
      generalize (h' + bs1 e) % 4294967296 = x1 at *
      generalize (x1 + chF e f g7) % 4294967296 = x2 at *
      generalize (x2 + kk) % 4294967296 = x3 at *
      generalize (T + bs0 a) % 4294967296 = x5 at *
      generalize (x5 + mjF a b' c) % 4294967296 = x6 at *
      generalize (d + T) % 4294967296 = x7 at *
      generalize bs1 e = y1 at *
      generalize bs0 a = y0 at *
      generalize chF e f g7 = y2 at *
      generalize mjF a b' c = y3 at *
      generalize (a &&& b') ^^^ (a &&& c) = y8 at *
      generalize a &&& b' = y4 at *
      generalize a &&& c = y5 at *
      generalize b' &&& c = y6 at *
      generalize notW e &&& g7 = y9 at *
      generalize notW e = y10 at *
      generalize e &&& f = y7 at *
      have ii : (i : Int) < 64 := by omega
      have q1 : ∀ W : World, Calls Tryd.prog 113 #[.int .u32 e, .int .i64 6] W fun e' w' => e' = .returned (.int .u32 (rotl e 26)) ∧ Below W.heap.size W w' := fun W => turn_bb e 6 26 6 W oe (by omega) (by omega) rfl rfl
      have q2 : ∀ W : World, Calls Tryd.prog 113 #[.int .u32 e, .int .i64 11] W fun e' w' => e' = .returned (.int .u32 (rotl e 21)) ∧ Below W.heap.size W w' := fun W => turn_bb e 11 21 11 W oe (by omega) (by omega) rfl rfl
      have q3 : ∀ W : World, Calls Tryd.prog 113 #[.int .u32 e, .int .i64 25] W fun e' w' => e' = .returned (.int .u32 (rotl e 7)) ∧ Below W.heap.size W w' := fun W => turn_bb e 25 7 25 W oe (by omega) (by omega) rfl rfl
      have q4 : ∀ W : World, Calls Tryd.prog 113 #[.int .u32 a, .int .i64 2] W fun e' w' => e' = .returned (.int .u32 (rotl a 30)) ∧ Below W.heap.size W w' := fun W => turn_bb a 2 30 2 W oa (by omega) (by omega) rfl rfl
      have q5 : ∀ W : World, Calls Tryd.prog 113 #[.int .u32 a, .int .i64 13] W fun e' w' => e' = .returned (.int .u32 (rotl a 19)) ∧ Below W.heap.size W w' := fun W => turn_bb a 13 19 13 W oa (by omega) (by omega) rfl rfl
      have q6 : ∀ W : World, Calls Tryd.prog 113 #[.int .u32 a, .int .i64 22] W fun e' w' => e' = .returned (.int .u32 (rotl a 10)) ∧ Below W.heap.size W w' := fun W => turn_bb a 22 10 22 W oa (by omega) (by omega) rfl rfl
      have Q1 := mkHid q1
      have Q2 := mkHid q2
      have Q3 := mkHid q3
      have Q4 := mkHid q4
      have Q5 := mkHid q5
      have Q6 := mkHid q6
      clear q1 q2 q3 q4 q5 q6 oa ob oc od oe of og oh7
      go_upto_region 7 with (fail)
      have m4 := cell_regrown c4
      have k1 := regr wr (fun W _ => Q1.out W)
      have k2 := regr wr (fun W _ => Q2.out W)
      have k3 := regr wr (fun W _ => Q3.out W)
      clear c0 c1 c2 c3 c4 c5 c6 c7
      refine wp_region_quiet_below (by kernel_rfl) (by kernel_rfl) ?_
      repeat (quiet_step (with_reducible (first | exact k1 _ _ | exact k2 _ _ | exact k3 _ _)))
      refine wpQuiet_nil ?_
      intro _ hw'
      obtain ⟨⟨dq, osq⟩, hw''⟩ := hw'
      subst hw''
      have hm2 := mkHid (hm.out.step (below_regrown wr dq osq))
      clear hm m4 k1 k2 k3
      generalize grow (redrawn wr dq) osq = wa at *
      obtain ⟨c0, c1, c2, c3, c4, c5, c6, c7⟩ := stL_reads (a := a) (b := b') (c := c) (d := d) (e := e) (f := f) (g' := g7) (h := h') hm2.out.v.cells
      go_wp2_with fail
      go_quiet (fail)
      clear c0 c1 c2 c3 c4 c5 c6 c7
      have hm3 := mkHid (hm2.out.step (below_drewN (Below.refl _ _) nq))
      clear hm2
      generalize wa.drewN nq = wb at *
      obtain ⟨c0, c1, c2, c3, c4, c5, c6, c7⟩ := stL_reads (a := a) (b := b') (c := c) (d := d) (e := e) (f := f) (g' := g7) (h := h') hm3.out.v.cells
      have ek := hm3.out.k.cell i hlt
      have ew := hm3.out.s i _ (wv_at ws i (by rw [hw64.out]; exact hlt))
      rw [EK.out] at ek
      rw [EW.out] at ew
      go_wp2_with fail
      go_quiet (fail)
      clear c0 c1 c2 c3 c4 c5 c6 c7 ek ew
      have hm4 := mkHid (hm3.out.step (below_drewN (Below.refl _ _) nq))
      clear hm3
      generalize wb.drewN nq = wc at *
      obtain ⟨c0, c1, c2, c3, c4, c5, c6, c7⟩ := stL_reads (a := a) (b := b') (c := c) (d := d) (e := e) (f := f) (g' := g7) (h := h') hm4.out.v.cells
      go_upto_region 10 with (fail)
      have m0 := cell_regrown c0
      have k4 := regr wc (fun W _ => Q4.out W)
      have k5 := regr wc (fun W _ => Q5.out W)
      have k6 := regr wc (fun W _ => Q6.out W)
      clear c0 c1 c2 c3 c4 c5 c6 c7
      refine wp_region_quiet_below (by kernel_rfl) (by kernel_rfl) ?_
      repeat (quiet_step (with_reducible (first | exact k4 _ _ | exact k5 _ _ | exact k6 _ _)))
      refine wpQuiet_nil ?_
      intro _ hw'
      obtain ⟨⟨dq, osq⟩, hw''⟩ := hw'
      subst hw''
      have hm5 := mkHid (hm4.out.step (below_regrown wc dq osq))
      clear hm4 m0 k4 k5 k6
      generalize grow (redrawn wc dq) osq = wd at *
      obtain ⟨c0, c1, c2, c3, c4, c5, c6, c7⟩ := stL_reads (a := a) (b := b') (c := c) (d := d) (e := e) (f := f) (g' := g7) (h := h') hm5.out.v.cells
      go_wp2_with fail
      go_quiet (fail)
      clear c0 c1 c2 c3 c4 c5 c6 c7
      have hm6 := mkHid (hm5.out.step (below_drewN (Below.refl _ _) nq))
      clear hm5
      generalize wd.drewN nq = we at *
      obtain ⟨c0, c1, c2, c3, c4, c5, c6, c7⟩ := stL_reads (a := a) (b := b') (c := c) (d := d) (e := e) (f := f) (g' := g7) (h := h') hm6.out.v.cells
      go_wp2_with fail
      go_still_tail 28, (by kernel_rfl)
      clear c0 c1 c2 c3 c4 c5 c6 c7 s0 s1 d1 d2 d3 d4 d5 d6 d7 d8 d9 t1 t2 t3 t4 t5 t6 t7
      go_wp2_with fail
      have BN := (Below.refl we.drew.heap.size we.drew).alloc (Nat.le_refl _) (.cells (wcells [x6, a, b', c, x7, e, f, g7]) 84)
      have ON := own_built we.drew 84 [x6, a, b', c, x7, e, f, g7] (by simp [maxLen])
      have hm7 := (hm6.out.step ((Below.refl _ we).drew)).step BN
      have hm8 : Hid (BlkW w (we.drew.alloc (.cells (wcells [x6, a, b', c, x7, e, f, g7]) 84)) gh oh gs os gk we.heap.size 0 8 ws (stL st0) [x6, a, b', c, x7, e, f, g7]) := mkHid ⟨hm7.h, hm7.s, hm7.k, ⟨hm6.out.b.size, ON.lt, ON.le, ON.max, ON.cells, ON.room, ON.warm⟩, hm7.b, hm7.lh, hm7.ls, by have := hm6.out.ls; omega, by have := hm6.out.k.lt; omega⟩
      rw [World.alloc_drew, show wcells [x6, a, b', c, x7, e, f, g7] = #[.int .u32 (x6 : Nat), .int .u32 (a : Nat), .int .u32 (b' : Nat), .int .u32 (c : Nat), .int .u32 (x7 : Nat), .int .u32 (e : Nat), .int .u32 (f : Nat), .int .u32 (g7 : Nat)] from rfl] at hm8
      clear BN ON hm7 hm6
      go_roundw
      case rel => exact ⟨i + 1, we.heap.size, 0, 8, rfl, by go_num, by omega, mkHid (by rw [hn.out, hv.out]; exact hm8.out)⟩
      case measure => simp [intOf]; omega
    · obtain rfl : i = 64 := by omega
      have HV : Hid (BlkW w wr gh oh gs os gk g off3 cp ws (stL st0) (sumL (stL (roundsF ws st0 64)) (stL st0) 0)) := mkHid (by rw [sumL_zero]; exact hm.out)
      have HE : Hid (sumL (stL (roundsF ws st0 64)) (stL st0) 8 = stL (mixF st0 b)) := mkHid (by rw [sumL_done, HB.out])
      clear hm
      generalize stL (roundsF ws st0 64) = vl at *
      generalize hhl : stL st0 = hl at *
      have HH8 : Hid (hl.length = 8) := mkHid (by rw [← hhl]; rfl)
      clear hhl
      go_wp2_with fail
      go_loopw [14] (fun c wr => ∃ j : Nat, c = .int .i64 j ∧ j ≤ 8 ∧ Hid (BlkW w wr gh oh gs os gk g off3 cp ws hl (sumL vl hl j))) (fun c _ => (8 - intOf c).toNat)
      case atStart => exact ⟨0, rfl, by omega, HV⟩
      case round =>
        obtain ⟨j, rfl, hj, hm⟩ := hrel
        clear HV
        by_cases hlt : j < 8
        · have e1 := hm.out.v.cells j _ (wv_at _ j (by rw [sumL_len]; exact hlt))
          have e2 := hm.out.h j _ (wv_at hl j (by rw [HH8.out]; exact hlt))
          have f1 := hm.out.v.warm j (by have := hm.out.v.le; rw [wv_length, sumL_len] at this; omega)
          rw [sumL_at _ _ _ _ hlt, if_neg (by omega)] at e1
          have HX := mkHid (sumL_set vl hl j hlt)
          have t1 := add_w (vl.getD j 0) (hl.getD j 0)
          generalize vl.getD j 0 = x at *
          generalize hl.getD j 0 = y at *
          generalize (x + y) % 4294967296 = z at *
          have jj : (j : Int) < 8 := by omega
          go_wp2_with fail
          go_still_tail 12, (by kernel_rfl)
          clear e2 t1
          have hm9 : Hid (BlkW w (wr.drew.setCell ⟨g, off3 + j, none⟩ (.int .u32 (z : Nat))) gh oh gs os gk g off3 cp ws hl (sumL vl hl (j + 1))) := mkHid (by rw [← HX.out]; exact (hm.out.step ((Below.refl _ wr).drew)).setv j z (by rw [sumL_len]; exact hlt))
          go_wp2
          go_roundw
          case rel => (repeat apply Exists.intro); exact ⟨⟨j + 1, by go_num, by omega, hm9⟩, rfl⟩
          case measure => simp [intOf]; omega
        · obtain rfl : j = 8 := by omega
          go_wp2_with fail
          go_ret
          exact ⟨g, off3, cp, rfl, by have := hm.out.v; rw [HE.out] at this; exact this, hm.out.b⟩
end Go.Proofs.YtbllanmhbfnagaaDoor
namespace Go.Proofs.YtbllanmhbfnagaaDoor
open Go.RowKit Go.Sort
set_option maxHeartbeats 4000000 in
set_option maxRecDepth 100000 in
theorem padded_any (gb ob cb : Nat) (l : List Nat) (w : World) (hs : l.length ≤ 1099511627776) (hr : Reads w gb ob (bv l)) (hgl : gb < w.heap.size) :
    Calls Tryd.prog 88 #[.slice (some ⟨gb, ob, none⟩) l.length cb] w fun e w' => ∃ g off cap, e = .returned (.slice (some ⟨g, off, none⟩) (padF l).length cap) ∧ OwnAt w' w.heap.size g off cap (bv (padF l)) ∧ Below w.heap.size w w' := by
  have HR := mkHid hr
  have HS := mkHid hs
  clear hr hs
  obtain ⟨i0, hi, hz0, hz1, hz2⟩ := info_parts info_byte
  have I0 := mkHid hi
  have Z0 := mkHid hz0
  have Z1 := mkHid hz1
  have Z2 := mkHid hz2
  clear hi hz0 hz1 hz2
  go_enter Tryd.func88, Tryd.ntmps88
  go_wp2_with (first | (at_builtin; refine wpList_append_copy w w.heap.size rfl (.tmp 6) (.tmp 7) 83 rfl 5 i0 (.int .u8 0) 1 Tryd.underlying83 I0.out Z0.out Z1.out Z2.out rfl 5 ?q1 (Nat.le_refl _) ⟨gb, ob, none⟩ l.length cb (bv l) ?q2 (bv_length l) ?q3 hgl (bv_one _) ?q5 ?q6 ?_; (case q1 => rfl); (case q2 => rfl); (case q3 => intro j u hj; rw [Addr.add_lit]; exact HR.out j u hj); (case q5 => have := HS.out; simp only [maxLen]; omega); (case q6 => have := HS.out; omega); intro g0 off0 c0 w1 o1 b1 l1; have O1 := mkHid o1; have B1 := mkHid b1; clear o1 b1 l1) | (at_builtin; refine app_bytes w1 w.heap.size rfl (.tmp 9) (.tmp 10) rfl (some ⟨g0, off0, none⟩) c0 l.length l rfl ?p1 O1.out.s B1.out.size 1 1 #[.int .u8 128] 5 [128] ?p2 rfl rfl (by omega) ?p3 ?_; (case p1 => rfl); (case p2 => rfl); (case p3 => have := HS.out; omega); intro g1 off1 c1 w2 o2 b2; have O2 := mkHid o2; have B2 := mkHid (B1.out.trans b2); clear o2 b2 O1 B1))
  rw [show l ++ [128] = padZ l 0 by simp [padZ]] at O2
  go_loopw [3] (fun c wr => ∃ z n g off cap, c = .slice (some ⟨g, off, none⟩) n cap ∧ Hid (n = l.length + 1 + z) ∧ z ≤ zerosN l.length ∧ Hid (OwnAt wr w.heap.size g off cap (bv (padZ l z))) ∧ Hid (Below w.heap.size w wr)) (fun c _ => l.length + 100 - lenOf c)
  case atStart => exact ⟨0, _, _, _, _, rfl, mkHid rfl, by omega, O2, B2⟩
  case round =>
    obtain ⟨z, n, g, off, cap, rfl, hn, hz, ho, hb⟩ := hrel
    clear O2 B2
    have hn2 : Hid (n = (padZ l z).length) := mkHid (by rw [hn.out, padZ_len])
    have hn3 : n ≤ 1099511627776 + 64 := by have := hn.out; have := HS.out; have := zerosN_le l.length; omega
    by_cases hlt : z < zerosN l.length
    · have hq : ((n : Int) % 64 == 56) = false := by
        rw [beq_eq_false_iff_ne]; have := zerosN_not l.length z hlt; have := hn.out; omega
      have hq2 : ¬ ((n : Int) % 64 = 56) := by simpa using hq
      go_wp2_with (at_builtin; refine app_bytes wr w.heap.size rfl (.tmp 16) (.tmp 17) rfl (some ⟨g, off, none⟩) cap n (padZ l z) ?q1 ?q2 ho.out.s hb.out.size 1 1 #[.int .u8 0] 5 [0] ?q3 rfl rfl (by omega) ?q4 ?_; (case q1 => exact hn2.out); (case q2 => rfl); (case q3 => rfl); (case q4 => omega); intro g3 off3 c3 w3 o3 b3; rw [padZ_step] at o3; have O3 := mkHid o3; have B3 := mkHid (hb.out.trans b3); clear o3 b3)
      go_roundw
      case rel => exact ⟨z + 1, n + 1, g3, off3, c3, rfl, mkHid (by have := hn.out; omega), by omega, O3, B3⟩
      case measure => have := hn.out; have := zerosN_le l.length; simp only [lenOf]; omega
    · obtain rfl : z = zerosN l.length := by omega
      have hq : ((n : Int) % 64) = 56 := by have := zerosN_end l.length; have := hn.out; omega
      rw [padJ_zero] at ho
      have hl2 : l.length ≤ 1099511627776 := HS.out
      go_wp2_with fail
      go_loopw [3, 5] (fun c d wr => ∃ (j n : Nat) (k : Int) (g off cap : Nat), c = .slice (some ⟨g, off, none⟩) n cap ∧ d = .int .i64 k ∧ Hid (n = (padJ l j).length) ∧ j ≤ 8 ∧ Hid (k = 56 - 8 * (j : Int)) ∧ Hid (OwnAt wr w.heap.size g off cap (bv (padJ l j))) ∧ Hid (Below w.heap.size w wr)) (fun _ d _ => (intOf d + 8).toNat)
      case atStart => exact ⟨0, n, 56, g, off, cap, rfl, rfl, mkHid (by rw [hn2.out, padJ_zero]), by omega, mkHid (by omega), ho, hb⟩
      case round =>
        clear ho hb hq hn hn2 hn3
        obtain ⟨j, n, k, g, off, cap, rfl, rfl, hn, hj, hk, ho, hb⟩ := hrel
        by_cases hlt : j < 8
        · have hk0 : 0 ≤ k := by have := hk.out; omega
          have hk1 : k ≤ 56 := by have := hk.out; omega
          obtain ⟨x, hx⟩ : ∃ x, 8 * l.length / 2 ^ (56 - 8 * j) % 256 = x := ⟨_, rfl⟩
          have hv : 8 * (l.length : Int) / 2 ^ k.toNat % 256 = ((x : Nat) : Int) := by
            rw [← hx, show k.toNat = 56 - 8 * j by have := hk.out; omega]; push_cast; rfl
          have hst := mkHid (padJ_step l j hlt)
          rw [hx] at hst
          have hn3 : n ≤ 1099511627776 + 128 := by have := hn.out; rw [padJ_len l j (by omega)] at this; have := zerosN_le l.length; omega
          clear hx
          go_wp2_with (at_builtin; refine app_bytes wr w.heap.size rfl (.tmp 27) (.tmp 32) rfl (some ⟨g, off, none⟩) cap n (padJ l j) ?r1 ?r2 ho.out.s hb.out.size 1 1 #[.int .u8 (x : Nat)] 5 [x] ?r3 rfl rfl (by omega) ?r4 ?_; (case r1 => exact hn.out); (case r2 => rfl); (case r3 => rfl); (case r4 => omega); intro g3 off3 c3 w3 o3 b3; rw [hst.out] at o3; have O3 := mkHid o3; have B3 := mkHid (hb.out.trans b3); clear o3 b3)
          go_roundw
          case rel =>
            refine ⟨j + 1, n + 1, _, g3, off3, c3, rfl, rfl, ?_, by omega, ?_, O3, B3⟩
            · exact mkHid (by have := hn.out; rw [padJ_len l j (by omega)] at this; rw [padJ_len l (j + 1) (by omega)]; omega)
            · exact mkHid (by have := hk.out; omega)
          case measure => have := hk.out; simp [intOf]; omega
        · obtain rfl : j = 8 := by omega
          obtain rfl : k = -8 := by have := hk.out; omega
          clear hk
          rw [padJ_done] at ho hn
          have hn9 := hn.out
          go_wp2_with fail
          go_ret
          exact ⟨g, off, cap, by rw [← hn9]; rfl, ho.out, hb.out⟩
end Go.Proofs.YtbllanmhbfnagaaDoor
