/- The package's matrix: read (walk). Where there is no matrix by the lengths. The package's matrix: read (walk), where there are rows. The package's matrix: read (walk), where there are no rows. make([]int, n); the rank of a matrix (walks). The rank of a matrix (walk). Solve's look at the right sides (walks). Solve (walk). slices.Contains on ints (walk); plain laws of the kernel. The reference's Same, SameRows, Few (walks). -/
import Derived.Test.YtbllanmhbfnagaaDoorU22
import Derived.Test.YtbllanmhbfnagaaDoorU29
import Derived.Test.YtbllanmhbfnagaaDoorU23
import Derived.Test.YtbllanmhbfnagaaDoorU21
import Derived.BigQuiet
set_option linter.unusedVariables false
set_option linter.unusedSimpArgs false
namespace Go.Proofs.YtbllanmhbfnagaaDoor
open Go.RowKit Go.Sort
def readB (q : Int) (n nb : Nat) : Bool := primeB q && decide (n ≤ 64) && (nb == n)
def wideB (L : List (List Int)) (i : Nat) : Bool := (List.range i).all (fun j => (L.getD j []).length == (L.getD 0 []).length && decide ((L.getD j []).length ≤ 64))
def augM (q : Int) (L : List (List Int)) (bl : List Int) (i : Nat) : List (List Int) := (List.range i).map (fun j => resRow q (L.getD j []) ++ [bl.getD j 0 % q])
set_option maxHeartbeats 4000000 in
set_option maxRecDepth 100000 in
theorem read_no (q : Int) (ar ab : Option Addr) (nr cr nb cb : Nat) (w : World) (hT : Tab w) (hn : nr ≤ 1000000) (hnb : nb ≤ 1000000) (hB : readB q nr nb = false) :
    Calls Tryd.prog 92 #[.int .i64 q, .slice ar nr cr, .slice ab nb cb] w fun e w' => e = .returned (.tuple #[.pointer none, .bool false]) ∧ Below w.heap.size w w' := by
  have HT := mkHid hT
  have HB := mkHid hB
  clear hT hB
  cases hP : primeB q with
  | false =>
    have V := mkHid hP
    clear hP
    go_enter Tryd.func92, Tryd.ntmps92
    go_wp2_with fail
    refine (prime_any q _ HT.out).mono ?_
    rintro e w' ⟨rfl, b1⟩
    rw [V.out]
    have B1 := mkHid b1
    clear b1
    go_wp2
    go_ret2
    exact ⟨rfl, B1.out⟩
  | true =>
    have V := mkHid hP
    clear hP
    by_cases h64 : 64 < nr
    · have d1 : decide ((64 : Int) < nr) = true := decide_eq_true (by omega)
      have d2 : (64 : Int) < nr := by omega
      clear h64
      go_enter Tryd.func92, Tryd.ntmps92
      go_wp2_with fail
      refine (prime_any q _ HT.out).mono ?_
      rintro e w' ⟨rfl, b1⟩
      rw [V.out]
      have B1 := mkHid b1
      clear b1
      go_wp2
      go_ret2
      exact ⟨rfl, B1.out⟩
    · have hne : Hid (nb ≠ nr) := mkHid (fun e => by have := HB.out; unfold readB at this; rw [V.out, e] at this; simp at this; omega)
      have d1 : decide ((64 : Int) < nr) = false := decide_eq_false (by omega)
      have d2 : ((nb : Int) == (nr : Int)) = false := by rw [beq_eq_false_iff_ne]; have := hne.out; omega
      have d3 : ((nb : Int) != (nr : Int)) = true := by rw [bne, d2]; rfl
      have d4 : decide (nb = nr) = false := decide_eq_false hne.out
      clear h64
      go_enter Tryd.func92, Tryd.ntmps92
      go_wp2_with fail
      refine (prime_any q _ HT.out).mono ?_
      rintro e w' ⟨rfl, b1⟩
      rw [V.out]
      have B1 := mkHid b1
      clear b1
      go_wp2
      go_ret2
      exact ⟨rfl, B1.out⟩
theorem primeB_bd {q : Int} (h : primeB q = true) : 1 ≤ q ∧ q < 2305843009213693952 := by
  rcases Int.lt_or_le q 2 with h1 | h1
  · rw [primeB_lo (.inl h1)] at h; cases h
  · rcases Int.lt_or_le q 2305843009213693952 with h2 | h2
    · exact ⟨by omega, h2⟩
    · rw [primeB_lo (.inr h2)] at h; cases h
/-- The cells of the matrix struct. -/
def mcells (q : Int) (ao : Option Addr) (n cap : Nat) (c : Int) : Array Value := #[.int .i64 q, .slice ao n cap, .int .i64 c]
/-- Block A is the matrix struct. -/
def HasM (w : World) (A : Nat) (q : Int) (ao : Option Addr) (n cap : Nat) (c : Int) : Prop := w.heap[A]? = some (.cells (mcells q ao n cap c) 99 (0, 0))
theorem HasM.cells {w : World} {A : Nat} {q : Int} {ao : Option Addr} {n cap : Nat} {c : Int} (h : HasM w A q ao n cap c) :
    w.cell? ⟨A, 0, none⟩ = some (.int .i64 q) ∧ w.cell? ⟨A, 1, none⟩ = some (.slice ao n cap) ∧ w.cell? ⟨A, 2, none⟩ = some (.int .i64 c) :=
  ⟨by rw [cell_of_row w A 0 _ _ _ h]; rfl, by rw [cell_of_row w A 1 _ _ _ h]; rfl, by rw [cell_of_row w A 2 _ _ _ h]; rfl⟩
theorem HasM.free {w : World} {A : Nat} {q : Int} {ao : Option Addr} {n cap : Nat} {c : Int} (h : HasM w A q ao n cap c) (j : Nat) : w.frozen? ⟨A, j, none⟩ = false := frozen_of_row w A j _ _ h
theorem HasM.lt {w : World} {A : Nat} {q : Int} {ao : Option Addr} {n cap : Nat} {c : Int} (h : HasM w A q ao n cap c) : A < w.heap.size := (Array.getElem?_eq_some_iff.1 h).1
theorem HasM.below {w w' : World} {A S : Nat} {q : Int} {ao : Option Addr} {n cap : Nat} {c : Int} (h : HasM w A q ao n cap c) (hb : Below S w w') (hA : A < S) : HasM w' A q ao n cap c := by
  unfold HasM; rw [hb.block A hA]; exact h
theorem HasM.new (w : World) (q : Int) : HasM (w.alloc (.cells (mcells q none 0 0 0) 99)) w.heap.size q none 0 0 0 := heap_alloc_new w _
theorem HasM.setCols {w : World} {A : Nat} {q : Int} {ao : Option Addr} {n cap : Nat} {c : Int} (h : HasM w A q ao n cap c) (x : Int) : HasM (w.setCell ⟨A, 2, none⟩ (.int .i64 x)) A q ao n cap x := by
  unfold HasM; rw [heap_setCell_same w A 2 _ _ _ h]; rfl
theorem HasM.setRows {w : World} {A : Nat} {q : Int} {ao : Option Addr} {n cap : Nat} {c : Int} (h : HasM w A q ao n cap c) (ao' : Option Addr) (n' cap' : Nat) : HasM (w.setCell ⟨A, 1, none⟩ (.slice ao' n' cap')) A q ao' n' cap' c := by
  unfold HasM; rw [heap_setCell_same w A 1 _ _ _ h]; rfl
theorem augM_len (q : Int) (L : List (List Int)) (bl : List Int) (i : Nat) : (augM q L bl i).length = i := by simp [augM]
theorem augM_succ (q : Int) (L : List (List Int)) (bl : List Int) (i : Nat) : augM q L bl (i + 1) = augM q L bl i ++ [resRow q (L.getD i []) ++ [bl.getD i 0 % q]] := by
  simp [augM, List.range_succ]
theorem wideB_succ (L : List (List Int)) (i : Nat) : wideB L (i + 1) = (wideB L i && ((L.getD i []).length == (L.getD 0 []).length && decide ((L.getD i []).length ≤ 64))) := by
  simp [wideB, List.range_succ]
theorem wideB_no {L : List (List Int)} {i n : Nat} (h : i < n) (hi : ((L.getD i []).length == (L.getD 0 []).length && decide ((L.getD i []).length ≤ 64)) = false) : wideB L n = false := by
  cases e : wideB L n with
  | false => rfl
  | true =>
    have := List.all_eq_true.1 e i (List.mem_range.2 h)
    rw [hi] at this; cases this
theorem resRow_take (q : Int) (l : List Int) (j : Nat) (h : j < l.length) : resRow q (l.take (j + 1)) = resRow q (l.take j) ++ [l.getD j 0 % q] := by
  unfold resRow
  rw [List.take_succ_eq_append_getElem h, List.map_append]
  simp [List.getD, h]
end Go.Proofs.YtbllanmhbfnagaaDoor
namespace Go.Proofs.YtbllanmhbfnagaaDoor
open Go.RowKit Go.Sort
theorem ArgR.kept {w w' : World} {S : Nat} {ao : Option Addr} {n : Nat} {L : List (List Int)} (h : ArgR w ao n L) (hS : w.heap.size = S) (hb : Below S w w') : ArgR w' ao n L := by
  subst hS; exact h.below hb
theorem ArgI.keptS {w w' : World} {S : Nat} {ao : Option Addr} {n : Nat} {l : List Int} (h : ArgI w ao n l) (hS : w.heap.size = S) (hb : Below S w w') : ArgI w' ao n l := by
  subst hS; exact h.below hb
theorem PartR.setA {w : World} {B A k cap C : Nat} {ao : Option Addr} {hs : List (Nat × Nat × Nat)} {M : List (List Int)} (h : PartR w B cap C ao hs M) (hA : A < B) (v : Value) : PartR (w.setCell ⟨A, k, none⟩ v) B cap C ao hs M := by
  have hk : ∀ g, B ≤ g → (w.setCell ⟨A, k, none⟩ v).heap[g]? = w.heap[g]? := fun g hg => heap_setCell_other w _ g v (by show g ≠ A; omega)
  have hz : w.heap.size ≤ (w.setCell ⟨A, k, none⟩ v).heap.size := by rw [World.size_setCell]; exact Nat.le_refl _
  refine ⟨?_, h.len, fun i x hx => (h.each i x hx).of_block (hk _ (h.each i x hx).own) hz, h.wide, h.dist, h.apart⟩
  have ht := h.top
  cases ht with
  | nil a b => exact .nil a b
  | «at» g o h' => exact .at g o (h'.of_block (hk g h'.own) hz)
theorem OwnAt.weak {w : World} {B B' g off cap : Nat} {xs : List Value} (h : OwnAt w B g off cap xs) (hB : B' ≤ B) : OwnAt w B' g off cap xs :=
  ⟨Nat.le_trans hB h.own, h.lt, h.le, h.max, h.cells, h.room, h.warm⟩
theorem PartR.fin {w : World} {A cap C : Nat} {q c : Int} {ao : Option Addr} {hs : List (Nat × Nat × Nat)} {M : List (List Int)} (h : PartR w (A + 1) cap C ao hs M) (hm : HasM w A q ao M.length cap c) (h0 : 0 < M.length) :
    ∃ R ro, MatW w A A R ro cap C q c hs M := by
  have ht := h.top
  have hl := h.len
  cases ht with
  | nil a b => rw [List.map_eq_nil_iff] at a; rw [a] at hl; simp at hl; omega
  | «at» R ro h' =>
    obtain ⟨m0, m1, m2⟩ := hm.cells
    refine ⟨R, ro, ⟨h'.weak (Nat.le_succ A), hl, fun i x hx => (h.each i x hx).weak (Nat.le_succ A), h.wide, h.dist, fun x hx e => h.apart x hx (by rw [e]; rfl)⟩, m0, m1, m2, Nat.le_refl A, hm.lt, ?_, ?_⟩
    · have := h'.own; omega
    · intro x hx e
      obtain ⟨i, hi⟩ := List.mem_iff_getElem?.1 hx
      have := (h.each i x hi).own
      omega
theorem info_rows : (Tryd.prog.info? 42).map (fun i => (i.zero, i.size, i.bytes)) = some (some (.slice none 0 0), 1, 24) := by kernel_rfl
set_option maxHeartbeats 8000000 in
set_option maxRecDepth 100000 in
theorem read_rows (q : Int) (gr orr : Nat) (ab : Option Addr) (nr cr nb cb : Nat) (L : List (List Int)) (bl : List Int) (w : World) (hT : Tab w) (hR : ArgR w (some ⟨gr, orr, none⟩) nr L) (hb : ArgI w ab nb bl) (hB : readB q nr nb = true) (h0 : 0 < nr) (hbig : ∀ i, (L.getD i []).length ≤ 1000000) :
    Calls Tryd.prog 92 #[.int .i64 q, .slice (some ⟨gr, orr, none⟩) nr cr, .slice ab nb cb] w fun e w' => Below w.heap.size w w' ∧ ((wideB L nr = false ∧ e = .returned (.tuple #[.pointer none, .bool false])) ∨
      (wideB L nr = true ∧ ∃ A R ro cap hs, e = .returned (.tuple #[.pointer (some ⟨A, 0, none⟩), .bool true]) ∧ w.heap.size ≤ A ∧ MatW w' A A R ro cap ((L.getD 0 []).length + 1) q (L.getD 0 []).length hs (augM q L bl nr) ∧ w'.frozen? ⟨A, 2, none⟩ = false)) := by
  have HT := mkHid hT
  have HR := mkHid hR
  have HBL := mkHid hb
  have HBIG := mkHid hbig
  have hP : Hid (primeB q = true ∧ nr ≤ 64 ∧ nb = nr) := mkHid (by unfold readB at hB; simpa [and_assoc] using hB)
  have hq := mkHid (primeB_bd hP.out.1)
  have h64 : nr ≤ 64 := hP.out.2.1
  obtain rfl : nb = nr := hP.out.2.2
  have d1 : decide ((64 : Int) < nb) = false := decide_eq_false (by omega)
  have d2 : ((nb : Int) == (nb : Int)) = true := by simp
  have d5 : decide ((0 : Int) < nb) = true := decide_eq_true (by omega)
  have d6 : (0 : Int) < nb := by omega
  clear hT hR hb hbig hB
  go_enter Tryd.func92, Tryd.ntmps92
  go_wp2_with fail
  refine (prime_any q _ HT.out).mono ?_
  rintro e w1 ⟨rfl, b1⟩
  rw [hP.out.1]
  have R1 := mkHid (HR.out.below b1)
  have L1 := mkHid (HBL.out.below b1)
  have B1 := mkHid b1
  clear b1
  obtain ⟨a0, n0, c0, k0, i0⟩ : ∃ ai ni ci, w1.cell? ⟨gr, orr, none⟩ = some (.slice ai ni ci) ∧ ArgI w1 ai ni (L.getD 0 []) := by
    obtain ⟨g, o, he, _, hr⟩ := R1.out.here h0
    obtain ⟨rfl, rfl⟩ : g = gr ∧ o = orr := by injection he with he; injection he with e1 e2; exact ⟨e1.symm, e2.symm⟩
    exact hr 0 h0
  have hn0 : Hid (n0 = (L.getD 0 []).length) := mkHid i0.len
  clear i0
  go_upto_region 4 with (fail)
  have hz1 := R1.out.here h0
  have hgr1 : gr < w1.heap.size := by
    obtain ⟨g, o, he, hg, _⟩ := hz1
    injection he with he; injection he with e1 e2; omega
  have bA := (Below.refl w1.heap.size w1).alloc (Nat.le_refl _) (.cells (mcells q none 0 0 0) 99)
  have M2 := mkHid (HasM.new w1 q)
  have k2 := (bA.cell (p := ⟨gr, orr, none⟩) hgr1).trans k0
  have BA := mkHid bA
  have A2 : Hid (w.heap.size ≤ w1.heap.size) := mkHid B1.out.size
  have G2 := mkHid hgr1
  clear hz1 hgr1 bA k0
  change Code.wp _ _ _ _ (w1.alloc (.cells (mcells q none 0 0 0) 99))
  have Z2 : Hid ((w1.alloc (.cells (mcells q none 0 0 0) 99)).heap.size = w1.heap.size + 1) := mkHid (by simp)
  generalize w1.alloc (.cells (mcells q none 0 0 0) 99) = w2 at *
  generalize hA : w1.heap.size = A at *
  have HA := mkHid hA
  clear hA
  obtain ⟨m0, m1, m2⟩ := M2.out.cells
  have f2 := M2.out.free 2
  go_upto_region 6 with (fail)
  have bS := below_setCell (Below.refl A w2) (p := ⟨A, 2, none⟩) (Nat.le_refl A) (.int .i64 n0)
  have M3 := mkHid (M2.out.setCols n0)
  have B3 := mkHid (BA.out.trans bS)
  have P3 := mkHid (PartR.nil (w2.setCell ⟨A, 2, none⟩ (.int .i64 n0)) (A + 1) (n0 + 1))
  clear m0 m1 m2 f2 M2 k2 bS
  generalize w2.setCell ⟨A, 2, none⟩ (.int .i64 n0) = w3 at *
  rw [hn0.out] at M3 P3
  go_wp2_with fail
  go_loopw [44] (fun c wr => ∃ (i : Nat) (ao : Option Addr) (cap : Nat) (hs : List (Nat × Nat × Nat)), c = .int .i64 i ∧ i ≤ nb ∧ Hid (HasM wr A q ao i cap (L.getD 0 []).length) ∧ Hid (PartR wr (A + 1) cap ((L.getD 0 []).length + 1) ao hs (augM q L bl i)) ∧
    Hid (wideB L i = true) ∧ Hid (Below A w1 wr)) (fun c _ => (nb - intOf c).toNat)
  case atStart => exact ⟨0, none, 0, [], rfl, by omega, M3, P3, mkHid rfl, B3⟩
  case round =>
    as_aux_lemma =>
      clear M3 P3 B3 BA
      obtain ⟨i, ao, cap, hs, rfl, hi, hm, hp, hwd, hb⟩ := hrel
      have HBB := mkHid (B1.out.trans (hb.out.mono A2.out))
      have e1 : IntKind.i64.wrap ((i : Int) + 1) = ((i + 1 : Nat) : Int) := IntWalk.i64_in _ (by omega)
      by_cases hlt : i < nb
      · obtain ⟨ai, ni, ci, ki, hai⟩ : ∃ ai ni ci, wr.cell? ⟨gr, orr + i, none⟩ = some (.slice ai ni ci) ∧ ArgI wr ai ni (L.getD i []) := by
          obtain ⟨g, o, he, _, h8⟩ := (R1.out.kept HA.out hb.out).here h0
          obtain ⟨rfl, rfl⟩ : g = gr ∧ o = orr := by injection he with he; injection he with e1 e2; exact ⟨e1.symm, e2.symm⟩
          exact h8 i hlt
        have HAI := mkHid hai
        have hni := mkHid hai.len
        clear hai
        obtain ⟨m0, m1, m2⟩ := hm.out.cells
        have ii : (i : Int) < nb := by omega
        obtain ⟨C0, hC0⟩ : ∃ C0, (L.getD 0 []).length = C0 := ⟨_, rfl⟩
        rw [hC0] at m2 hm hp
        have HC0 := mkHid hC0
        clear hC0
        by_cases hw1 : ni = C0
        · have g1 : ((ni : Int) == (C0 : Int)) = true := by rw [beq_iff_eq]; omega
          have g2 : ((ni : Int) != (C0 : Int)) = false := by rw [bne, g1]; rfl
          by_cases hw2 : 64 < ni
          · have g3 : decide ((64 : Int) < ni) = true := decide_eq_true (by omega)
            have hno : Hid (wideB L nb = false) := mkHid (wideB_no hlt (by rw [← hni.out, decide_eq_false (by omega), Bool.and_false]))
            clear hw1
            go_wp2_with fail
            go_ret2
            exact ⟨HBB.out, .inl ⟨hno.out, rfl⟩⟩
          · have g3 : decide ((64 : Int) < ni) = false := decide_eq_false (by omega)
            have H1 := mkHid hw1
            clear hw1
            have hqq := hq.out
            obtain ⟨l, hl⟩ : ∃ l, L.getD i [] = l := ⟨_, rfl⟩
            rw [hl] at HAI hni
            have HL := mkHid hl
            have HLB : Hid (l.length ≤ 64) := mkHid (by rw [← hni.out]; omega)
            have PT := mkHid hp.out.atT
            clear hl
            have hni2 : ni ≤ 64 := by omega
            go_wp2_with fail
            clear m0 m1 m2 ki g1 g2 g3 hqq
            generalize wr = wo at *
            go_loopw [11, 63] (fun s c wq => ∃ (j : Nat) (a2 : Option Addr) (c2 : Nat), s = .slice a2 j c2 ∧ c = .int .i64 j ∧ j ≤ ni ∧ Hid (OwnS wq wo.heap.size c2 (iv (resRow q (l.take j))) a2) ∧ Hid (Below wo.heap.size wo wq)) (fun _ c _ => (ni - intOf c).toNat)
            case atStart => exact ⟨0, none, 0, rfl, rfl, by omega, mkHid (.nil rfl rfl), mkHid (Below.refl _ _)⟩
            case round =>
              as_aux_lemma =>
                obtain ⟨j, a2, c2, rfl, rfl, hj, ho, hbq⟩ := hrel
                have e2 : IntKind.i64.wrap ((j : Int) + 1) = ((j + 1 : Nat) : Int) := IntWalk.i64_in _ (by omega)
                have SA : Hid (wo.heap.size ≤ wr.heap.size) := mkHid hbq.out.size
                have hlen : Hid ((resRow q (l.take j)).length = j) := mkHid (by simp [resRow]; have := hni.out; omega)
                by_cases hjl : j < ni
                · obtain ⟨g2, o2, rfl, hc, _⟩ := (HAI.out.below hbq.out).here (by omega)
                  have x1 := hc j hjl
                  have jj : (j : Int) < ni := by omega
                  have hap := mkHid (resRow_take q l j (by rw [← hni.out]; exact hjl))
                  clear hc
                  obtain ⟨x, hx⟩ : ∃ x, l.getD j 0 = x := ⟨_, rfl⟩
                  rw [hx] at x1 hap
                  clear hx
                  have kR := residue_any q x wr hq.out.1 hq.out.2
                  have y0 := Int.emod_nonneg x (show q ≠ 0 by have := hq.out.1; omega)
                  have y1 := Int.emod_lt_of_pos x (show 0 < q by have := hq.out.1; omega)
                  have y2 : x % q < 2305843009213693952 := by have := hq.out.2; omega
                  obtain ⟨y, hy⟩ : ∃ y, x % q = y := ⟨_, rfl⟩
                  rw [hy] at kR hap y0 y2
                  have KR := mkHid kR
                  clear kR hy y1
                  have e4 : IntKind.i64.wrap y = y := IntWalk.i64_in _ (by omega)
                  go_wp2_with fail
                  refine KR.out.mono ?_
                  rintro e w' ⟨rfl, rfl⟩
                  go_wp2_with (at_builtin; refine app_ints wr wo.heap.size rfl (.tmp 67) (.tmp 72) rfl a2 c2 j (resRow q (l.take j)) ?q1 ?q2 ho.out SA.out 1 1 #[.int .i64 y] 3 [y] ?q3 rfl rfl (by omega) ?q4 ?_; (case q1 => exact hlen.out.symm); (case q2 => rfl); (case q3 => rfl); (case q4 => omega); intro g4 off4 c4 wb o8 b8; have OB := mkHid o8; have B8 := mkHid b8; clear o8 b8)
                  go_roundw
                  case rel => exact ⟨j + 1, some ⟨g4, off4, none⟩, c4, rfl, rfl, by omega, mkHid (by rw [hap.out]; exact OB.out.s), mkHid (hbq.out.trans B8.out)⟩
                  case measure => simp only [intOf]; omega
                · obtain rfl : j = ni := by omega
                  have hlt2 : l.take j = l := List.take_of_length_le (by rw [← hni.out]; exact Nat.le_refl _)
                  rw [hlt2] at ho hlen
                  clear hlt2
                  have BW : Hid (Below A w1 wr) := mkHid (hb.out.trans (hbq.out.mono (Nat.le_of_lt hm.out.lt)))
                  obtain ⟨gb, ob, rfl, _, hgb⟩ := L1.out.here h0
                  rw [HA.out] at hgb
                  have GB := mkHid hgb
                  clear hgb
                  have s2 : wr.cell? ⟨gb, ob + i, none⟩ = some (.int .i64 (bl.getD i 0)) := by
                    obtain ⟨g', o', he, hcb, _⟩ := (L1.out.keptS HA.out BW.out).here h0
                    injection he with he; injection he with e1 e2
                    rw [e1, e2]; exact hcb i hlt
                  have M4 := mkHid (hm.out.below hbq.out hm.out.lt)
                  have s1 := M4.out.cells.2.1
                  obtain ⟨x, hx⟩ : ∃ x, bl.getD i 0 = x := ⟨_, rfl⟩
                  rw [hx] at s2
                  have HX := mkHid hx
                  clear hx
                  go_upto_region 17 with (fail)
                  refine wp_region_tail_x 11 (fun w' => w'.cell? ⟨A, 1, none⟩ = some (.slice ao i cap) ∧ w'.cell? ⟨gb, ob + i, none⟩ = some (.int .i64 x)) (by kernel_rfl) (by kernel_rfl) (by kernel_rfl) (fun _ _ d _ _ h => by cases d <;> exact h) ⟨s1, s2⟩ ?_
                  apply Exists.intro
                  refine ⟨?hh, ?ht⟩
                  case hh =>
                    intro w' hw'
                    obtain ⟨t1, t2⟩ := hw'
                    simp only [List.take_succ_cons, List.take_zero]
                    repeat still_step
                    exact wpStill_nil rfl
                  case ht =>
                    simp only [List.drop_succ_cons, List.drop_zero]
                    have kR := residue_any q x wr.drew hq.out.1 hq.out.2
                    have y0 := Int.emod_nonneg x (show q ≠ 0 by have := hq.out.1; omega)
                    have y1 := Int.emod_lt_of_pos x (show 0 < q by have := hq.out.1; omega)
                    have y2 : x % q < 2305843009213693952 := by have := hq.out.2; omega
                    obtain ⟨y, hy⟩ : ∃ y, x % q = y := ⟨_, rfl⟩
                    rw [hy] at kR y0 y2
                    have HY := mkHid hy
                    have KR := mkHid kR
                    clear kR hy y1
                    have e4 : IntKind.i64.wrap y = y := IntWalk.i64_in _ (by omega)
                    have s3 : wr.drew.cell? ⟨A, 1, none⟩ = some (.slice ao i cap) := s1
                    have s4 : wr.drew.cell? ⟨gb, ob + i, none⟩ = some (.int .i64 x) := s2
                    have MD := mkHid (M4.out.below (below_drew wr) (by have := M4.out.lt; exact this))
                    have OD := mkHid (ho.out.below (below_drew wr))
                    have BD := mkHid (BW.out.trans ((below_drew wr).mono (Nat.le_of_lt M4.out.lt)))
                    have BQ := mkHid (hbq.out.trans ((below_drew wr).mono hbq.out.size))
                    clear s1 s2
                    generalize wr.drew = wd at *
                    refine wpTailT_cons ?_
                    go_wp2_with fail
                    refine KR.out.mono ?_
                    rintro e w' ⟨rfl, rfl⟩
                    go_wp2_with fail
                    refine postOf_normal ⟨⟨s3, s4⟩, ?_⟩
                    refine wpTailT_cons ?_
                    go_wp2_with fail
                    refine postOf_normal ⟨⟨s3, s4⟩, ?_⟩
                    have WO : Hid (A < wo.heap.size) := mkHid hm.out.lt
                    have SD : Hid (wo.heap.size ≤ wd.heap.size) := mkHid BQ.out.size
                    have b13 := (Below.refl wd.heap.size wd).alloc (Nat.le_refl _) (.cells #[.int .i64 y] 3)
                    have T3 := mkHid ((b13.cell (p := ⟨A, 1, none⟩) (by show A < _; have := WO.out; have := SD.out; omega)).trans s3)
                    have T4 := mkHid ((b13.cell (p := ⟨gb, ob + i, none⟩) (by show gb < _; have := WO.out; have := SD.out; have := GB.out; omega)).trans s4)
                    have S3 := mkHid s3
                    have S4 := mkHid s4
                    clear b13 s3 s4
                    refine wpTailT_cons ?_
                    go_wp2_with fail
                    refine postOf_normal ⟨⟨T3.out, T4.out⟩, ?_⟩
                    refine wpTailT_cons ?_
                    have hj64 : j ≤ 64 := by omega
                    go_wp2_with (at_builtin; refine app_ints wd wo.heap.size rfl (.tmp 80) (.tmp 88) rfl a2 c2 j (resRow q l) ?q1 ?q2 OD.out SD.out 1 1 #[.int .i64 y] 3 [y] ?q3 rfl rfl (by omega) ?q4 ?_; (case q1 => exact hlen.out.symm); (case q2 => rfl); (case q3 => rfl); (case q4 => omega); intro g4 off4 c4 w5 o8 b8; have O5 := mkHid o8; have B5 := mkHid b8; clear o8 b8)
                    have P5 := mkHid (PT.out.later (BQ.out.trans B5.out))
                    have M5 := mkHid (MD.out.below B5.out WO.out)
                    have S5 := mkHid ((B5.out.cell (p := ⟨gb, ob + i, none⟩) (by show gb < _; have := GB.out; have := WO.out; omega)).trans S4.out)
                    have D5 := mkHid (BD.out.trans (B5.out.mono (Nat.le_of_lt WO.out)))
                    have Z5 : Hid (A + 1 ≤ w5.heap.size) := mkHid (by have := M5.out.lt; omega)
                    clear PT MD S3 S4 T3 T4 BD BQ OD
                    refine postOf_normal ⟨⟨M5.out.cells.2.1, S5.out⟩, ?_⟩
                    refine wpTailT_cons ?_
                    go_wp2_with fail
                    have b15 := (Below.refl w5.heap.size w5).alloc (Nat.le_refl _) (.cells #[.slice (some ⟨g4, off4, none⟩) (j + 1) c4] 42)
                    refine postOf_normal ⟨⟨(b15.cell (p := ⟨A, 1, none⟩) (by show A < _; have := Z5.out; omega)).trans M5.out.cells.2.1, (b15.cell (p := ⟨gb, ob + i, none⟩) (by show gb < _; have := Z5.out; have := GB.out; omega)).trans S5.out⟩, ?_⟩
                    clear b15
                    refine wpTailT_cons ?_
                    obtain ⟨i0, hi0, hz0, hz1, hz2⟩ := info_parts info_rows
                    have HI0 := mkHid hi0; have HZ0 := mkHid hz0; have HZ1 := mkHid hz1; have HZ2 := mkHid hz2
                    clear hi0 hz0 hz1 hz2
                    have h1c : Hid (∀ u ∈ (#[Value.slice (some ⟨g4, off4, none⟩) (j + 1) c4] : Array Value).toList, u.oneCell' = true) := mkHid (fun u hu => by
                      have e : u = .slice (some ⟨g4, off4, none⟩) (j + 1) c4 := by simpa using hu
                      rw [e]; rfl)
                    go_wp2_with (at_builtin; refine wpList_append_new w5 (A + 1) rfl (.tmp 79) (.tmp 90) 52 rfl 42 i0 (.slice none 0 0) 24 Tryd.underlying52 HI0.out HZ0.out HZ1.out HZ2.out rfl ao cap (hs.map (hv (C0 + 1))) i ?q1 ?q2 P5.out.part.top Z5.out 1 1 #[.slice (some ⟨g4, off4, none⟩) (j + 1) c4] 42 ?q3 rfl (by omega) ?q5 ?q6 ?q7 ?_; (case q1 => rw [List.length_map, P5.out.part.len, augM_len]); (case q2 => rfl); (case q3 => rfl); (case q5 => exact h1c.out); (case q6 => simp only [maxLen]; omega); (case q7 => omega); intro g6 off6 c6 w6 o6 gr6 b6 or6; have O6 := mkHid o6; have GR6 := mkHid gr6; have B6 := mkHid b6; have OR6 := mkHid or6; clear o6 gr6 b6 or6)
                    have P6 := mkHid (P5.out.add (row := resRow q l ++ [y]) O5.out (by have := WO.out; omega) (by rw [List.length_append, hlen.out, H1.out]; rfl) (by have := O6.out; rw [H1.out] at this; exact this) GR6.out OR6.out)
                    have M6 := mkHid (M5.out.below B6.out (Nat.lt_succ_self A))
                    have S6 := mkHid ((B6.out.cell (p := ⟨gb, ob + i, none⟩) (by show gb < _; have := GB.out; omega)).trans S5.out)
                    have D6 := mkHid (D5.out.trans (B6.out.mono (Nat.le_succ A)))
                    have hwd2 : Hid (wideB L (i + 1) = true) := mkHid (by rw [wideB_succ, hwd.out, HL.out, HC0.out, ← hni.out, H1.out]; have := H1.out; simp; omega)
                    clear P5 M5 S5 D5 O5 O6 B5 GR6 OR6
                    refine postOf_normal ⟨⟨M6.out.cells.2.1, S6.out⟩, ?_⟩
                    refine wpTailT_cons ?_
                    go_wp2_with fail
                    refine postOf_normal ⟨⟨M6.out.cells.2.1, S6.out⟩, ?_⟩
                    refine wpTailT_cons ?_
                    go_wp2_with fail
                    refine postOf_normal ⟨⟨M6.out.cells.2.1, S6.out⟩, ?_⟩
                    refine wpTailT_one ?_
                    have m1 := M6.out.cells.2.1
                    have f1 := M6.out.free 1
                    go_wp2_with fail
                    go_roundw
                    case rel => exact ⟨i + 1, some ⟨g6, off6, none⟩, c6, hs ++ [(g4, off4, c4)], rfl, by omega, mkHid (by rw [HC0.out]; exact M6.out.setRows _ _ _), mkHid (by rw [augM_succ, HL.out, HX.out, HY.out, HC0.out]; exact P6.out.setA (Nat.lt_succ_self A) _), hwd2,
                      mkHid (below_setCell D6.out (p := ⟨A, 1, none⟩) (Nat.le_refl A) _)⟩
                    case measure => simp only [intOf]; omega
        · have g1 : ((ni : Int) == (C0 : Int)) = false := by rw [beq_eq_false_iff_ne]; omega
          have g2 : ((ni : Int) != (C0 : Int)) = true := by rw [bne, g1]; rfl
          have hno : Hid (wideB L nb = false) := mkHid (wideB_no hlt (by rw [← hni.out, HC0.out, beq_eq_false_iff_ne.2 hw1, Bool.false_and]))
          have H1 := mkHid hw1
          clear hw1
          go_wp2_with fail
          go_ret2
          exact ⟨HBB.out, .inl ⟨hno.out, rfl⟩⟩
      · obtain rfl : i = nb := by omega
        go_wp2_with fail
        go_ret2
        have hl := augM_len q L bl i
        obtain ⟨R, ro, hmat⟩ := hp.out.fin (q := q) (c := ((L.getD 0 []).length : Int)) (by rw [hl]; exact hm.out) (by rw [hl]; exact h0)
        exact ⟨HBB.out, .inr ⟨hwd.out, A, R, ro, cap, hs, rfl, A2.out, hmat, hm.out.free 2⟩⟩
end Go.Proofs.YtbllanmhbfnagaaDoor
namespace Go.Proofs.YtbllanmhbfnagaaDoor
open Go.RowKit Go.Sort
set_option maxHeartbeats 4000000 in
set_option maxRecDepth 100000 in
theorem read_nil (q : Int) (ar ab : Option Addr) (cr cb : Nat) (w : World) (hT : Tab w) (hP : primeB q = true) :
    Calls Tryd.prog 92 #[.int .i64 q, .slice ar 0 cr, .slice ab 0 cb] w fun e w' => ∃ A, e = .returned (.tuple #[.pointer (some ⟨A, 0, none⟩), .bool true]) ∧ w.heap.size ≤ A ∧ Below w.heap.size w w' ∧ HasM w' A q none 0 0 0 := by
  have HT := mkHid hT
  have V := mkHid hP
  clear hT hP
  go_enter Tryd.func92, Tryd.ntmps92
  go_wp2_with fail
  refine (prime_any q _ HT.out).mono ?_
  rintro e w1 ⟨rfl, b1⟩
  rw [V.out]
  have B1 := mkHid b1
  clear b1
  go_upto_region 6 with (fail)
  have bA := (Below.refl w1.heap.size w1).alloc (Nat.le_refl _) (.cells (mcells q none 0 0 0) 99)
  have M2 := mkHid (HasM.new w1 q)
  have B2 := mkHid (B1.out.trans (bA.mono B1.out.size))
  have A2 : Hid (w.heap.size ≤ w1.heap.size) := mkHid B1.out.size
  clear bA
  change Code.wp _ _ _ _ (w1.alloc (.cells (mcells q none 0 0 0) 99))
  generalize w1.alloc (.cells (mcells q none 0 0 0) 99) = w2 at *
  generalize w1.heap.size = A at *
  go_wp2_with fail
  go_loopw [44] (fun c wr => c = .int .i64 0 ∧ Hid (wr = w2)) (fun c _ => (0 - intOf c).toNat)
  case atStart => exact ⟨rfl, mkHid rfl⟩
  case round =>
    obtain ⟨rfl, hw⟩ := hrel
    have hw2 := hw.out
    subst hw2
    go_wp2_with fail
    go_ret2
    exact ⟨A, rfl, A2.out, B2.out, M2.out⟩
end Go.Proofs.YtbllanmhbfnagaaDoor
namespace Go.Proofs.YtbllanmhbfnagaaDoor
open Go.RowKit Go.Sort
theorem made_ints (n : Nat) : madeCells (Value.int .i64 0).cells n = (iv (List.replicate n 0)).toArray := by
  apply Array.ext'
  simp only [madeCells, iv, Array.toList_map, Array.toList_range, List.map_replicate]
  apply List.ext_getElem?
  intro i
  by_cases h : i < n
  · simp [h, Value.cells, Nat.mod_one]
  · simp [h]
theorem own_make (w : World) (n : Nat) (hn : n ≤ 1000000) : OwnAt (w.alloc (.cells (madeCells (Value.int .i64 0).cells n) 3)) w.heap.size w.heap.size 0 n (iv (List.replicate n 0)) := by
  have hc : ∀ j, (w.alloc (.cells (madeCells (Value.int .i64 0).cells n) 3)).cell? ⟨w.heap.size, 0 + j, none⟩ = (iv (List.replicate n 0))[j]? := fun j => by
    have h := heap_alloc_new w (.cells (madeCells (Value.int .i64 0).cells n) 3)
    rw [cell_of_row _ _ _ _ _ _ h, made_ints, Nat.zero_add]
    simp
  refine ⟨Nat.le_refl _, by simp, by simp [iv], by simp [maxLen]; omega, ?_, ?_, ?_⟩
  · intro j u hj; rw [hc]; exact hj
  · intro j hj; rw [hc]; simp [iv, hj]
  · intro j hj; exact frozen_of_row _ _ _ _ _ (heap_alloc_new w _)
theorem wpList_make_ints (w : World) {ops : Array Oper} {rest : List Oper} {o : Oper} {a : Act} {Q : Exit → Act → World → Prop}
    (hg : o.guard = none) (l c : Operand) (hop : o.op = Op.makeSlice 42 l c) (n : Nat) (hl : a.eval l = .int .i64 (n : Int)) (hc : a.eval c = .int .i64 (n : Int)) (hn : n ≤ 1000000)
    (hK : ∀ w', OwnAt w' w.heap.size w.heap.size 0 n (iv (List.replicate n 0)) → Below w.heap.size w w' → w'.heap.size = w.heap.size + 1 → wpList Tryd.prog ops Q rest (a.put o.dst (.slice (some ⟨w.heap.size, 0, none⟩) n n)) w') :
    wpList Tryd.prog ops Q (o :: rest) a w := by
  refine wpList_plain hg fun K hK' => ?_
  obtain ⟨i, hi, hz0, hz1, hz2⟩ := info_parts info_int
  have hrun := run_make (P := Tryd.prog) w 42 3 i (.int .i64 0) Tryd.underlying42 hi hz0 .i64 .i64 (n : Int) (n : Int) (by omega) (Int.le_refl _) (by rw [hz2]; omega) (by omega)
  rw [hz1] at hrun
  simp only [Int.toNat_natCast, Nat.mul_one] at hrun
  unfold Oper.wp
  simp [execOp, hop, hl, hc, hrun, Result.andThen]
  exact hK' _ _ (hK _ (own_make w n hn) ((Below.refl _ w).alloc (Nat.le_refl _) _) (by simp))
theorem OwnAt.arg {w : World} {B g off cap : Nat} {l : List Int} (h : OwnAt w B g off cap (iv l)) {n : Nat} (hn : n = l.length) : ArgI w (some ⟨g, off, none⟩) n l :=
  ⟨hn, fun _ => ⟨g, off, rfl, fun j hj => h.cell_i j (by omega), h.lt⟩⟩
theorem OwnS.arg {w : World} {B cap : Nat} {ao : Option Addr} {l : List Int} (h : OwnS w B cap (iv l) ao) {n : Nat} (hn : n = l.length) : ArgI w ao n l := by
  cases h with
  | nil h hc =>
    have : l = [] := by simpa [iv] using h
    subst this
    exact ⟨hn, fun h0 => by subst hn; exact absurd h0 (Nat.lt_irrefl 0)⟩
  | «at» g off h => exact h.arg hn
set_option maxHeartbeats 4000000 in
set_option maxRecDepth 100000 in
theorem reduce_nil (A : Nat) (q : Int) (w : World) (hM : HasM w A q none 0 0 0) :
    Calls Tryd.prog 93 #[.pointer (some ⟨A, 0, none⟩)] w fun e w' => e = .returned (.slice none 0 0) ∧ w = w' := by
  obtain ⟨m0, m1, m2⟩ := hM.cells
  clear hM
  go_enter Tryd.func93, Tryd.ntmps93
  go_wp2_with fail
  go_loopw [2, 14] (fun s c wr => s = .slice none 0 0 ∧ c = .int .i64 0 ∧ Hid (wr = w)) (fun _ c _ => (0 - intOf c).toNat)
  case atStart => exact ⟨rfl, rfl, mkHid rfl⟩
  case round =>
    obtain ⟨rfl, rfl, hw⟩ := hrel
    have hw2 := hw.out
    subst hw2
    go_wp2_with fail
    go_ret
    exact ⟨rfl, rfl⟩
def rdB (q : Int) (L : List (List Int)) (nb : Nat) : Bool := readB q L.length nb && wideB L L.length
def colsN (L : List (List Int)) : Nat := (L.getD 0 []).length
def redL (q : Int) (L : List (List Int)) (bl : List Int) : List (List Int) × List Nat := redF q (augM q L bl L.length) (colsN L)
def rankF (q : Int) (L : List (List Int)) : Int := if rdB q L L.length then ((redL q L (List.replicate L.length 0)).2.length : Int) else -1
theorem augM_wide (q : Int) (L : List (List Int)) (bl : List Int) : (augM q L bl L.length).length = L.length := augM_len q L bl _
theorem wideB_iff {L : List (List Int)} {n : Nat} : wideB L n = true ↔ ∀ j, j < n → (L.getD j []).length = colsN L ∧ (L.getD j []).length ≤ 64 := by
  simp [wideB, colsN]
theorem readB_iff {q : Int} {n nb : Nat} : readB q n nb = true ↔ primeB q = true ∧ n ≤ 64 ∧ nb = n := by simp [readB, and_assoc]
theorem prime_of_rdB {q : Int} {L : List (List Int)} {nb : Nat} (h : rdB q L nb = true) : primeB q = true ∧ L.length ≤ 64 ∧ nb = L.length ∧ ∀ j, j < L.length → (L.getD j []).length = colsN L ∧ (L.getD j []).length ≤ 64 := by
  unfold rdB at h
  rw [Bool.and_eq_true, readB_iff, wideB_iff] at h
  exact ⟨h.1.1, h.1.2.1, h.1.2.2, h.2⟩
theorem colsN_le {q : Int} {L : List (List Int)} {nb : Nat} (h : rdB q L nb = true) : colsN L ≤ 64 := by
  have h1 := (prime_of_rdB h).2.2.2
  rcases Nat.lt_or_ge 0 L.length with h0 | h0
  · have := h1 0 h0; omega
  · have : L = [] := List.length_eq_zero_iff.1 (by omega)
    subst this; simp [colsN]
/-- read: there is no matrix. -/
theorem read_not (q : Int) (ar ab : Option Addr) (cr nb cb : Nat) (L : List (List Int)) (bl : List Int) (w : World) (hT : Tab w) (hR : ArgR w ar L.length L) (hb : ArgI w ab nb bl) (hl : L.length ≤ 1000000) (hnb : nb ≤ 1000000) (hbig : ∀ i, (L.getD i []).length ≤ 1000000) (h : rdB q L nb = false) :
    Calls Tryd.prog 92 #[.int .i64 q, .slice ar L.length cr, .slice ab nb cb] w fun e w' => e = .returned (.tuple #[.pointer none, .bool false]) ∧ Below w.heap.size w w' := by
  cases hr : readB q L.length nb with
  | false => exact read_no q ar ab _ cr nb cb w hT hl hnb hr
  | true =>
    have hw : wideB L L.length = false := by unfold rdB at h; rw [hr] at h; simpa using h
    have h0 : 0 < L.length := by
      rcases Nat.lt_or_ge 0 L.length with h0 | h0
      · exact h0
      · have : L = [] := List.length_eq_zero_iff.1 (by omega)
        subst this; simp [wideB] at hw
    obtain ⟨g, o, rfl, _, _⟩ := hR.here h0
    refine (read_rows q g o ab _ cr nb cb L bl w hT hR hb hr h0 hbig).mono ?_
    rintro e w' ⟨h1, h2 | h2⟩
    · exact ⟨h2.2, h1⟩
    · rw [hw] at h2; cases h2.1
/-- read: there are rows. -/
theorem read_yes (q : Int) (ar ab : Option Addr) (cr nb cb : Nat) (L : List (List Int)) (bl : List Int) (w : World) (hT : Tab w) (hR : ArgR w ar L.length L) (hb : ArgI w ab nb bl) (hbig : ∀ i, (L.getD i []).length ≤ 1000000) (h : rdB q L nb = true) (h0 : 0 < L.length) :
    Calls Tryd.prog 92 #[.int .i64 q, .slice ar L.length cr, .slice ab nb cb] w fun e w' => ∃ A R ro cap hs, e = .returned (.tuple #[.pointer (some ⟨A, 0, none⟩), .bool true]) ∧ Below w.heap.size w w' ∧ w.heap.size ≤ A ∧ MatW w' A A R ro cap (colsN L + 1) q (colsN L : Int) hs (augM q L bl L.length) ∧ w'.frozen? ⟨A, 2, none⟩ = false := by
  have h2 := h
  unfold rdB at h2
  rw [Bool.and_eq_true] at h2
  obtain ⟨g, o, rfl, _, _⟩ := hR.here h0
  refine (read_rows q g o ab _ cr nb cb L bl w hT hR hb h2.1 h0 hbig).mono ?_
  rintro e w' ⟨h1, h3 | ⟨_, A, R, ro, cap, hs, h4, h5, h6⟩⟩
  · rw [h2.2] at h3; cases h3.1
  · exact ⟨A, R, ro, cap, hs, h4, h1, h5, h6⟩
end Go.Proofs.YtbllanmhbfnagaaDoor
namespace Go.Proofs.YtbllanmhbfnagaaDoor
open Go.RowKit Go.Sort
theorem ArgR.step {w w' : World} {ao : Option Addr} {n : Nat} {L : List (List Int)} (h : ArgR w ao n L) (hb : Below w.heap.size w w') : ArgR w' ao n L := h.below hb
/-- Of an older world: the matrix's own blocks are younger. -/
theorem MatW.fresh {w0 w w' : World} {B A R ro cap C : Nat} {q cols : Int} {hs : List (Nat × Nat × Nat)} {M : List (List Int)} (h : MatW w B A R ro cap C q cols hs M) (hb : Below w0.heap.size w0 w) (h0 : w0.heap.size ≤ B) (ho : Only w w' (fun g => rowB hs g ∨ g = R)) : Below w0.heap.size w0 w' := by
  refine ho.later hb (fun g hg => ?_)
  rcases hg with hg | rfl
  · exact Nat.le_trans h0 (h.owns g hg)
  · exact Nat.le_trans h0 h.rows.top.own
set_option maxHeartbeats 4000000 in
set_option maxRecDepth 100000 in
theorem rank_any (q : Int) (ar : Option Addr) (cr : Nat) (L : List (List Int)) (w : World) (hT : Tab w) (hR : ArgR w ar L.length L) (hl : L.length ≤ 1000000) (hbig : ∀ i, (L.getD i []).length ≤ 1000000) :
    Calls Tryd.prog 61 #[.int .i64 q, .slice ar L.length cr] w fun e w' => e = .returned (.int .i64 (rankF q L)) ∧ Below w.heap.size w w' := by
  have HT := mkHid hT
  have HR := mkHid hR
  have HBIG := mkHid hbig
  have HL := mkHid hl
  clear hT hR hbig hl
  obtain ⟨n, hn⟩ : ∃ n, L.length = n := ⟨_, rfl⟩
  have HN := mkHid hn
  rw [hn]
  have hn1 : n ≤ 1000000 := by rw [← hn]; exact HL.out
  clear hn
  go_enter Tryd.func61, Tryd.ntmps61
  go_wp2_with (refine wpList_make_ints w rfl (.tmp 11) (.tmp 11) rfl n rfl rfl hn1 ?_; intro w1 o1 b1 z1; have O1 := mkHid o1; have B1 := mkHid b1; clear o1 b1 z1)
  have hb1 : Hid (ArgI w1 (some ⟨w.heap.size, 0, none⟩) L.length (List.replicate L.length 0)) := mkHid (by rw [HN.out]; exact O1.out.arg (by simp))
  have R1 := mkHid (HR.out.below B1.out)
  have hq0 := (rfl : rankF q L = rankF q L)
  cases hrd : rdB q L L.length with
  | false =>
    have hF : Hid (rankF q L = -1) := mkHid (by unfold rankF; rw [hrd]; rfl)
    have rn := read_not q ar (some ⟨w.heap.size, 0, none⟩) cr L.length n L (List.replicate L.length 0) w1 (HT.out.step B1.out) R1.out hb1.out HL.out HL.out HBIG.out hrd
    rw [HN.out] at rn
    refine rn.mono ?_
    rintro e w2 ⟨rfl, b2⟩
    have B2 := mkHid (B1.out.trans (b2.mono B1.out.size))
    clear b2 rn hrd
    go_wp2_with fail
    go_ret
    rw [hF.out]
    exact ⟨rfl, B2.out⟩
  | true =>
    have hF : Hid (rankF q L = ((redL q L (List.replicate L.length 0)).2.length : Int)) := mkHid (by unfold rankF; rw [hrd]; rfl)
    have hp := mkHid (prime_of_rdB hrd)
    have hc := mkHid (colsN_le hrd)
    by_cases h0 : 0 < L.length
    · have rn := read_yes q ar (some ⟨w.heap.size, 0, none⟩) cr L.length n L (List.replicate L.length 0) w1 (HT.out.step B1.out) R1.out hb1.out HBIG.out hrd h0
      rw [HN.out] at rn
      refine rn.mono ?_
      rintro e w2 ⟨A, R, ro, cap, hs, rfl, b2, hA, hM, -⟩
      rw [← HN.out] at hM
      have B2 := mkHid (B1.out.trans (b2.mono B1.out.size))
      have A2 : Hid (w.heap.size ≤ A) := mkHid (Nat.le_trans B1.out.size hA)
      have M2 := mkHid hM
      clear b2 rn hrd hA hM
      go_wp2_with fail
      refine (reduce_any A A R ro cap (colsN L + 1) (colsN L) q hs _ w2 M2.out (by omega) (by rw [augM_len]; exact hp.out.2.1) (by have := hc.out; omega)).mono ?_
      rintro e w3 ⟨ao, cp, hs', rfl, -, -, o3, -⟩
      have B3 := mkHid (M2.out.fresh B2.out A2.out o3)
      clear o3 h0
      have hF2 : Hid (rankF q L = ((redF q (augM q L (List.replicate L.length 0) L.length) (colsN L)).2.length : Int)) := hF
      obtain ⟨r, hr⟩ : ∃ r, (redF q (augM q L (List.replicate L.length 0) L.length) (colsN L)).2.length = r := ⟨_, rfl⟩
      rw [hr] at hF2 ⊢
      clear hr hF
      go_wp2_with fail
      go_ret
      rw [hF2.out]
      exact ⟨rfl, B3.out⟩
    · have hnil : L = [] := List.length_eq_zero_iff.1 (by omega)
      have hz : n = 0 := by rw [← HN.out, hnil]; rfl
      subst hz
      refine (read_nil q ar (some ⟨w.heap.size, 0, none⟩) cr 0 w1 (HT.out.step B1.out) hp.out.1).mono ?_
      rintro e w2 ⟨A, rfl, hA, b2, hM⟩
      have B2 := mkHid (B1.out.trans (b2.mono B1.out.size))
      have M2 := mkHid hM
      clear b2 hrd hA hM
      go_wp2_with fail
      refine (reduce_nil A q w2 M2.out).mono ?_
      rintro e w3 ⟨rfl, rfl⟩
      go_wp2_with fail
      go_ret
      rw [hF.out, hnil]
      exact ⟨rfl, B2.out⟩
end Go.Proofs.YtbllanmhbfnagaaDoor
namespace Go.Proofs.YtbllanmhbfnagaaDoor
open Go.RowKit Go.Sort
set_option maxHeartbeats 1000000 in
theorem look2_any (b o c C K A col : Nat) (v : Int) (w : World) (hc : col < C) (h0 : w.cell? ⟨K, 0, none⟩ = some (.pointer (some ⟨A, 0, none⟩))) (h1 : w.cell? ⟨A, 2, none⟩ = some (.int .i64 col)) (h2 : w.cell? ⟨b, o + col, none⟩ = some (.int .i64 v)) :
    Calls Tryd.prog 95 #[.slice (some ⟨b, o, none⟩) C c, .pointer (some ⟨K, 0, none⟩)] w fun e w' => e = .returned (.bool (v != 0)) ∧ w = w' := by
  have cc : (col : Int) < C := by omega
  go_enter Tryd.func95, Tryd.ntmps95
  go_wp2
  go_ret
  exact ⟨rfl, rfl⟩
set_option maxHeartbeats 4000000 in
set_option maxRecDepth 100000 in
theorem index2_any (R off n cp K A col : Nat) (f : Nat → Int) (w : World) (hn : n ≤ 100) (h0 : w.cell? ⟨K, 0, none⟩ = some (.pointer (some ⟨A, 0, none⟩))) (h1 : w.cell? ⟨A, 2, none⟩ = some (.int .i64 col)) (h2 : ColAt w R off n col f) :
    Calls Tryd.prog 114 #[.slice (some ⟨R, off, none⟩) n cp, Value.func (.func 95) #[] #[.pointer (some ⟨K, 0, none⟩)]] w fun e w' => w = w' ∧
      ((∃ i : Nat, e = .returned (.int .i64 i) ∧ i < n ∧ f i ≠ 0 ∧ ∀ j, j < i → f j = 0) ∨ (e = .returned (.int .i64 (-1)) ∧ ∀ j, j < n → f j = 0)) := by
  have H2 := mkHid h2
  clear h2
  go_enter Tryd.func114, Tryd.ntmps114
  go_wp2_with fail
  go_loop [8] (fun c => ∃ i : Nat, c = .int .i64 i ∧ i ≤ n ∧ Hid (∀ j, j < i → f j = 0)) (fun c => (n - intOf c).toNat)
  case atStart => exact ⟨0, rfl, by omega, mkHid (fun j hj => absurd hj (Nat.not_lt_zero j))⟩
  case round =>
    obtain ⟨i, rfl, hi, hz⟩ := hrel
    have e2 : IntKind.i64.wrap ((i : Int) + 1) = ((i + 1 : Nat) : Int) := IntWalk.i64_in _ (by omega)
    by_cases hlt : i < n
    · obtain ⟨b, o, c, C, k1, k2, k3⟩ := H2.out i hlt
      have ii : (i : Int) < n := by omega
      obtain ⟨v, hv⟩ : ∃ v, f i = v := ⟨_, rfl⟩
      rw [hv] at k3
      have HV := mkHid hv
      clear hv
      go_wp2_with fail
      refine (look2_any b o c C K A col v _ k2 h0 h1 k3).mono ?_
      rintro e w' ⟨rfl, rfl⟩
      by_cases hv0 : v = 0
      · have hb : (v != 0) = false := by simp [hv0]
        rw [hb]
        clear hv0
        go_wp2
        go_round
        case rel => exact ⟨i + 1, rfl, by omega, mkHid (fun j hj => by
          rcases Nat.lt_or_ge j i with h | h
          · exact hz.out j h
          · obtain rfl : j = i := by omega
            rw [HV.out]; simpa using hb)⟩
        case measure => simp [intOf]; omega
      · have hb : (v != 0) = true := by simp [hv0]
        rw [hb]
        have HV0 := mkHid hv0
        clear hv0
        go_wp2
        go_ret
        exact ⟨rfl, .inl ⟨i, rfl, hlt, by rw [HV.out]; exact HV0.out, hz.out⟩⟩
    · obtain rfl : i = n := by omega
      go_wp2
      go_ret
      exact ⟨rfl, .inr ⟨rfl, hz.out⟩⟩
set_option maxHeartbeats 4000000 in
set_option maxRecDepth 100000 in
theorem index2_nil (cp : Nat) (fn : Value) (w : World) :
    Calls Tryd.prog 114 #[.slice none 0 cp, fn] w fun e w' => e = .returned (.int .i64 (-1)) ∧ w = w' := by
  go_enter Tryd.func114, Tryd.ntmps114
  go_wp2_with fail
  go_loop [8] (fun c => c = .int .i64 0) (fun c => (0 - intOf c).toNat)
  case atStart => exact rfl
  case round =>
    obtain rfl := hrel
    go_wp2
    go_ret
    exact ⟨rfl, rfl⟩
set_option maxHeartbeats 1000000 in
theorem contains2_any (R off n cp K A col : Nat) (f : Nat → Int) (w : World) (hn : n ≤ 100) (h0 : w.cell? ⟨K, 0, none⟩ = some (.pointer (some ⟨A, 0, none⟩))) (h1 : w.cell? ⟨A, 2, none⟩ = some (.int .i64 col)) (h2 : ColAt w R off n col f) :
    Calls Tryd.prog 94 #[.slice (some ⟨R, off, none⟩) n cp, Value.func (.func 95) #[] #[.pointer (some ⟨K, 0, none⟩)]] w fun e w' => e = .returned (.bool (!(List.range n).all (fun i => f i == 0))) ∧ w = w' := by
  go_enter Tryd.func94, Tryd.ntmps94
  go_wp2_with fail
  refine (index2_any R off n cp K A col f w hn h0 h1 h2).mono ?_
  rintro e w' ⟨rfl, hres⟩
  rcases hres with ⟨i, rfl, hi, hnz, hz⟩ | ⟨rfl, hz⟩
  · have hb : ((List.range n).all (fun i => f i == 0)) = false := by
      rw [← Bool.not_eq_true, List.all_eq_true]
      intro h
      have := h i (List.mem_range.2 hi)
      exact hnz (by simpa using this)
    have HB := mkHid hb
    have d : decide ((0 : Int) ≤ i) = true := decide_eq_true (by omega)
    clear hnz hz h2 hb
    go_wp2
    go_ret
    rw [HB.out]
    exact ⟨rfl, rfl⟩
  · have hb : ((List.range n).all (fun i => f i == 0)) = true := by
      rw [List.all_eq_true]
      intro i hi
      simpa using hz i (List.mem_range.1 hi)
    have HB := mkHid hb
    clear hz h2 hb
    go_wp2
    go_ret
    rw [HB.out]
    exact ⟨rfl, rfl⟩
set_option maxHeartbeats 1000000 in
theorem contains2_nil (cp : Nat) (fn : Value) (w : World) :
    Calls Tryd.prog 94 #[.slice none 0 cp, fn] w fun e w' => e = .returned (.bool false) ∧ w = w' := by
  go_enter Tryd.func94, Tryd.ntmps94
  go_wp2_with fail
  refine (index2_nil cp fn w).mono ?_
  rintro e w' ⟨rfl, rfl⟩
  go_wp2
  go_ret
  exact ⟨rfl, rfl⟩
end Go.Proofs.YtbllanmhbfnagaaDoor
namespace Go.Proofs.YtbllanmhbfnagaaDoor
open Go.RowKit Go.Sort
def solOk (q : Int) (L : List (List Int)) (bl : List Int) (nb : Nat) : Bool := rdB q L nb && noneB (redL q L bl).1 (redL q L bl).2.length (colsN L)
def solF (q : Int) (L : List (List Int)) (bl : List Int) (nb : Nat) : List Int := if solOk q L bl nb then outF (redL q L bl).2 (redL q L bl).1 (colsN L) (redL q L bl).2.length else []
theorem redF_up {q : Int} {M : List (List Int)} : ∀ n, (∀ i, i < (redF q M n).2.length → (redF q M n).2.getD i 0 < n) ∧ ∀ i j, i < j → j < (redF q M n).2.length → (redF q M n).2.getD i 0 < (redF q M n).2.getD j 0
  | 0 => ⟨fun i hi => absurd hi (Nat.not_lt_zero i), fun i j _ hj => absurd hj (Nat.not_lt_zero j)⟩
  | n + 1 => by
    have h := redF_up (q := q) (M := M) n
    show (∀ i, i < (stepF q (redF q M n) n).2.length → (stepF q (redF q M n) n).2.getD i 0 < n + 1) ∧ ∀ i j, i < j → j < (stepF q (redF q M n) n).2.length → (stepF q (redF q M n) n).2.getD i 0 < (stepF q (redF q M n) n).2.getD j 0
    obtain ⟨⟨S, l⟩, hS⟩ : ∃ S, redF q M n = S := ⟨_, rfl⟩
    rw [hS] at h ⊢
    cases hp : pickF S n l.length with
    | none => rw [stepF_no hp]; exact ⟨fun i hi => Nat.lt_succ_of_lt (h.1 i hi), h.2⟩
    | some a =>
      rw [stepF_yes hp]
      have hl : (l ++ [n]).length = l.length + 1 := by simp
      dsimp only
      refine ⟨fun i hi => ?_, fun i j hij hj => ?_⟩
      · by_cases e : i < l.length
        · rw [getD_app_list e]; exact Nat.lt_succ_of_lt (h.1 i e)
        · obtain rfl : i = l.length := by omega
          rw [getD_app_end]; exact Nat.lt_succ_self n
      · by_cases e : j < l.length
        · rw [getD_app_list e, getD_app_list (by omega)]; exact h.2 i j hij e
        · obtain rfl : j = l.length := by omega
          rw [getD_app_end, getD_app_list hij]; exact h.1 i hij
theorem noneB_eq (M : List (List Int)) (k C : Nat) : noneB M k C = (List.range (M.length - k)).all (fun i => (M.getD (k + i) []).getD C 0 == 0) := rfl
theorem Only.below_of {w w' : World} {g : Nat} {S : Nat} (h : Only w w' (fun x => x = g)) (hS : S ≤ w.heap.size) (hg : S ≤ g) : Below S w w' := h.below hS (fun x e => by rw [e]; exact hg)
set_option maxHeartbeats 4000000 in
set_option maxRecDepth 100000 in
theorem solve_not (q : Int) (ar ab : Option Addr) (cr nb cb : Nat) (L : List (List Int)) (bl : List Int) (w : World) (hT : Tab w) (hR : ArgR w ar L.length L) (hb : ArgI w ab nb bl) (hl : L.length ≤ 1000000) (hnb : nb ≤ 1000000) (hbig : ∀ i, (L.getD i []).length ≤ 1000000) (hrd : rdB q L nb = false) :
    Calls Tryd.prog 55 #[.int .i64 q, .slice ar L.length cr, .slice ab nb cb] w fun e w' => e = .returned (.tuple #[.slice none 0 0, .bool false]) ∧ Below w.heap.size w w' := by
  have HT := mkHid hT
  have HR := mkHid hR
  have HBL := mkHid hb
  have HBIG := mkHid hbig
  have HL := mkHid hl
  have HNB := mkHid hnb
  have RD := mkHid hrd
  clear hT hR hb hbig hl hnb hrd
  obtain ⟨n, hn⟩ : ∃ n, L.length = n := ⟨_, rfl⟩
  have HN := mkHid hn
  rw [hn]
  clear hn
  have rn := read_not q ar ab cr nb cb L bl w HT.out HR.out HBL.out HL.out HNB.out HBIG.out RD.out
  rw [HN.out] at rn
  have RN := mkHid rn
  clear rn
  go_enter Tryd.func55, Tryd.ntmps55
  go_wp2_with fail
  refine RN.out.mono ?_
  rintro e w2 ⟨rfl, b2⟩
  have bK := (b2.alloc b2.size (.cells #[.pointer none] 94))
  have B2 := mkHid bK
  clear b2 bK
  go_wp2_with fail
  go_ret2
  exact ⟨rfl, B2.out⟩
end Go.Proofs.YtbllanmhbfnagaaDoor
namespace Go.Proofs.YtbllanmhbfnagaaDoor
open Go.RowKit Go.Sort
theorem sub_bb (n a b : Int) (w : World) : Calls Tryd.prog 26 #[.int .i64 n, .int .i64 a, .int .i64 b] w fun e w' => e = .returned (.int .i64 (subI n a b)) ∧ Below w.heap.size w w' :=
  (sub_any n a b w).mono fun _ _ h => ⟨h.1, h.2 ▸ Below.refl _ _⟩
set_option maxHeartbeats 4000000 in
set_option maxRecDepth 100000 in
theorem indexI_any (ao : Option Addr) (n cp : Nat) (l : List Int) (x : Int) (w : World) (hn : n ≤ 1000000) (ha : ArgI w ao n l) :
    Calls Tryd.prog 118 #[.slice ao n cp, .int .i64 x] w fun e w' => w = w' ∧
      ((∃ i : Nat, e = .returned (.int .i64 i) ∧ i < n ∧ l.getD i 0 = x) ∨ (e = .returned (.int .i64 (-1)) ∧ ∀ j, j < n → l.getD j 0 ≠ x)) := by
  have HA := mkHid ha
  clear ha
  go_enter Tryd.func118, Tryd.ntmps118
  go_wp2_with fail
  go_loop [8] (fun c => ∃ i : Nat, c = .int .i64 i ∧ i ≤ n ∧ Hid (∀ j, j < i → l.getD j 0 ≠ x)) (fun c => (n - intOf c).toNat)
  case atStart => exact ⟨0, rfl, by omega, mkHid (fun j hj => absurd hj (Nat.not_lt_zero j))⟩
  case round =>
    obtain ⟨i, rfl, hi, hz⟩ := hrel
    have e2 : IntKind.i64.wrap ((i : Int) + 1) = ((i + 1 : Nat) : Int) := IntWalk.i64_in _ (by omega)
    by_cases hlt : i < n
    · obtain ⟨g, o, rfl, hc, -⟩ := HA.out.here (by omega)
      have k1 := hc i hlt
      clear hc
      have ii : (i : Int) < n := by omega
      obtain ⟨v, hv⟩ : ∃ v, l.getD i 0 = v := ⟨_, rfl⟩
      rw [hv] at k1
      have HV := mkHid hv
      clear hv
      by_cases hv0 : x = v
      · have hb : (x == v) = true := by simp [hv0]
        have HV0 := mkHid hv0
        clear hv0
        go_wp2
        go_ret
        exact ⟨rfl, .inl ⟨i, rfl, hlt, HV.out.trans HV0.out.symm⟩⟩
      · have hb : (x == v) = false := by simp [hv0]
        have hd : decide (x = v) = false := decide_eq_false hv0
        have HV0 := mkHid hv0
        clear hv0
        go_wp2
        go_round
        case rel => exact ⟨i + 1, rfl, by omega, mkHid (fun j hj => by
          rcases Nat.lt_or_ge j i with h | h
          · exact hz.out j h
          · obtain rfl : j = i := by omega
            rw [HV.out]; exact fun e => HV0.out e.symm)⟩
        case measure => simp [intOf]; omega
    · obtain rfl : i = n := by omega
      go_wp2
      go_ret
      exact ⟨rfl, .inr ⟨rfl, hz.out⟩⟩
theorem mem_pvI {pl : List Nat} {c : Nat} : c ∈ pl ↔ ∃ i, i < pl.length ∧ (pvI pl).getD i 0 = (c : Int) := by
  constructor
  · intro h
    obtain ⟨i, hi⟩ := List.mem_iff_getElem?.1 h
    have hl := (List.getElem?_eq_some_iff.1 hi).1
    exact ⟨i, hl, by simp [pvI, List.getD, hi]⟩
  · rintro ⟨i, hi, h⟩
    have : pl[i] = c := by
      simp [pvI, List.getD, hi] at h
      omega
    exact this ▸ List.getElem_mem hi
set_option maxHeartbeats 1000000 in
theorem containsP_any (ao : Option Addr) (n cp : Nat) (pl : List Nat) (c : Nat) (w : World) (hn : n ≤ 1000000) (ha : ArgI w ao n (pvI pl)) :
    Calls Tryd.prog 100 #[.slice ao n cp, .int .i64 c] w fun e w' => e = .returned (.bool (decide (c ∈ pl))) ∧ w = w' := by
  have HL : Hid (n = pl.length) := mkHid (by rw [ha.len, pvI_len])
  go_enter Tryd.func100, Tryd.ntmps100
  go_wp2_with fail
  refine (indexI_any ao n cp (pvI pl) c w hn ha).mono ?_
  rintro e w' ⟨rfl, hres⟩
  rcases hres with ⟨i, rfl, hi, hx⟩ | ⟨rfl, hz⟩
  · have HB : Hid (decide (c ∈ pl) = true) := mkHid (decide_eq_true (mem_pvI.2 ⟨i, by rw [← HL.out]; exact hi, hx⟩))
    have d : decide ((0 : Int) ≤ i) = true := decide_eq_true (by omega)
    clear hx ha
    go_wp2
    go_ret
    rw [HB.out]
    exact ⟨rfl, rfl⟩
  · have HB : Hid (decide (c ∈ pl) = false) := mkHid (decide_eq_false (fun h => by
      obtain ⟨i, hi, hx⟩ := mem_pvI.1 h
      exact hz i (by rw [HL.out]; exact hi) hx))
    clear hz ha
    go_wp2
    go_ret
    rw [HB.out]
    exact ⟨rfl, rfl⟩
/-- A vector of the kernel, after i pivots. -/
def kerV (q : Int) (C : Nat) (pl : List Nat) (M : List (List Int)) (col : Nat) : Nat → List Int
  | 0 => (List.replicate C 0).set col 1
  | i + 1 => (kerV q C pl M col i).set (pl.getD i 0) (subI q 0 ((M.getD i []).getD col 0))
def kerL (q : Int) (C : Nat) (pl : List Nat) (M : List (List Int)) : Nat → List (List Int)
  | 0 => []
  | c + 1 => if c ∈ pl then kerL q C pl M c else kerL q C pl M c ++ [kerV q C pl M c pl.length]
theorem kerV_len (q : Int) (C : Nat) (pl : List Nat) (M : List (List Int)) (col : Nat) : ∀ i, (kerV q C pl M col i).length = C
  | 0 => by simp [kerV]
  | i + 1 => by rw [kerV, List.length_set, kerV_len q C pl M col i]
theorem kerL_le (q : Int) (C : Nat) (pl : List Nat) (M : List (List Int)) : ∀ c, (kerL q C pl M c).length ≤ c
  | 0 => Nat.le_refl _
  | c + 1 => by
    have := kerL_le q C pl M c
    rw [kerL]
    split
    · omega
    · simp; omega
theorem kerL_wide (q : Int) (C : Nat) (pl : List Nat) (M : List (List Int)) : ∀ c, ∀ r ∈ kerL q C pl M c, r.length = C
  | 0 => fun r hr => by cases hr
  | c + 1 => fun r hr => by
    rw [kerL] at hr
    split at hr
    · exact kerL_wide q C pl M c r hr
    · rcases List.mem_append.1 hr with h | h
      · exact kerL_wide q C pl M c r h
      · rw [List.mem_singleton.1 h, kerV_len]
def zeroR (L : List (List Int)) : List Int := List.replicate L.length 0
def kerOk (q : Int) (L : List (List Int)) (cols : Int) : Bool := rdB q L L.length && (decide (0 ≤ cols) && decide (cols ≤ 64)) && ((L.length == 0) || ((colsN L : Int) == cols))
def kerF (q : Int) (L : List (List Int)) (cols : Int) : List (List Int) := if kerOk q L cols then kerL q cols.toNat (redL q L (zeroR L)).2 (redL q L (zeroR L)).1 cols.toNat else []
end Go.Proofs.YtbllanmhbfnagaaDoor
namespace Go.Proofs.YtbllanmhbfnagaaDoor
open Go.RowKit Go.Sort
theorem list_eq_of {l1 l2 : List Int} (hl : l1.length = l2.length) (h : ∀ j, j < l1.length → l1.getD j 0 = l2.getD j 0) : l1 = l2 := by
  apply List.ext_getElem hl
  intro i h1 h2
  have := h i h1
  simpa [List.getD, h1, h2] using this
set_option maxHeartbeats 4000000 in
set_option maxRecDepth 100000 in
theorem same_any (a b : Option Addr) (n1 c1 n2 c2 : Nat) (l1 l2 : List Int) (w : World) (hn : n1 ≤ 1000000) (h1 : ArgI w a n1 l1) (h2 : ArgI w b n2 l2) :
    Calls Tryd.prog 59 #[.slice a n1 c1, .slice b n2 c2] w fun e w' => e = .returned (.bool (decide (l1 = l2))) ∧ Below w.heap.size w w' := by
  have H1 := mkHid h1
  have H2 := mkHid h2
  have N1 := mkHid h1.len
  have N2 := mkHid h2.len
  clear h1 h2
  by_cases hne : n1 = n2
  · subst hne
    have d1 : ((n1 : Int) == (n1 : Int)) = true := by simp
    have d2 : ((n1 : Int) != (n1 : Int)) = false := by simp
    go_enter Tryd.func59, Tryd.ntmps59
    go_wp2_with fail
    clear d1 d2
    go_loopw [5] (fun c wr => ∃ i : Nat, c = .int .i64 i ∧ i ≤ n1 ∧ Hid (∀ j, j < i → l1.getD j 0 = l2.getD j 0) ∧ Hid (Below w.heap.size w wr)) (fun c _ => (n1 - intOf c).toNat)
    case atStart => exact ⟨0, rfl, by omega, mkHid (fun j hj => absurd hj (Nat.not_lt_zero j)), mkHid (Below.refl _ _)⟩
    case round =>
      obtain ⟨i, rfl, hi, hz, hb⟩ := hrel
      have e2 : IntKind.i64.wrap ((i : Int) + 1) = ((i + 1 : Nat) : Int) := IntWalk.i64_in _ (by omega)
      by_cases hlt : i < n1
      · obtain ⟨g1, o1, rfl, hc1, -⟩ := (H1.out.below hb.out).here (by omega)
        obtain ⟨g2, o2, rfl, hc2, -⟩ := (H2.out.below hb.out).here (by omega)
        have x1 := hc1 i hlt
        have x2 := hc2 i hlt
        have ii : (i : Int) < n1 := by omega
        obtain ⟨u, hu⟩ : ∃ u, l1.getD i 0 = u := ⟨_, rfl⟩
        obtain ⟨v, hv⟩ : ∃ u, l2.getD i 0 = u := ⟨_, rfl⟩
        rw [hu] at x1
        rw [hv] at x2
        have HU := mkHid hu
        have HV := mkHid hv
        clear hu hv hc1 hc2
        go_upto_region 6 with (fail)
        have m1 := cell_regrown x1
        have m2 := cell_regrown x2
        clear x1 x2
        refine wp_region_quiet_below (by kernel_rfl) (by kernel_rfl) ?_
        repeat (go_big_quiet_step (with_reducible (fail)))
        refine wpQuiet_nil ?_
        intro _ hw'
        obtain ⟨⟨dq, osq⟩, hw''⟩ := hw'
        subst hw''
        have hbb := below_regrown wr dq osq
        have B2 := mkHid (hb.out.trans (hbb.mono hb.out.size))
        clear m1 m2 hbb hb
        generalize grow (redrawn wr dq) osq = wd at *
        by_cases huv : u = v
        · have t1 : (u == v) = true := by simp [huv]
          have t2 : (u != v) = false := by simp [huv]
          have HUV := mkHid huv
          clear huv
          rw [t2]
          go_wp2
          go_roundw
          case rel => exact ⟨i + 1, rfl, by omega, mkHid (fun j hj => by
            rcases Nat.lt_or_ge j i with h | h
            · exact hz.out j h
            · obtain rfl : j = i := by omega
              rw [HU.out, HV.out]; exact HUV.out), B2⟩
          case measure => simp [intOf]; omega
        · have t1 : (u == v) = false := by simp [huv]
          have t2 : (u != v) = true := by simp [huv]
          have HUV := mkHid huv
          clear huv
          have HF : Hid (decide (l1 = l2) = false) := mkHid (decide_eq_false (fun e => HUV.out (by rw [← HU.out, ← HV.out, e])))
          rw [t2]
          go_wp2
          go_ret
          rw [HF.out]
          exact ⟨rfl, B2.out⟩
      · obtain rfl : i = n1 := by omega
        have HF : Hid (decide (l1 = l2) = true) := mkHid (decide_eq_true (list_eq_of (by rw [← N1.out, ← N2.out]) (fun j hj => hz.out j (by rw [N1.out]; exact hj))))
        go_wp2
        go_ret
        rw [HF.out]
        exact ⟨rfl, hb.out⟩
  · have d1 : ((n1 : Int) == (n2 : Int)) = false := by rw [beq_eq_false_iff_ne]; omega
    have d2 : ((n1 : Int) != (n2 : Int)) = true := by rw [bne, d1]; rfl
    have d3 : decide (n1 = n2) = false := decide_eq_false hne
    have HF : Hid (decide (l1 = l2) = false) := mkHid (decide_eq_false (fun e => hne (by rw [N1.out, N2.out, e])))
    have HNE := mkHid hne
    go_enter Tryd.func59, Tryd.ntmps59
    go_wp2
    go_ret
    rw [HF.out]
    exact ⟨rfl, Below.refl _ _⟩
theorem rows_eq_of {l1 l2 : List (List Int)} (hl : l1.length = l2.length) (h : ∀ j, j < l1.length → l1.getD j [] = l2.getD j []) : l1 = l2 := by
  apply List.ext_getElem hl
  intro i h1 h2
  have := h i h1
  simpa [List.getD, h1, h2] using this
set_option maxHeartbeats 4000000 in
set_option maxRecDepth 100000 in
theorem sameRows_any (a b : Option Addr) (n1 c1 n2 c2 : Nat) (l1 l2 : List (List Int)) (w : World) (hn : n1 ≤ 1000000) (h1 : ArgR w a n1 l1) (h2 : ArgR w b n2 l2) (hbig : ∀ i, (l1.getD i []).length ≤ 1000000) :
    Calls Tryd.prog 60 #[.slice a n1 c1, .slice b n2 c2] w fun e w' => e = .returned (.bool (decide (l1 = l2))) ∧ Below w.heap.size w w' := by
  have H1 := mkHid h1
  have H2 := mkHid h2
  have N1 := mkHid h1.len
  have N2 := mkHid h2.len
  have HBIG := mkHid hbig
  clear h1 h2 hbig
  by_cases hne : n1 = n2
  · subst hne
    have d1 : ((n1 : Int) == (n1 : Int)) = true := by simp
    have d2 : ((n1 : Int) != (n1 : Int)) = false := by simp
    go_enter Tryd.func60, Tryd.ntmps60
    go_wp2_with fail
    clear d1 d2
    go_loopw [5] (fun c wr => ∃ i : Nat, c = .int .i64 i ∧ i ≤ n1 ∧ Hid (∀ j, j < i → l1.getD j [] = l2.getD j []) ∧ Hid (Below w.heap.size w wr)) (fun c _ => (n1 - intOf c).toNat)
    case atStart => exact ⟨0, rfl, by omega, mkHid (fun j hj => absurd hj (Nat.not_lt_zero j)), mkHid (Below.refl _ _)⟩
    case round =>
      obtain ⟨i, rfl, hi, hz, hb⟩ := hrel
      have e2 : IntKind.i64.wrap ((i : Int) + 1) = ((i + 1 : Nat) : Int) := IntWalk.i64_in _ (by omega)
      by_cases hlt : i < n1
      · obtain ⟨g1, o1, rfl, -, hc1⟩ := (H1.out.below hb.out).here (by omega)
        obtain ⟨g2, o2, rfl, -, hc2⟩ := (H2.out.below hb.out).here (by omega)
        obtain ⟨r1, k1, p1, x1, a1⟩ := hc1 i hlt
        obtain ⟨r2, k2, p2, x2, a2⟩ := hc2 i hlt
        have ii : (i : Int) < n1 := by omega
        obtain ⟨u, hu⟩ : ∃ u, l1.getD i [] = u := ⟨_, rfl⟩
        obtain ⟨v, hv⟩ : ∃ u, l2.getD i [] = u := ⟨_, rfl⟩
        rw [hu] at a1
        rw [hv] at a2
        have HU := mkHid hu
        have HV := mkHid hv
        have KK : k1 ≤ 1000000 := by have := a1.len; have h3 := HBIG.out i; rw [hu] at h3; omega
        have kS0 : ∀ W : World, Below wr.heap.size wr W → Calls Tryd.prog 59 #[.slice r1 k1 p1, .slice r2 k2 p2] W fun e w' => e = .returned (.bool (decide (u = v))) ∧ Below W.heap.size W w' := fun W hW => same_any r1 r2 k1 p1 k2 p2 u v W KK (a1.below hW) (a2.below hW)
        have kS := regr wr kS0
        clear hu hv hc1 hc2 kS0 a1 a2
        go_upto_region 6 with (fail)
        have m1 := cell_regrown x1
        have m2 := cell_regrown x2
        clear x1 x2
        refine wp_region_quiet_below (by kernel_rfl) (by kernel_rfl) ?_
        repeat (go_big_quiet_step (with_reducible (first | exact kS _ _)))
        refine wpQuiet_nil ?_
        intro _ hw'
        obtain ⟨⟨dq, osq⟩, hw''⟩ := hw'
        subst hw''
        have hbb := below_regrown wr dq osq
        have B2 := mkHid (hb.out.trans (hbb.mono hb.out.size))
        clear m1 m2 hbb hb kS
        generalize grow (redrawn wr dq) osq = wd at *
        by_cases huv : u = v
        · have HUV := mkHid huv
          rw [decide_eq_true huv]
          clear huv
          go_wp2
          go_roundw
          case rel => exact ⟨i + 1, rfl, by omega, mkHid (fun j hj => by
            rcases Nat.lt_or_ge j i with h | h
            · exact hz.out j h
            · obtain rfl : j = i := by omega
              rw [HU.out, HV.out]; exact HUV.out), B2⟩
          case measure => simp [intOf]; omega
        · have HUV := mkHid huv
          have HF : Hid (decide (l1 = l2) = false) := mkHid (decide_eq_false (fun e => HUV.out (by rw [← HU.out, ← HV.out, e])))
          rw [decide_eq_false huv]
          clear huv
          go_wp2
          go_ret
          rw [HF.out]
          exact ⟨rfl, B2.out⟩
      · obtain rfl : i = n1 := by omega
        have HF : Hid (decide (l1 = l2) = true) := mkHid (decide_eq_true (rows_eq_of (by rw [← N1.out, ← N2.out]) (fun j hj => hz.out j (by rw [N1.out]; exact hj))))
        go_wp2
        go_ret
        rw [HF.out]
        exact ⟨rfl, hb.out⟩
  · have d1 : ((n1 : Int) == (n2 : Int)) = false := by rw [beq_eq_false_iff_ne]; omega
    have d2 : ((n1 : Int) != (n2 : Int)) = true := by rw [bne, d1]; rfl
    have d3 : decide (n1 = n2) = false := decide_eq_false hne
    have HF : Hid (decide (l1 = l2) = false) := mkHid (decide_eq_false (fun e => hne (by rw [N1.out, N2.out, e])))
    have HNE := mkHid hne
    go_enter Tryd.func60, Tryd.ntmps60
    go_wp2
    go_ret
    rw [HF.out]
    exact ⟨rfl, Below.refl _ _⟩
end Go.Proofs.YtbllanmhbfnagaaDoor
