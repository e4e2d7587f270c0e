/- The chapter's examples of linear algebra (walk). FieldShares: what the property's function computes where nothing is asked (walks). FieldShares: what the property's function computes (walk). -/
import Derived.Test.YtbllanmhbfnagaaDoorU31
import Derived.Test.YtbllanmhbfnagaaDoorU35
import Derived.Test.YtbllanmhbfnagaaDoorU30
import Derived.BigQuiet
import Derived.Test.YtbllanmhbfnagaaDoorU33
import Derived.BigRegion
set_option linter.unusedVariables false
set_option linter.unusedSimpArgs false
namespace Go.Proofs.YtbllanmhbfnagaaDoor
open Go.RowKit Go.Sort
theorem argI_lit (w : World) (l : List Int) (t : TypeId) (cs : Array Value) (hcs : cs.toList = iv l) {n : Nat} (hn : n = l.length) {g : Nat} (hg : g = w.heap.size) : ArgI (w.alloc (.cells cs t)) (some ⟨g, 0, none⟩) n l := by
  subst hg
  refine ⟨hn, fun _ => ⟨w.heap.size, 0, rfl, fun j hj => ?_, by simp⟩⟩
  have h := heap_alloc_new w (.cells cs t)
  rw [cell_of_row _ _ _ _ _ _ h, Nat.zero_add, ← Array.getElem?_toList, hcs]
  exact iv_at l j (by omega)
theorem argR_lit2 (w : World) (a1 a2 : Option Addr) (n1 n2 c1 c2 : Nat) (l1 l2 : List Int) (t : TypeId) (h1 : ArgI w a1 n1 l1) (h2 : ArgI w a2 n2 l2) {g : Nat} (hg : g = w.heap.size) :
    ArgR (w.alloc (.cells #[.slice a1 n1 c1, .slice a2 n2 c2] t)) (some ⟨g, 0, none⟩) 2 [l1, l2] := by
  subst hg
  have hb : Below w.heap.size w (w.alloc (.cells #[.slice a1 n1 c1, .slice a2 n2 c2] t)) := (Below.refl _ w).alloc (Nat.le_refl _) _
  refine ⟨rfl, fun _ => ⟨w.heap.size, 0, rfl, by simp, fun i hi => ?_⟩⟩
  have h := heap_alloc_new w (.cells #[.slice a1 n1 c1, .slice a2 n2 c2] t)
  match i, hi with
  | 0, _ => exact ⟨a1, n1, c1, by rw [cell_of_row _ _ _ _ _ _ h]; rfl, h1.below hb⟩
  | 1, _ => exact ⟨a2, n2, c2, by rw [cell_of_row _ _ _ _ _ _ h]; rfl, h2.below hb⟩
theorem bAl (w : World) (o : Obj) : Below w.heap.size w (w.alloc o) := (Below.refl _ w).alloc (Nat.le_refl _) _
def rowsE : List (List Int) := [[1, 2, 3], [2, 4, 6]]
theorem rowsE_big (i : Nat) : (rowsE.getD i []).length ≤ 1000000 := by
  match i with
  | 0 => decide
  | 1 => decide
  | n + 2 => simp [rowsE, List.getD]
theorem kers_big (i : Nat) : (([[9, 1, 0], [8, 0, 1]] : List (List Int)).getD i []).length ≤ 1000000 := by
  match i with
  | 0 => decide
  | 1 => decide
  | n + 2 => simp [List.getD]
set_option maxHeartbeats 8000000 in
set_option maxRecDepth 100000 in
theorem saneL_any (w : World) (hT : Tab w) :
    Calls Tryd.prog 53 #[] w fun e w' => e = .returned (.bool true) ∧ Below w.heap.size w w' := by
  have HT := mkHid hT
  clear hT
  have CS1 := mkHid (fun (W : World) (ar ab : Option Addr) (h1 : Tab W) (h2 : ArgR W ar 2 rowsE) (h3 : ArgI W ab 2 [5, 10]) => by
    have h := solve_any 11 ar ab 2 2 2 rowsE [5, 10] W h1 h2 h3 (by decide) (by omega) rowsE_big
    rw [show solF 11 rowsE [5, 10] 2 = [5, 0, 0] from sol_12.1, show solOk 11 rowsE [5, 10] 2 = true from sol_12.2.1] at h
    exact (show Calls Tryd.prog 55 #[.int .i64 11, .slice ar 2 2, .slice ab 2 2] W fun e w' => ∃ ao cap, e = .returned (.tuple #[.slice ao 3 cap, .bool true]) ∧ ArgI w' ao 3 [5, 0, 0] ∧ Below W.heap.size W w' from h))
  have CS2 := mkHid (fun (W : World) (ar ab : Option Addr) (h1 : Tab W) (h2 : ArgR W ar 2 rowsE) (h3 : ArgI W ab 2 [5, 9]) => by
    have h := solve_any 11 ar ab 2 2 2 rowsE [5, 9] W h1 h2 h3 (by decide) (by omega) rowsE_big
    rw [show solOk 11 rowsE [5, 9] 2 = false from sol_12.2.2.1] at h
    exact (show Calls Tryd.prog 55 #[.int .i64 11, .slice ar 2 2, .slice ab 2 2] W fun e w' => ∃ ao k cap, e = .returned (.tuple #[.slice ao k cap, .bool false]) ∧ Below W.heap.size W w' from h.mono fun e w' ⟨ao, cap, he, _, hb⟩ => ⟨ao, _, cap, he, hb⟩))
  have CK := mkHid (fun (W : World) (ar : Option Addr) (h1 : Tab W) (h2 : ArgR W ar 2 rowsE) => by
    have h := kernel_any 11 3 ar 2 rowsE W h1 h2 (by decide) rowsE_big
    rw [show kerF 11 rowsE 3 = [[9, 1, 0], [8, 0, 1]] from sol_12.2.2.2.2.1, show kerOk 11 rowsE 3 = true from sol_12.2.2.2.1] at h
    exact (show Calls Tryd.prog 57 #[.int .i64 11, .slice ar 2 2, .int .i64 3] W fun e w' => ∃ ao cap, e = .returned (.tuple #[.slice ao 2 cap, .bool true]) ∧ ArgR w' ao 2 [[9, 1, 0], [8, 0, 1]] ∧ Below W.heap.size W w' from h))
  have CR := mkHid (fun (W : World) (ar : Option Addr) (h1 : Tab W) (h2 : ArgR W ar 2 rowsE) => by
    have h := rank_any 11 ar 2 rowsE W h1 h2 (by decide) rowsE_big
    rw [show rankF 11 rowsE = 1 from sol_12.2.2.2.2.2] at h
    exact (show Calls Tryd.prog 61 #[.int .i64 11, .slice ar 2 2] W fun e w' => e = .returned (.int .i64 1) ∧ Below W.heap.size W w' from h))
  have CP := mkHid (fun (W : World) (g : Nat) (h1 : Tab W) (h2 : ArgI W (some ⟨g, 0, none⟩) 2 [1, 2]) => by
    obtain ⟨g', o', he, hc, hl⟩ := h2.here (by omega)
    obtain ⟨rfl, rfl⟩ : g = g' ∧ 0 = o' := by injection he with he; injection he with e1 e2; exact ⟨e1, e2⟩
    exact points_12 g 0 2 W h1 hl (hc 0 (by omega)) (hc 1 (by omega)))
  have CT := mkHid (fun (W : World) (g g2 : Nat) (h1 : Tab W) (h2 : ArgI W (some ⟨g, 0, none⟩) 2 [1, 2]) (h3 : ArgI W (some ⟨g2, 0, none⟩) 2 [3, 5]) => by
    have h := through_gen 11 g 0 2 g2 0 2 2 [1, 2] [3, 5] W (by omega) (by omega) (by omega) (by omega) h2 h3 (CP.out W g h1 h2)
    rw [show (2 - 1 : Nat) = 1 from rfl, thr_12.1] at h
    exact h)
  have CW := mkHid (fun (W : World) (g : Nat) (h1 : Tab W) (h2 : ArgI W (some ⟨g, 0, none⟩) 2 [1, 2]) => by
    have h := weights_gen 11 0 g 0 2 2 [1, 2] W (by omega) h2 (CP.out W g h1 h2)
    rw [thr_12.2.1] at h
    exact h)
  have CA := mkHid (fun (W : World) (ao : Option Addr) (c : Nat) (h2 : ArgI W ao 2 [1, 2]) => by
    have h := at_any 11 0 ao 2 c [1, 2] W (by omega) h2
    rw [thr_12.2.2] at h
    exact h)
  go_enter Tryd.func53, Tryd.ntmps53
  go_wp2_with fail
  have i1 := argI_lit w [1, 2, 3] 3 #[.int .i64 1, .int .i64 2, .int .i64 3] rfl (n := 3) rfl rfl
  have i2 := argI_lit (w.alloc (.cells #[.int .i64 1, .int .i64 2, .int .i64 3] 3)) [2, 4, 6] 3 #[.int .i64 2, .int .i64 4, .int .i64 6] rfl (n := 3) rfl (g := w.heap.size + 1) (by simp)
  have i1 := i1.below (bAl _ (.cells #[.int .i64 2, .int .i64 4, .int .i64 6] 3))
  have r3 := argR_lit2 ((w.alloc (.cells #[.int .i64 1, .int .i64 2, .int .i64 3] 3)).alloc (.cells #[.int .i64 2, .int .i64 4, .int .i64 6] 3)) (some ⟨w.heap.size, 0, none⟩) (some ⟨w.heap.size + 1, 0, none⟩) 3 3 3 3 [1, 2, 3] [2, 4, 6] 42 (i1) (i2) (g := w.heap.size + 1 + 1) (by simp)
  have r4 := r3.below (bAl _ (.cells #[.int .i64 5, .int .i64 10] 3))
  have i4 := argI_lit (((w.alloc (.cells #[.int .i64 1, .int .i64 2, .int .i64 3] 3)).alloc (.cells #[.int .i64 2, .int .i64 4, .int .i64 6] 3)).alloc (.cells #[.slice (some ⟨w.heap.size, 0, none⟩) 3 3, .slice (some ⟨w.heap.size + 1, 0, none⟩) 3 3] 42)) [5, 10] 3 #[.int .i64 5, .int .i64 10] rfl (n := 2) rfl (g := w.heap.size + 1 + 1 + 1) (by simp)
  have b4 : Below w.heap.size w ((((w.alloc (.cells #[.int .i64 1, .int .i64 2, .int .i64 3] 3)).alloc (.cells #[.int .i64 2, .int .i64 4, .int .i64 6] 3)).alloc (.cells #[.slice (some ⟨w.heap.size, 0, none⟩) 3 3, .slice (some ⟨w.heap.size + 1, 0, none⟩) 3 3] 42)).alloc (.cells #[.int .i64 5, .int .i64 10] 3)) := ((((bAl w _).trans ((bAl _ _).mono (by simp))).trans ((bAl _ _).mono (by simp; omega))).trans ((bAl _ _).mono (by simp; omega)))
  have R4 := mkHid r4
  have B4 := mkHid b4
  have I4 := mkHid i4
  clear i1 i2 r3 r4 i4 b4
  generalize (((w.alloc (.cells #[.int .i64 1, .int .i64 2, .int .i64 3] 3)).alloc (.cells #[.int .i64 2, .int .i64 4, .int .i64 6] 3)).alloc (.cells #[.slice (some ⟨w.heap.size, 0, none⟩) 3 3, .slice (some ⟨w.heap.size + 1, 0, none⟩) 3 3] 42)).alloc (.cells #[.int .i64 5, .int .i64 10] 3) = w4 at *
  generalize w.heap.size + 1 + 1 = gr at *
  refine (CS1.out _ _ _ (HT.out.step B4.out) R4.out I4.out).mono ?_
  rintro e w5 ⟨a5, c5, rfl, x5, b5⟩
  have X5 := mkHid x5
  have R5 := mkHid (R4.out.below b5)
  have B5 := mkHid (B4.out.trans (b5.mono B4.out.size))
  clear x5 b5 R4 B4 I4
  go_wp2_with fail
  have i6 := argI_lit w5 [5, 9] 3 #[.int .i64 5, .int .i64 9] rfl (n := 2) rfl rfl
  have I6 := mkHid i6
  have R6 := mkHid (R5.out.below (bAl w5 (.cells #[.int .i64 5, .int .i64 9] 3)))
  have X6 := mkHid (X5.out.below (bAl w5 (.cells #[.int .i64 5, .int .i64 9] 3)))
  have B6 := mkHid (B5.out.trans ((bAl w5 (.cells #[.int .i64 5, .int .i64 9] 3)).mono B5.out.size))
  clear i6 R5 X5 B5
  generalize w5.alloc (.cells #[.int .i64 5, .int .i64 9] 3) = w6 at *
  refine (CS2.out _ _ _ (HT.out.step B6.out) R6.out I6.out).mono ?_
  rintro e w7 ⟨a7, k7, c7, rfl, b7⟩
  have R7 := mkHid (R6.out.below b7)
  have X7 := mkHid (X6.out.below b7)
  have B7 := mkHid (B6.out.trans (b7.mono B6.out.size))
  clear b7 R6 X6 B6 I6
  go_wp2_with fail
  refine (CK.out _ _ (HT.out.step B7.out) R7.out).mono ?_
  rintro e w8 ⟨a8, c8, rfl, k8, b8⟩
  have K8 := mkHid k8
  have R8 := mkHid (R7.out.below b8)
  have X8 := mkHid (X7.out.below b8)
  have B8 := mkHid (B7.out.trans (b8.mono B7.out.size))
  clear b8 R7 X7 B7 k8
  go_wp2_with fail
  have i9 := argI_lit w8 [1, 2] 3 #[.int .i64 1, .int .i64 2] rfl (n := 2) rfl rfl
  have i10 := argI_lit (w8.alloc (.cells #[.int .i64 1, .int .i64 2] 3)) [3, 5] 3 #[.int .i64 3, .int .i64 5] rfl (n := 2) rfl (g := w8.heap.size + 1) (by simp)
  have b10 : Below w8.heap.size w8 ((w8.alloc (.cells #[.int .i64 1, .int .i64 2] 3)).alloc (.cells #[.int .i64 3, .int .i64 5] 3)) := (bAl w8 _).trans ((bAl _ _).mono (by simp))
  have I9 := mkHid (i9.below (bAl _ (.cells #[.int .i64 3, .int .i64 5] 3)))
  have I10 := mkHid i10
  have K10 := mkHid (K8.out.below b10)
  have R10 := mkHid (R8.out.below b10)
  have X10 := mkHid (X8.out.below b10)
  have B10 := mkHid (B8.out.trans (b10.mono B8.out.size))
  clear i9 i10 b10 K8 R8 X8 B8
  generalize (w8.alloc (.cells #[.int .i64 1, .int .i64 2] 3)).alloc (.cells #[.int .i64 3, .int .i64 5] 3) = w10 at *
  refine (CT.out _ _ _ (HT.out.step B10.out) I9.out I10.out).mono ?_
  rintro e w11 ⟨a11, c11, rfl, p11, b11⟩
  have P11 := mkHid p11
  have K11 := mkHid (K10.out.below b11)
  have R11 := mkHid (R10.out.below b11)
  have X11 := mkHid (X10.out.below b11)
  have B11 := mkHid (B10.out.trans (b11.mono B10.out.size))
  clear p11 b11 K10 R10 X10 B10 I9 I10
  go_wp2_with fail
  have i12 := argI_lit w11 [1, 2] 3 #[.int .i64 1, .int .i64 2] rfl (n := 2) rfl rfl
  have b12 := bAl w11 (.cells #[.int .i64 1, .int .i64 2] 3)
  have I12 := mkHid i12
  have P12 := mkHid (P11.out.below b12)
  have K12 := mkHid (K11.out.below b12)
  have R12 := mkHid (R11.out.below b12)
  have X12 := mkHid (X11.out.below b12)
  have B12 := mkHid (B11.out.trans (b12.mono B11.out.size))
  clear i12 b12 P11 K11 R11 X11 B11
  generalize w11.alloc (.cells #[.int .i64 1, .int .i64 2] 3) = w12 at *
  refine (CW.out _ _ (HT.out.step B12.out) I12.out).mono ?_
  rintro e w13 ⟨a13, c13, rfl, p13, b13⟩
  have W13 := mkHid p13
  have P13 := mkHid (P12.out.below b13)
  have K13 := mkHid (K12.out.below b13)
  have R13 := mkHid (R12.out.below b13)
  have X13 := mkHid (X12.out.below b13)
  have B13 := mkHid (B12.out.trans (b13.mono B12.out.size))
  clear p13 b13 P12 K12 R12 X12 B12 I12
  as_aux_lemma =>
    go_wp2_with fail
    refine (CR.out _ _ (HT.out.step B13.out) R13.out).mono ?_
    rintro e w14 ⟨rfl, b14⟩
    have W14 := mkHid (W13.out.below b14)
    have P14 := mkHid (P13.out.below b14)
    have K14 := mkHid (K13.out.below b14)
    have X14 := mkHid (X13.out.below b14)
    have B14 := mkHid (B13.out.trans (b14.mono B13.out.size))
    clear b14 W13 P13 K13 X13 B13 R13
    go_wp2_with fail
    refine (CA.out _ _ _ P14.out).mono ?_
    rintro e w15 ⟨rfl, b15⟩
    have W15 := mkHid (W14.out.below b15)
    have P15 := mkHid (P14.out.below b15)
    have K15 := mkHid (K14.out.below b15)
    have X15 := mkHid (X14.out.below b15)
    have B15 := mkHid (B14.out.trans (b15.mono B14.out.size))
    clear b15 W14 P14 K14 X14 B14
    go_wp2_with fail
    have i16 := argI_lit w15 [5, 0, 0] 3 #[.int .i64 5, .int .i64 0, .int .i64 0] rfl (n := 3) rfl rfl
    have b16 := bAl w15 (.cells #[.int .i64 5, .int .i64 0, .int .i64 0] 3)
    have I16 := mkHid i16
    have W16 := mkHid (W15.out.below b16)
    have P16 := mkHid (P15.out.below b16)
    have K16 := mkHid (K15.out.below b16)
    have X16 := mkHid (X15.out.below b16)
    have B16 := mkHid (B15.out.trans (b16.mono B15.out.size))
    clear i16 b16 W15 P15 K15 X15 B15
    generalize w15.alloc (.cells #[.int .i64 5, .int .i64 0, .int .i64 0] 3) = w16 at *
    refine (same_any _ _ _ _ _ _ _ _ _ (by omega) X16.out I16.out).mono ?_
    rintro e w17 ⟨rfl, b17⟩
    rw [decide_eq_true rfl]
    have W17 := mkHid (W16.out.below b17)
    have P17 := mkHid (P16.out.below b17)
    have K17 := mkHid (K16.out.below b17)
    have B17 := mkHid (B16.out.trans (b17.mono B16.out.size))
    clear b17 W16 P16 K16 X16 B16 I16
    go_wp2_with fail
    have i1 := argI_lit w17 [9, 1, 0] 3 #[.int .i64 9, .int .i64 1, .int .i64 0] rfl (n := 3) rfl rfl
    have i2 := argI_lit (w17.alloc (.cells #[.int .i64 9, .int .i64 1, .int .i64 0] 3)) [8, 0, 1] 3 #[.int .i64 8, .int .i64 0, .int .i64 1] rfl (n := 3) rfl (g := w17.heap.size + 1) (by simp)
    have i1 := i1.below (bAl _ (.cells #[.int .i64 8, .int .i64 0, .int .i64 1] 3))
    have r3 := argR_lit2 ((w17.alloc (.cells #[.int .i64 9, .int .i64 1, .int .i64 0] 3)).alloc (.cells #[.int .i64 8, .int .i64 0, .int .i64 1] 3)) (some ⟨w17.heap.size, 0, none⟩) (some ⟨w17.heap.size + 1, 0, none⟩) 3 3 3 3 [9, 1, 0] [8, 0, 1] 42 (i1) (i2) (g := w17.heap.size + 1 + 1) (by simp)
    have b18 : Below w17.heap.size w17 (((w17.alloc (.cells #[.int .i64 9, .int .i64 1, .int .i64 0] 3)).alloc (.cells #[.int .i64 8, .int .i64 0, .int .i64 1] 3)).alloc (.cells #[.slice (some ⟨w17.heap.size, 0, none⟩) 3 3, .slice (some ⟨w17.heap.size + 1, 0, none⟩) 3 3] 42)) := ((bAl w17 _).trans ((bAl _ _).mono (by simp))).trans ((bAl _ _).mono (by simp; omega))
    have R18 := mkHid r3
    have W18 := mkHid (W17.out.below b18)
    have P18 := mkHid (P17.out.below b18)
    have K18 := mkHid (K17.out.below b18)
    have B18 := mkHid (B17.out.trans (b18.mono B17.out.size))
    clear i1 i2 r3 b18 W17 P17 K17 B17
    generalize ((w17.alloc (.cells #[.int .i64 9, .int .i64 1, .int .i64 0] 3)).alloc (.cells #[.int .i64 8, .int .i64 0, .int .i64 1] 3)).alloc (.cells #[.slice (some ⟨w17.heap.size, 0, none⟩) 3 3, .slice (some ⟨w17.heap.size + 1, 0, none⟩) 3 3] 42) = w18 at *
    refine (sameRows_any _ _ _ _ _ _ _ _ _ (by omega) K18.out R18.out kers_big).mono ?_
    rintro e w19 ⟨rfl, b19⟩
    rw [decide_eq_true rfl]
    have W19 := mkHid (W18.out.below b19)
    have P19 := mkHid (P18.out.below b19)
    have B19 := mkHid (B18.out.trans (b19.mono B18.out.size))
    clear b19 W18 P18 K18 B18 R18
    go_wp2_with fail
    have i20 := argI_lit w19 [1, 2] 3 #[.int .i64 1, .int .i64 2] rfl (n := 2) rfl rfl
    have b20 := bAl w19 (.cells #[.int .i64 1, .int .i64 2] 3)
    have I20 := mkHid i20
    have W20 := mkHid (W19.out.below b20)
    have P20 := mkHid (P19.out.below b20)
    have B20 := mkHid (B19.out.trans (b20.mono B19.out.size))
    clear i20 b20 W19 P19 B19
    generalize w19.alloc (.cells #[.int .i64 1, .int .i64 2] 3) = w20 at *
    refine (same_any _ _ _ _ _ _ _ _ _ (by omega) P20.out I20.out).mono ?_
    rintro e w21 ⟨rfl, b21⟩
    rw [decide_eq_true rfl]
    have W21 := mkHid (W20.out.below b21)
    have B21 := mkHid (B20.out.trans (b21.mono B20.out.size))
    clear b21 W20 P20 B20 I20
    go_wp2_with fail
    have i22 := argI_lit w21 [2, 10] 3 #[.int .i64 2, .int .i64 10] rfl (n := 2) rfl rfl
    have b22 := bAl w21 (.cells #[.int .i64 2, .int .i64 10] 3)
    have I22 := mkHid i22
    have W22 := mkHid (W21.out.below b22)
    have B22 := mkHid (B21.out.trans (b22.mono B21.out.size))
    clear i22 b22 W21 B21
    generalize w21.alloc (.cells #[.int .i64 2, .int .i64 10] 3) = w22 at *
    refine (same_any _ _ _ _ _ _ _ _ _ (by omega) W22.out I22.out).mono ?_
    rintro e w23 ⟨rfl, b23⟩
    rw [decide_eq_true rfl]
    have B23 := mkHid (B22.out.trans (b23.mono B22.out.size))
    clear b23 W22 B22 I22
    go_wp2_with fail
    go_ret
    exact ⟨rfl, B23.out⟩
end Go.Proofs.YtbllanmhbfnagaaDoor
namespace Go.Proofs.YtbllanmhbfnagaaDoor
open Go.RowKit Go.Sort
theorem u8_mod14 (q0 : Int) (q00 : 0 ≤ q0) : ∃ p : Nat, q0.tmod 14 = (p : Int) ∧ p < 14 := ⟨(q0 % 14).toNat, by rw [Int.tmod_eq_emod_of_nonneg q00]; omega, by omega⟩
set_option maxHeartbeats 4000000 in
set_option maxRecDepth 100000 in
theorem shares_noprime (q0 : Int) (p : Nat) (a1 a2 : Option Addr) (n1 c1 n2 c2 : Nat) (w : World) (hT : Tab w) (q00 : 0 ≤ q0) (q01 : q0 ≤ 255) (hp : q0.tmod 14 = (p : Int)) (hv : primeB (p : Int) = false) :
    Calls Tryd.prog 17 #[.int .u8 q0, .slice a1 n1 c1, .slice a2 n2 c2] w fun e w' => e = .returned (.bool true) ∧ Below w.heap.size w w' := by
  have HT := mkHid hT
  have HV := mkHid hv
  clear hT hv
  have cvq : IntKind.i64.wrap q0 = q0 := IntWalk.i64_in _ (by omega)
  go_enter Tryd.func17, Tryd.ntmps17
  go_wp2_with fail
  refine (saneL_any _ HT.out).mono ?_
  rintro e w1 ⟨rfl, b1⟩
  have B1 := mkHid b1
  clear b1
  go_wp2_with fail
  refine (prime_any (p : Int) _ (HT.out.step B1.out)).mono ?_
  rintro e w2 ⟨rfl, b2⟩
  have B2 := mkHid (B1.out.trans (b2.mono B1.out.size))
  rw [HV.out]
  clear b2
  go_wp2
  go_ret
  exact ⟨rfl, B2.out⟩
set_option maxHeartbeats 4000000 in
set_option maxRecDepth 100000 in
theorem shares_many (q0 : Int) (p : Nat) (a1 a2 : Option Addr) (n1 c1 n2 c2 : Nat) (w : World) (hT : Tab w) (q00 : 0 ≤ q0) (q01 : q0 ≤ 255) (hp : q0.tmod 14 = (p : Int)) (hv : primeB (p : Int) = true) (hn : 3 < n1) :
    Calls Tryd.prog 17 #[.int .u8 q0, .slice a1 n1 c1, .slice a2 n2 c2] w fun e w' => e = .returned (.bool true) ∧ Below w.heap.size w w' := by
  have HT := mkHid hT
  have HV := mkHid hv
  clear hT hv
  have cvq : IntKind.i64.wrap q0 = q0 := IntWalk.i64_in _ (by omega)
  have d1 : decide ((3 : Int) < n1) = true := decide_eq_true (by omega)
  go_enter Tryd.func17, Tryd.ntmps17
  go_wp2_with fail
  refine (saneL_any _ HT.out).mono ?_
  rintro e w1 ⟨rfl, b1⟩
  have B1 := mkHid b1
  clear b1
  go_wp2_with fail
  refine (prime_any (p : Int) _ (HT.out.step B1.out)).mono ?_
  rintro e w2 ⟨rfl, b2⟩
  have B2 := mkHid (B1.out.trans (b2.mono B1.out.size))
  rw [HV.out]
  clear b2
  go_wp2
  go_ret
  exact ⟨rfl, B2.out⟩
set_option maxHeartbeats 4000000 in
set_option maxRecDepth 100000 in
theorem shares_other (q0 : Int) (p : Nat) (a1 a2 : Option Addr) (n1 c1 n2 c2 : Nat) (w : World) (hT : Tab w) (q00 : 0 ≤ q0) (q01 : q0 ≤ 255) (hp : q0.tmod 14 = (p : Int)) (hv : primeB (p : Int) = true) (hn : n1 ≤ 3) (hne : n1 ≠ n2) :
    Calls Tryd.prog 17 #[.int .u8 q0, .slice a1 n1 c1, .slice a2 n2 c2] w fun e w' => e = .returned (.bool true) ∧ Below w.heap.size w w' := by
  have HT := mkHid hT
  have HV := mkHid hv
  clear hT hv
  have cvq : IntKind.i64.wrap q0 = q0 := IntWalk.i64_in _ (by omega)
  have d1 : decide ((3 : Int) < n1) = false := decide_eq_false (by omega)
  have d2 : ((n1 : Int) == (n2 : Int)) = false := by rw [beq_eq_false_iff_ne]; omega
  have d3 : ((n1 : Int) != (n2 : Int)) = true := by rw [bne, d2]; rfl
  have d4 : decide (n1 = n2) = false := decide_eq_false hne
  have HNE := mkHid hne
  clear hne
  go_enter Tryd.func17, Tryd.ntmps17
  go_wp2_with fail
  refine (saneL_any _ HT.out).mono ?_
  rintro e w1 ⟨rfl, b1⟩
  have B1 := mkHid b1
  clear b1
  go_wp2_with fail
  refine (prime_any (p : Int) _ (HT.out.step B1.out)).mono ?_
  rintro e w2 ⟨rfl, b2⟩
  have B2 := mkHid (B1.out.trans (b2.mono B1.out.size))
  rw [HV.out]
  clear b2
  go_wp2
  go_ret
  exact ⟨rfl, B2.out⟩
set_option maxHeartbeats 4000000 in
set_option maxRecDepth 100000 in
theorem shares_big (q0 : Int) (p : Nat) (a1 a2 : Option Addr) (n c1 c2 : Nat) (w : World) (hT : Tab w) (q00 : 0 ≤ q0) (q01 : q0 ≤ 255) (hp : q0.tmod 14 = (p : Int)) (hv : primeB (p : Int) = true) (hn : n ≤ 3) (hp13 : p ≤ 13) (hc : 2500 < capF p (n + 1)) :
    Calls Tryd.prog 17 #[.int .u8 q0, .slice a1 n c1, .slice a2 n c2] w fun e w' => e = .returned (.bool true) ∧ Below w.heap.size w w' := by
  have HT := mkHid hT
  have HV := mkHid hv
  clear hT hv
  have cvq : IntKind.i64.wrap q0 = q0 := IntWalk.i64_in _ (by omega)
  have d1 : decide ((3 : Int) < n) = false := decide_eq_false (by omega)
  have d2 : ((n : Int) == (n : Int)) = true := by simp
  have d3 : ((n : Int) != (n : Int)) = false := by simp
  have e1 : IntKind.i64.wrap ((n : Int) + 1) = ((n + 1 : Nat) : Int) := IntWalk.i64_in _ (by omega)
  have KP := mkHid (fun W : World => lpower_any p (n + 1) W hp13 (by omega))
  obtain ⟨u, hu⟩ : ∃ u, capF p (n + 1) = u := ⟨_, rfl⟩
  rw [hu] at KP hc
  clear hu
  have d5 : decide ((2500 : Int) < u) = true := decide_eq_true (by omega)
  go_enter Tryd.func17, Tryd.ntmps17
  go_wp2_with fail
  refine (saneL_any _ HT.out).mono ?_
  rintro e w1 ⟨rfl, b1⟩
  have B1 := mkHid b1
  clear b1
  go_wp2_with fail
  refine (prime_any (p : Int) _ (HT.out.step B1.out)).mono ?_
  rintro e w2 ⟨rfl, b2⟩
  have B2 := mkHid (B1.out.trans (b2.mono B1.out.size))
  rw [HV.out]
  clear b2
  go_wp2_with fail
  refine (KP.out w2).mono ?_
  rintro e w3 ⟨rfl, rfl⟩
  go_wp2
  go_ret
  exact ⟨rfl, B2.out⟩
end Go.Proofs.YtbllanmhbfnagaaDoor
namespace Go.Proofs.YtbllanmhbfnagaaDoor
open Go.RowKit Go.Sort
theorem cell_of_below {w w' : World} {a : Addr} {v : Value} (h : w.cell? a = some v) (hb : Below w.heap.size w w') : w'.cell? a = some v := (hb.cell (World.block_lt_of_cell? w a h)).trans h
def chkS (p : Int) (xs : List Int) (i : Nat) : Prop := ∀ j, j < i → addI p (xs.getD j 0) 0 ≠ 0 ∧ ∀ k, k < j → subI p (xs.getD j 0) (xs.getD k 0) ≠ 0
set_option maxHeartbeats 8000000 in
set_option maxRecDepth 100000 in
theorem shares_main (q0 : Int) (p : Nat) (a1 a2 : Option Addr) (n c1 c2 : Nat) (xs ys : List Int) (w : World) (hT : Tab w) (h1 : ArgI w a1 n xs) (h2 : ArgI w a2 n ys) (q00 : 0 ≤ q0) (q01 : q0 ≤ 255) (hp : q0.tmod 14 = (p : Int)) (hv : primeB (p : Int) = true) (hn : n ≤ 3) (hp13 : p < 14) (hc : capF p (n + 1) ≤ 2500) :
    Calls Tryd.prog 17 #[.int .u8 q0, .slice a1 n c1, .slice a2 n c2] w fun e w' => e = .returned (.bool true) ∧ Below w.heap.size w w' := by
  have HT := mkHid hT
  have HV := mkHid hv
  have HPM := mkHid (p13 hp13 hv)
  have hp2 : 2 ≤ p := (p13_bd HPM.out).1
  have H1 := mkHid h1
  have H2 := mkHid h2
  have L1 : Hid (xs.length = n) := mkHid h1.len.symm
  have L2 : Hid (ys.length = n) := mkHid h2.len.symm
  clear hT hv h1 h2
  have cvq : IntKind.i64.wrap q0 = q0 := IntWalk.i64_in _ (by omega)
  have d1 : decide ((3 : Int) < n) = false := decide_eq_false (by omega)
  have d2 : ((n : Int) == (n : Int)) = true := by simp
  have d3 : ((n : Int) != (n : Int)) = false := by simp
  have e1 : IntKind.i64.wrap ((n : Int) + 1) = ((n + 1 : Nat) : Int) := IntWalk.i64_in _ (by omega)
  have HCP := mkHid (capF_le p (n + 1) hc)
  have KP := mkHid (fun W : World => lpower_any p (n + 1) W (by omega) (by omega))
  obtain ⟨u, hu⟩ : ∃ u, capF p (n + 1) = u := ⟨_, rfl⟩
  rw [hu] at KP hc HCP
  clear hu
  have d5 : decide ((2500 : Int) < u) = false := decide_eq_false (by omega)
  obtain ⟨K, hK⟩ : ∃ K, n + 1 = K := ⟨_, rfl⟩
  rw [hK] at KP HCP e1
  have hK4 : K ≤ 4 := by omega
  have HKN := mkHid hK
  clear hK
  go_enter Tryd.func17, Tryd.ntmps17
  go_wp2_with fail
  refine (saneL_any _ HT.out).mono ?_
  rintro e w1 ⟨rfl, b1⟩
  have B1 := mkHid b1
  clear b1
  go_wp2_with fail
  refine (prime_any (p : Int) _ (HT.out.step B1.out)).mono ?_
  rintro e w2 ⟨rfl, b2⟩
  have B2 := mkHid (B1.out.trans (b2.mono B1.out.size))
  rw [HV.out]
  clear b2 B1
  go_wp2_with fail
  refine (KP.out w2).mono ?_
  rintro e w3 ⟨rfl, rfl⟩
  go_wp2_with fail
  clear cvq d2 d3 d5 d1
  go_loopw [9] (fun c wr => ∃ i : Nat, c = .int .i64 i ∧ i ≤ n ∧ Hid (chkS p xs i) ∧ Hid (Below w.heap.size w wr)) (fun c _ => (n - intOf c).toNat)
  case atStart => exact ⟨0, rfl, by omega, mkHid (fun j hj => absurd hj (Nat.not_lt_zero j)), B2⟩
  case round =>
    clear B2
    obtain ⟨i, rfl, hi, hchk, hb⟩ := hrel
    have e2 : IntKind.i64.wrap ((i : Int) + 1) = ((i + 1 : Nat) : Int) := IntWalk.i64_in _ (by omega)
    by_cases hlt : i < n
    · as_aux_lemma =>
      obtain ⟨g1, o1, rfl, hc1, -⟩ := (H1.out.below hb.out).here (by omega)
      have x1 := hc1 i hlt
      have ii : (i : Int) < n := by omega
      obtain ⟨a, ha⟩ : ∃ a, xs.getD i 0 = a := ⟨_, rfl⟩
      rw [ha] at x1
      have HA := mkHid ha
      clear hc1 ha
      go_wp2_with fail
      refine (add_bb2 p a 0 wr).mono ?_
      rintro e w4 ⟨rfl, b4⟩
      have B4 := mkHid (hb.out.trans (b4.mono hb.out.size))
      have X4 := mkHid (cell_of_below x1 b4)
      clear b4 x1 hb
      by_cases hz : addI (p : Int) a 0 = 0
      · have t1 : (addI (p : Int) a 0 == 0) = true := by simp [hz]
        rw [hz]
        clear hz t1
        go_wp2
        go_ret
        exact ⟨rfl, B4.out⟩
      · have t1 : (addI (p : Int) a 0 == 0) = false := by simp [hz]
        have t2 : decide (addI (p : Int) a 0 = 0) = false := decide_eq_false hz
        have HZ := mkHid hz
        obtain ⟨z, hzz⟩ : ∃ z, addI (p : Int) a 0 = z := ⟨_, rfl⟩
        rw [hzz] at t1 t2 hz HZ ⊢
        have HZZ := mkHid hzz
        clear hzz
        go_wp2_with fail
        clear t1 t2 hz
        go_loopw [10] (fun c wq => ∃ k : Nat, c = .int .i64 k ∧ k ≤ i ∧ Hid (∀ j, j < k → subI p a (xs.getD j 0) ≠ 0) ∧ Hid (Below w.heap.size w wq)) (fun c _ => (i - intOf c).toNat)
        case atStart => exact ⟨0, rfl, by omega, mkHid (fun j hj => absurd hj (Nat.not_lt_zero j)), B4⟩
        case round =>
          obtain ⟨k, rfl, hk, hs, hbq⟩ := hrel
          have e3 : IntKind.i64.wrap ((k : Int) + 1) = ((k + 1 : Nat) : Int) := IntWalk.i64_in _ (by omega)
          by_cases hkl : k < i
          · obtain ⟨g', o', he, hc1, -⟩ := (H1.out.below hbq.out).here (by omega)
            obtain ⟨rfl, rfl⟩ : g1 = g' ∧ o1 = o' := by injection he with he; injection he with e1 e2; exact ⟨e1, e2⟩
            have x1 := hc1 i hlt
            have x2 := hc1 k (by omega)
            have kn : (k : Int) < n := by omega
            have ki : (k : Int) < i := by omega
            obtain ⟨b, hb2⟩ : ∃ a, xs.getD k 0 = a := ⟨_, rfl⟩
            rw [hb2] at x2
            rw [HA.out] at x1
            have HB := mkHid hb2
            obtain ⟨s, hs2⟩ : ∃ s, subI p a b = s := ⟨_, rfl⟩
            have HS := mkHid hs2
            have kS0 : ∀ W : World, Calls Tryd.prog 26 #[.int .i64 p, .int .i64 a, .int .i64 b] W fun e w' => e = .returned (.int .i64 s) ∧ Below W.heap.size W w' := fun W => by have h := sub_bb p a b W; rw [hs2] at h; exact h
            have kS := regr wr (fun W _ => kS0 W)
            clear kS0 hs2 hb2 hc1 he
            go_upto_region 13 with (fail)
            have m1 := cell_regrown x1
            have m2 := cell_regrown x2
            clear x1 x2
            refine wp_region_quiet_below (by kernel_rfl) (by kernel_rfl) ?_
            repeat (go_big_quiet_step (with_reducible (first | exact kS _ _)))
            refine wpQuiet_nil ?_
            intro _ hw'
            obtain ⟨⟨dq, osq⟩, hw''⟩ := hw'
            subst hw''
            have hbb := below_regrown wr dq osq
            have B5 := mkHid (hbq.out.trans (hbb.mono hbq.out.size))
            clear m1 m2 hbb hbq kS
            generalize grow (redrawn wr dq) osq = wd at *
            by_cases hsz : s = 0
            · subst hsz
              go_wp2
              go_ret
              exact ⟨rfl, B5.out⟩
            · have t1 : (s == 0) = false := by simp [hsz]
              have t2 : decide (s = 0) = false := decide_eq_false hsz
              have HSZ := mkHid hsz
              rw [t1]
              clear hsz
              go_wp2
              go_roundw
              case rel => exact ⟨k + 1, rfl, by omega, mkHid (fun j hj => by
                rcases Nat.lt_or_ge j k with h | h
                · exact hs.out j h
                · obtain rfl : j = k := by omega
                  rw [HB.out, HS.out]; exact HSZ.out), B5⟩
              case measure => simp only [intOf]; omega
          · obtain rfl : k = i := by omega
            go_wp2_with fail
            go_roundw
            case rel => exact ⟨k + 1, rfl, by omega, mkHid (fun j hj => by
              rcases Nat.lt_or_ge j k with h | h
              · exact hchk.out j h
              · obtain rfl : j = k := by omega
                exact ⟨by rw [HA.out, HZZ.out]; exact HZ.out, fun k' hk' => by rw [HA.out]; exact hs.out k' hk'⟩), hbq⟩
            case measure => simp only [intOf]; omega
    · obtain rfl : n = i := by omega
      have H0 : Hid (∀ i, i < xs.length → addI (p : Int) (xs.getD i 0) 0 ≠ 0) := mkHid (fun i hi => (hchk.out i (by rw [← L1.out]; exact hi)).1)
      have HD : Hid (∀ i k, k < i → i < xs.length → subI (p : Int) (xs.getD i 0) (xs.getD k 0) ≠ 0) := mkHid (fun i k hk hi => (hchk.out i (by rw [← L1.out]; exact hi)).2 k hk)
      have ONE : Hid (∀ s, s < p → cntN u (fun n' => fitB p K xs ys n' n && (c0 p K n' == s)) = 1) := mkHid (fun s hs => by
        have h := shares_one HPM.out xs ys (by rw [L1.out, L2.out]) H0.out HD.out s hs
        rw [L1.out, HKN.out, ← HCP.out] at h
        exact h)
      clear H0 HD hchk hlt e2 hi
      have hp6 : p ≤ 1000000 := by omega
      as_aux_lemma =>
        go_wp2_with (refine wpList_make_ints wr rfl (.tmp 76) (.tmp 76) rfl p rfl rfl hp6 ?_; intro w5 o5 b5 z5; have O5 := mkHid o5; have B5 := mkHid b5; clear o5 b5 z5)
        have F5 : Hid (OwnAt w5 wr.heap.size wr.heap.size 0 p (iv (metF p K xs ys n 0))) := mkHid (by rw [metF_zero]; exact O5.out)
        have HB := mkHid hb.out
        clear O5
        generalize wr = w3 at *
        generalize hG : w3.heap.size = G at *
        have HG := mkHid hG
        have SG : Hid (w.heap.size ≤ G) := mkHid (by have := hb.out.size; omega)
        clear hG
        go_loopw [12] (fun c wr => ∃ N : Nat, c = .int .i64 N ∧ N ≤ u ∧ Hid (OwnAt wr G G 0 p (iv (metF p K xs ys n N))) ∧ Hid (Below G w3 wr)) (fun c _ => (u - intOf c).toNat)
        case atStart => exact ⟨0, rfl, by omega, F5, B5⟩
        case round =>
          clear F5 B5
          obtain ⟨N, rfl, hN, ho, hbq⟩ := hrel
          have e2 : IntKind.i64.wrap ((N : Int) + 1) = ((N + 1 : Nat) : Int) := IntWalk.i64_in _ (by omega)
          have GR : Hid (G < wr.heap.size) := mkHid ho.out.lt
          go_wp2_with fail
          refine (KP.out wr).mono ?_
          rintro e w' ⟨rfl, rfl⟩
          by_cases hlt : N < u
          · as_aux_lemma =>
            have nu : (N : Int) < u := by omega
            have nu2 : decide ((N : Int) < u) = true := decide_eq_true nu
            go_wp2_with fail
            refine (digits_any N p K wr (by omega) (by omega) (by omega) (by omega)).mono ?_
            rintro e w6 ⟨ac, cc, rfl, ic, b6⟩
            have IC := mkHid ic
            have O6 := mkHid (ho.out.of_block (b6.block G GR.out) b6.size)
            have B6 := mkHid (hbq.out.trans (b6.mono (Nat.le_of_lt GR.out)))
            have Z6 : Hid (G < w6.heap.size) := mkHid O6.out.lt
            clear ic b6 ho hbq GR
            generalize wr = wjunk at *
            go_wp2_with fail
            go_loopw [14, 15] (fun f c wq => ∃ i : Nat, f = .bool (fitB p K xs ys N i) ∧ c = .int .i64 i ∧ i ≤ n ∧ Hid (Below w6.heap.size w6 wq)) (fun _ c _ => (n - intOf c).toNat)
            case atStart => exact ⟨0, rfl, rfl, by omega, mkHid (Below.refl _ _)⟩
            case round =>
              obtain ⟨i, rfl, rfl, hi, hb7⟩ := hrel
              have e3 : IntKind.i64.wrap ((i : Int) + 1) = ((i + 1 : Nat) : Int) := IntWalk.i64_in _ (by omega)
              have B7 := mkHid (B6.out.trans (hb7.out.mono (Nat.le_of_lt Z6.out)))
              have BW := mkHid (HB.out.trans (B7.out.mono SG.out))
              have IC7 := mkHid (IC.out.below hb7.out)
              by_cases hil : i < n
              · as_aux_lemma =>
                have ii : (i : Int) < n := by omega
                have hst := mkHid (fitB_succ p K xs ys N i)
                obtain ⟨g1, o1, rfl, hc1, -⟩ := (H1.out.below BW.out).here (by omega)
                obtain ⟨g2, o2, rfl, hc2, -⟩ := (H2.out.below BW.out).here (by omega)
                have x1 := hc1 i hil
                have x2 := hc2 i hil
                obtain ⟨a, ha⟩ : ∃ a, xs.getD i 0 = a := ⟨_, rfl⟩
                obtain ⟨b, hb2⟩ : ∃ a, ys.getD i 0 = a := ⟨_, rfl⟩
                rw [ha] at x1 hst
                rw [hb2] at x2 hst
                clear hc1 hc2 ha hb2
                have kT0 : ∀ W : World, Below wr.heap.size wr W → Calls Tryd.prog 67 #[.int .i64 p, .slice ac K cc, .int .i64 a] W fun e w' => e = .returned (.int .i64 (atF p (pvI (digN p K N)) a)) ∧ Below W.heap.size W w' := fun W hW => at_any p a ac K cc (pvI (digN p K N)) W (by omega) (IC7.out.below hW)
                have kA0 : ∀ W : World, Calls Tryd.prog 24 #[.int .i64 p, .int .i64 b, .int .i64 0] W fun e w' => e = .returned (.int .i64 (addI p b 0)) ∧ Below W.heap.size W w' := fun W => add_bb2 p b 0 W
                obtain ⟨t, ht⟩ : ∃ t, atF (p : Int) (pvI (digN p K N)) a = t := ⟨_, rfl⟩
                obtain ⟨v, hv2⟩ : ∃ t, addI (p : Int) b 0 = t := ⟨_, rfl⟩
                rw [ht] at kT0 hst
                rw [hv2] at kA0 hst
                have kT := regr wr kT0
                have kA := regr wr (fun W _ => kA0 W)
                obtain ⟨f, hf⟩ : ∃ f, fitB p K xs ys N i = f := ⟨_, rfl⟩
                rw [hf] at hst ⊢
                clear kT0 kA0 ht hv2 hf
                cases f with
                | false =>
                  have hst2 : Hid (fitB p K xs ys N (i + 1) = false) := mkHid (by rw [hst.out]; rfl)
                  go_upto_region 24 with (fail)
                  clear x1 x2 kT kA
                  refine wp_region_quiet_below (by kernel_rfl) (by kernel_rfl) ?_
                  repeat (go_big_quiet_step (with_reducible (fail)))
                  refine wpQuiet_nil ?_
                  intro _ hw'
                  obtain ⟨⟨dq, osq⟩, hw''⟩ := hw'
                  subst hw''
                  have hbb := below_regrown wr dq osq
                  have B8 := mkHid (hb7.out.trans (hbb.mono hb7.out.size))
                  clear hbb hb7 B7 BW IC7
                  generalize grow (redrawn wr dq) osq = wd at *
                  go_wp2
                  go_roundw
                  case rel => exact ⟨i + 1, by rw [hst2.out], rfl, by omega, B8⟩
                  case measure => simp only [intOf]; omega
                | true =>
                  have hst2 : Hid (fitB p K xs ys N (i + 1) = (t == v)) := mkHid (by rw [hst.out]; rfl)
                  go_upto_region 24 with (fail)
                  have m1 := cell_regrown x1
                  have m2 := cell_regrown x2
                  clear x1 x2
                  refine wp_region_quiet_below (by kernel_rfl) (by kernel_rfl) ?_
                  repeat (go_big_quiet_step (with_reducible (first | exact kT _ _ | exact kA _ _)))
                  refine wpQuiet_nil ?_
                  intro _ hw'
                  obtain ⟨⟨dq, osq⟩, hw''⟩ := hw'
                  subst hw''
                  have hbb := below_regrown wr dq osq
                  have B8 := mkHid (hb7.out.trans (hbb.mono hb7.out.size))
                  clear hbb hb7 B7 BW IC7 m1 m2 kT kA
                  generalize grow (redrawn wr dq) osq = wd at *
                  go_wp2
                  go_roundw
                  case rel => exact ⟨i + 1, by rw [hst2.out], rfl, by omega, B8⟩
                  case measure => simp only [intOf]; omega
              · obtain rfl : n = i := by omega
                as_aux_lemma =>
                  have HYES := mkHid (metF_yes (p := p) (K := K) (xs := xs) (ys := ys) (m := n) (n := N) (by omega))
                  have HNO := mkHid (metF_no (p := p) (K := K) (xs := xs) (ys := ys) (m := n) (n := N))
                  obtain ⟨f, hf⟩ : ∃ f, fitB p K xs ys N n = f := ⟨_, rfl⟩
                  rw [hf] at HYES HNO ⊢
                  clear hf
                  have O7 := mkHid (O6.out.of_block (hb7.out.block G Z6.out) hb7.out.size)
                  clear hb7 O6 HB
                  cases f with
                  | false =>
                    have hst := mkHid (HNO.out rfl)
                    go_wp2_with fail
                    go_roundw
                    case rel => exact ⟨N + 1, rfl, by omega, mkHid (by rw [hst.out]; exact O7.out), B7⟩
                    case measure => simp only [intOf]; omega
                  | true =>
                    have hst := mkHid (HYES.out rfl)
                    have hcb : c0 p K N < p := digN_bd p (by omega) K N 0
                    obtain ⟨gc, oc, rfl, hcc, -⟩ := IC7.out.here (by omega)
                    have x1 := hcc 0 (by omega)
                    rw [pvI_at, Nat.add_zero] at x1
                    obtain ⟨c, hc0⟩ : ∃ c, c0 p K N = c := ⟨_, rfl⟩
                    have hc9 : (digN p K N).getD 0 0 = c := hc0
                    rw [hc9] at x1
                    rw [hc0] at hst hcb
                    clear hcc hc0 hc9 HYES HNO
                    have y1 := O7.out.cell_i c (by rw [metF_len]; exact hcb)
                    have z1 := O7.out.warm c hcb
                    have hml := mkHid (metF_at p K xs ys n N c hcb)
                    have hle := cntN_le (fun n' => fitB p K xs ys n' n && (c0 p K n' == c)) N
                    obtain ⟨v, hv⟩ : ∃ v, (metF p K xs ys n N).getD c 0 = v := ⟨_, rfl⟩
                    rw [hv] at y1 hml hst
                    have e5 : IntKind.i64.wrap (v + 1) = v + 1 := by rw [hml.out]; exact IntWalk.i64_in _ (by omega)
                    rw [Nat.zero_add] at y1 z1
                    have cp1 : (c : Int) < p := by omega
                    have k0 : (0 : Int) < K := by omega
                    have V9 : Hid (OwnAt (wr.setCell ⟨G, c, none⟩ (.int .i64 (v + 1))) G G 0 p (iv (metF p K xs ys n (N + 1)))) := mkHid (by
                      have h := O7.out.set c (.int .i64 (v + 1)) (by rw [iv_length, metF_len]; exact hcb)
                      rw [Nat.zero_add, iv_set, ← hst.out] at h
                      exact h)
                    have B9 : Hid (Below G w3 (wr.setCell ⟨G, c, none⟩ (.int .i64 (v + 1)))) := mkHid (below_setCell B7.out (p := ⟨G, c, none⟩) (Nat.le_refl _) _)
                    clear hv hle
                    go_wp2
                    go_roundw
                    case rel => exact ⟨N + 1, rfl, by omega, V9, B9⟩
                    case measure => simp only [intOf]; omega
          · obtain rfl : u = N := by omega
            as_aux_lemma =>
            have nu : decide ((u : Int) < u) = false := decide_eq_false (by omega)
            go_wp2_with fail
            clear nu
            generalize wr = w8 at *
            go_loopw [16] (fun c wr => ∃ s : Nat, c = .int .i64 s ∧ s ≤ p ∧ Hid (wr = w8)) (fun c _ => (p - intOf c).toNat)
            case atStart => exact ⟨0, rfl, by omega, mkHid rfl⟩
            case round =>
              obtain ⟨s, rfl, hs, hw8⟩ := hrel
              have hw9 := hw8.out
              subst hw9
              have e3 : IntKind.i64.wrap ((s : Int) + 1) = ((s + 1 : Nat) : Int) := IntWalk.i64_in _ (by omega)
              by_cases hsl : s < p
              · have y1 := ho.out.cell_i s (by rw [metF_len]; exact hsl)
                rw [metF_at _ _ _ _ _ _ _ hsl, ONE.out s hsl, Nat.zero_add] at y1
                have sp : (s : Int) < p := by omega
                go_wp2
                go_roundw
                case rel => exact ⟨s + 1, rfl, by omega, mkHid trivial⟩
                case measure => simp only [intOf]; omega
              · obtain rfl : p = s := by omega
                go_wp2_with fail
                go_ret
                exact ⟨rfl, HB.out.trans (hbq.out.mono SG.out)⟩
theorem shares_walk (q0 : Int) (a1 a2 : Option Addr) (n1 c1 n2 c2 : Nat) (xs ys : List Int) (w : World) (hT : Tab w) (h1 : ArgI w a1 n1 xs) (h2 : ArgI w a2 n2 ys) (q00 : 0 ≤ q0) (q01 : q0 ≤ 255) :
    Calls Tryd.prog 17 #[.int .u8 q0, .slice a1 n1 c1, .slice a2 n2 c2] w fun e w' => e = .returned (.bool true) ∧ Below w.heap.size w w' := by
  obtain ⟨p, hp, hp14⟩ := u8_mod14 q0 q00
  cases hv : primeB (p : Int) with
  | false => exact shares_noprime q0 p a1 a2 n1 c1 n2 c2 w hT q00 q01 hp hv
  | true =>
    by_cases hn : n1 ≤ 3
    · by_cases hne : n1 = n2
      · subst hne
        by_cases hc : capF p (n1 + 1) ≤ 2500
        · exact shares_main q0 p a1 a2 n1 c1 c2 xs ys w hT h1 h2 q00 q01 hp hv hn hp14 hc
        · exact shares_big q0 p a1 a2 n1 c1 c2 w hT q00 q01 hp hv hn (by omega) (by omega)
      · exact shares_other q0 p a1 a2 n1 c1 n2 c2 w hT q00 q01 hp hv hn hne
    · exact shares_many q0 p a1 a2 n1 c1 n2 c2 w hT q00 q01 hp hv (by omega)
end Go.Proofs.YtbllanmhbfnagaaDoor
