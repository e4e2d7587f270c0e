/- The walk of AskJoins (printed by wip/tools/genjoin.py). -/
import Derived.Test.YtmkdfbelbcocpaaGreatDoorMJ26
import Derived.Test.YtmkdfbelbcocpaaGreatDoorMJ13
set_option linter.unusedVariables false
set_option linter.unusedSimpArgs false
namespace Go.Proofs.YtmkdfbelbcocpaaGreatDoor
open Go.RowKit Go.Sort
/-- A predicate over a slice just built. -/
theorem predC_new (w : World) (P : Nat → Prop) (hP : P w.heap.size) (k c : Int) (ks : List Prd) (vss : List (List Value)) (cs : Array Value) (T : TypeId) (hcs : cs = vss.flatten.toArray) (hl : vss.length = ks.length)
    (hp : ∀ (i : Nat) (p : Prd) (vs : List Value), ks[i]? = some p → vss[i]? = some vs → PredC w P p vs) :
    PredC (w.alloc (.cells cs T)) P (.mk k [] [] c ks) [.int .i64 k, .string ⟨#[]⟩, .string ⟨#[]⟩, .int .i64 c, .slice (some ⟨w.heap.size, 0, none⟩) ks.length ks.length] := by
  have hA : Below w.heap.size w (w.alloc (.cells cs T)) := (Below.refl _ _).alloc (Nat.le_refl _) _
  unfold PredC
  refine ⟨_, _, rfl, .inr ⟨w.heap.size, 0, rfl, hP, by simp, KidsC.of ks vss w.heap.size 0 hl (fun i p vs h1 h2 => (hp i p vs h1 h2).below hA) (fun j u hj => ?_)⟩⟩
  have := cells_new w cs T j
  rw [Addr.add_lit] at this
  rw [this, hcs]
  simpa using hj
theorem body_bytes {s : List Nat} (h : ∀ y ∈ s, y < 256) : ∀ y ∈ bodyP s, y < 256 := fun y hy => by
  unfold bodyP at hy
  split at hy
  · cases hy
  · exact h y (List.mem_of_mem_take (List.mem_of_mem_drop hy))
theorem byt_all {p q : Prd} (hp : BytP p) (hq : BytP q) (k c : Int) : BytP (.mk k [] [] c [p, q]) := by
  unfold BytP BytL BytL BytL
  exact ⟨⟨by simp, by simp⟩, ⟨by simp, by simp⟩, hp, hq, trivial⟩
theorem byt_three {p q r : Prd} (hp : BytP p) (hq : BytP q) (hr : BytP r) (k c : Int) : BytP (.mk k [] [] c [p, q, r]) := by
  unfold BytP BytL BytL BytL BytL
  exact ⟨⟨by simp, by simp⟩, ⟨by simp, by simp⟩, hp, hq, hr, trivial⟩
/-- The texts of AskJoins and what is read of them. -/
structure Texts (p q : Prd) (J K : List Nat) : Prop where
  lenJ : J.length ≤ 4000
  lenK : K.length ≤ 4000
  bytJ : ∀ y ∈ J, y < 256
  bytK : ∀ y ∈ K, y < 256
  all : Meant (parX J ++ [32, 97, 110, 100, 32] ++ parX K) (.mk 1 [] [] 0 [p, q])
  some : Meant (parX J ++ [32, 111, 114, 32, 110, 111, 116, 32] ++ parX K ++ [32, 111, 114, 32] ++ parX J) (.mk 2 [] [] 0 [p, negP q, p])
  least : Meant ([97, 116, 32, 108, 101, 97, 115, 116, 32, 50, 32, 111, 102, 32, 40, 32] ++ J ++ [32, 44, 32] ++ parX K ++ [32, 41]) (.mk 3 [] [] 2 [p, q])
  par : Meant ([32] ++ parX J ++ [32]) p
  nots : Meant ([110, 111, 116, 32, 110, 111, 116, 32] ++ parX K) q
theorem texts_of {p q : Prd} {s t : List Nat} (hs : prnP [97] p = some s) (ht : prnP [97] q = some t) : Texts p q (bodyP s) (bodyP t) := by
  obtain ⟨e1, f1, c1, l1, v1⟩ := body_print hs
  obtain ⟨e2, f2, c2, l2, v2⟩ := body_print ht
  have m1 := (parse_print hs).2.1
  have m2 := (parse_print ht).2.1
  have b1 := body_bytes (print_byte hs)
  have b2 := body_bytes (print_byte ht)
  rw [e1] at b1 ⊢
  rw [e2] at b2 ⊢
  exact ⟨by omega, by omega, b1, b2, meant_all f1 f2 c1 c2, meant_some f1 f2 c1 c2, meant_least f1 f2 c1 c2, meant_par f1 c1, meant_not f2 c2 (neg_neg q v2)⟩
theorem parX_len (J : List Nat) : (parX J).length = J.length + 4 := by unfold parX; simp
theorem parX_byt {J : List Nat} (h : ∀ y ∈ J, y < 256) : ∀ y ∈ parX J, y < 256 := fun y hy => by
  unfold parX at hy
  simp only [List.mem_append] at hy
  rcases hy with (hy | hy) | hy
  · simp at hy; omega
  · exact h y hy
  · simp at hy; omega
theorem byt_app {a b : List Nat} (ha : ∀ y ∈ a, y < 256) (hb : ∀ y ∈ b, y < 256) : ∀ y ∈ a ++ b, y < 256 := fun y hy => by
  rcases List.mem_append.1 hy with hy | hy
  · exact ha y hy
  · exact hb y hy
theorem arr131 (t : Array Value) (h : t.size = 131) : ∃ f : Nat → Value, t = #[f 0, f 1, f 2, f 3, f 4, f 5, f 6, f 7, f 8, f 9, f 10, f 11, f 12, f 13, f 14, f 15, f 16, f 17, f 18, f 19, f 20, f 21, f 22, f 23, f 24, f 25, f 26, f 27, f 28, f 29, f 30, f 31, f 32, f 33, f 34, f 35, f 36, f 37, f 38, f 39, f 40, f 41, f 42, f 43, f 44, f 45, f 46, f 47, f 48, f 49, f 50, f 51, f 52, f 53, f 54, f 55, f 56, f 57, f 58, f 59, f 60, f 61, f 62, f 63, f 64, f 65, f 66, f 67, f 68, f 69, f 70, f 71, f 72, f 73, f 74, f 75, f 76, f 77, f 78, f 79, f 80, f 81, f 82, f 83, f 84, f 85, f 86, f 87, f 88, f 89, f 90, f 91, f 92, f 93, f 94, f 95, f 96, f 97, f 98, f 99, f 100, f 101, f 102, f 103, f 104, f 105, f 106, f 107, f 108, f 109, f 110, f 111, f 112, f 113, f 114, f 115, f 116, f 117, f 118, f 119, f 120, f 121, f 122, f 123, f 124, f 125, f 126, f 127, f 128, f 129, f 130] := by
  obtain ⟨l⟩ := t
  have hl : l.length = 131 := h
  have e : l = (List.range 131).map (fun i => l.getD i undef) := by
    apply List.ext_getElem
    · simp [hl]
    · intro i h1 h2
      simp [List.getD, h1]
  exact ⟨fun i => l.getD i undef, congrArg List.toArray e⟩
/-- A list of values, whatever the world. -/
def kF (VV : List Value) (i : Nat) (_ : World) (v : Value) : Prop := v = VV.getD i undef
theorem kF_step (VV : List Value) : ∀ i w w' v, kF VV i w v → Below w.heap.size w w' → kF VV i w' v := fun _ _ _ _ h _ => h
/-- Blocks that are not the one that the ghost names. -/
def jP (g : Option Nat) (x : Nat) : Prop := match g with
  | none => True
  | some a => x ≠ a
def kidN (x : Nat) : List Value := [.int .i64 2, .string ⟨#[]⟩, .string ⟨#[]⟩, .int .i64 0, .slice (some ⟨x, 0, none⟩) 3 3]
/-- What the values of the eleventh region's operations say. -/
def jF (vp vq : Value) (q r : Prd) (g : Option Nat) : Nat → World → Value → Prop
  | 0, _, v => v = vp
  | 1, _, v => v = vq
  | 2, w, v => ∃ vs, v = .agg vs.toArray ∧ PredC w (jP g) (negP q) vs
  | 3, _, v => v = vp
  | 4, w, v => ∃ x, v = .slice (some ⟨x, 0, none⟩) 3 3 ∧ PredC w (jP g) r (kidN x)
  | 5, w, v => ∃ x, v = .agg (kidN x).toArray ∧ PredC w (jP g) r (kidN x)
  | 6, w, v => ∃ A, g = some A ∧ v = .pointer (some ⟨A, 0, none⟩) ∧ HasV w A 25 [.int .i64 0, .string ⟨#[]⟩, .string ⟨#[]⟩, .int .i64 0, .slice none 0 0]
  | _, _, _ => True
def jI (N0 : Nat) (g : Option Nat) (listed : Array Bool) (w : World) : Prop := match g with
  | none => listed.getD 6 false = false
  | some a => listed.getD 6 false = true ∧ N0 ≤ a ∧ a < w.heap.size
def jS (N0 : Nat) (k : Nat) (g : Option Nat) (w : World) (g' : Option Nat) (w' : World) : Prop := (k ≠ 6 ∧ g' = g) ∨ (k = 6 ∧ g = none ∧ g' = some w.heap.size ∧ N0 ≤ w.heap.size ∧ w.heap.size < w'.heap.size)
theorem predC_ghost {w w' : World} {k N0 : Nat} {g g' : Option Nat} {p : Prd} {vs : List Value} (h : PredC w (jP g) p vs) (hs : jS N0 k g w g' w') (hb : Below w.heap.size w w') : PredC w' (jP g') p vs := by
  refine (PredC.below (h.mono (P' := jP g') (fun x hx hl => ?_)) hb)
  rcases hs with ⟨_, rfl⟩ | ⟨_, rfl, rfl, _⟩
  · exact hx
  · unfold jP; show x ≠ w.heap.size; omega
theorem jF_step (N0 : Nat) (vp vq : Value) (q r : Prd) : ∀ k g i w g' w' v, jF vp vq q r g i w v → jS N0 k g w g' w' → Below w.heap.size w w' → jF vp vq q r g' i w' v := by
  intro k g i w g' w' v h hs hb
  match i, h with
  | 0, h => exact h
  | 1, h => exact h
  | 2, h =>
    obtain ⟨vs, h1, h2⟩ := h
    exact ⟨vs, h1, predC_ghost h2 hs hb⟩
  | 3, h => exact h
  | 4, h =>
    obtain ⟨x, h1, h2⟩ := h
    exact ⟨x, h1, predC_ghost h2 hs hb⟩
  | 5, h =>
    obtain ⟨x, h1, h2⟩ := h
    exact ⟨x, h1, predC_ghost h2 hs hb⟩
  | 6, h =>
    obtain ⟨A, h1, h2, h3⟩ := h
    refine ⟨A, ?_, h2, h3.step hb⟩
    rcases hs with ⟨_, rfl⟩ | ⟨_, rfl, _⟩
    · exact h1
    · cases h1
  | i + 7, _ => trivial
theorem jI_step (N0 : Nat) : ∀ k g listed w g' w', k < listed.size → jI N0 g listed w → listed.getD k false = false → jS N0 k g w g' w' → Below w.heap.size w w' → jI N0 g' (listed.setIfInBounds k true) w' := by
  intro k g listed w g' w' hk h hl hs hb
  rcases hs with ⟨h6, rfl⟩ | ⟨rfl, rfl, rfl, h1, h2⟩
  · cases g' with
    | none => show _ = _; rw [getD_listed hk, if_neg (fun e => h6 e.symm)]; exact h
    | some a => exact ⟨by rw [getD_listed hk, if_neg (fun e => h6 e.symm)]; exact h.1, h.2.1, Nat.lt_of_lt_of_le h.2.2 hb.size⟩
  · exact ⟨by rw [getD_listed hk, if_pos rfl], h1, h2⟩
set_option maxHeartbeats 16000000 in
set_option maxRecDepth 100000 in
theorem askjoins_walk (p q : Prd) (vs us : List Value) (w : World) (P P' : Nat → Prop) (B : Nat) (hG : Good w B) (h : PredC w P p vs) (h' : PredC w P' q us) (hr : RawP p) (hr' : RawP q) (hlen : LenP p) (hlen' : LenP q)
    (hneg : ∀ W, Below w.heap.size w W → validP q = true → cntP q ≤ 1000000 → BytP q → Calls Tryz.prog 28 #[.agg us.toArray] W fun e W' => NegR W (negP q) e W') :
    Calls Tryz.prog 5 #[.agg vs.toArray, .agg us.toArray] w fun e w' => e = .returned (.bool true) ∧ Below w.heap.size w w' := by
  obtain ⟨xa, xn, xc, rfl, -⟩ := h.form
  obtain ⟨ya, yn, yc, rfl, -⟩ := h'.form
  have HSA := mkHid (fun W (hW : Below w.heap.size w W) => sane5_any W B (hG.step hW))
  have HF1 := mkHid (fun W (hW : Below w.heap.size w W) => few_any p 40 9 (by omega) (by omega) W P _ hlen (h.below hW))
  have HF2 := mkHid (fun W (hW : Below w.heap.size w W) => few_any q 40 9 (by omega) (by omega) W P' _ hlen' (h'.below hW))
  have HN1 := mkHid (fun W (hW : Below w.heap.size w W) => names_any (cntP p) p W P _ (Nat.le_refl _) hlen (h.below hW))
  have HN2 := mkHid (fun W (hW : Below w.heap.size w W) => names_any (cntP q) q W P' _ (Nat.le_refl _) hlen' (h'.below hW))
  have HPC := mkHid (fun W (hW : Below w.heap.size w W) => h.below hW)
  have HQC := mkHid (fun W (hW : Below w.heap.size w W) => h'.below hW)
  have HG := mkHid (fun W (hW : Below w.heap.size w W) => hG.step hW)
  have HSP := mkHid (fun (hf : fewP p 40 9 = true) (hs : namP p = true) => (show cntP p ≤ 40 ∧ BytP p from ⟨few_cnt hf, byt_of p hr hs⟩))
  have HSQ := mkHid (fun (hf : fewP q 40 9 = true) (hs : namP q = true) => (show cntP q ≤ 40 ∧ BytP q from ⟨few_cnt hf, byt_of q hr' hs⟩))
  have HNG := mkHid hneg
  clear h h' hr hr' hlen hlen' hG hneg
  generalize fewP p 40 9 = f1 at *
  generalize fewP q 40 9 = f2 at *
  generalize namP p = n1 at *
  generalize namP q = n2 at *
  have bx := (Below.refl w.heap.size w).alloc (Nat.le_refl _) (.cells #[.int .i64 p.k, .string (strN p.l), .string (strN p.r), .int .i64 p.c, .slice xa xn xc] 25)
  have X0 := heap_alloc_new w (.cells #[.int .i64 p.k, .string (strN p.l), .string (strN p.r), .int .i64 p.c, .slice xa xn xc] 25)
  generalize p.k = q0 at *
  generalize strN p.l = q1 at *
  generalize strN p.r = q2 at *
  generalize p.c = q3 at *
  generalize xa = qa at *
  generalize xn = qn at *
  generalize xc = qc at *
  generalize q.k = r0 at *
  generalize strN q.l = r1 at *
  generalize strN q.r = r2 at *
  generalize q.c = r3 at *
  generalize ya = ra at *
  generalize yn = rn at *
  generalize yc = rc at *
  have X1 : Hid (HasV (w.alloc (.cells #[.int .i64 q0, .string q1, .string q2, .int .i64 q3, .slice qa qn qc] 25)) w.heap.size 25 [.int .i64 q0, .string q1, .string q2, .int .i64 q3, .slice qa qn qc]) := mkHid X0
  have Y1 : Hid (HasV ((w.alloc (.cells #[.int .i64 q0, .string q1, .string q2, .int .i64 q3, .slice qa qn qc] 25)).alloc (.cells #[.int .i64 r0, .string r1, .string r2, .int .i64 r3, .slice ra rn rc] 25)) (w.alloc (.cells #[.int .i64 q0, .string q1, .string q2, .int .i64 q3, .slice qa qn qc] 25)).heap.size 25 [.int .i64 r0, .string r1, .string r2, .int .i64 r3, .slice ra rn rc]) := mkHid (heap_alloc_new _ _)
  have by1 := (Below.refl (w.alloc (.cells #[.int .i64 q0, .string q1, .string q2, .int .i64 q3, .slice qa qn qc] 25)).heap.size (w.alloc (.cells #[.int .i64 q0, .string q1, .string q2, .int .i64 q3, .slice qa qn qc] 25))).alloc (Nat.le_refl _) (.cells #[.int .i64 r0, .string r1, .string r2, .int .i64 r3, .slice ra rn rc] 25)
  have X1b := mkHid (X1.out.step by1)
  have B1 := mkHid (bx.trans (by1.mono bx.size))
  have hsz : (w.alloc (.cells #[.int .i64 q0, .string q1, .string q2, .int .i64 q3, .slice qa qn qc] 25)).heap.size = w.heap.size + 1 := by simp
  rw [hsz] at Y1
  clear bx by1 X0 X1 hsz
  go_enter Tryz.func5, Tryz.ntmps5
  go_upto_region 1 with (fail)
  generalize (w.alloc (.cells #[.int .i64 q0, .string q1, .string q2, .int .i64 q3, .slice qa qn qc] 25)).alloc (.cells #[.int .i64 r0, .string r1, .string r2, .int .i64 r3, .slice ra rn rc] 25) = w1 at *
  go_wp2_with fail
  refine (HSA.out w1 B1.out).mono ?_
  rintro e w2 ⟨rfl, b2⟩
  have B2 := mkHid (B1.out.trans (b2.mono B1.out.size))
  have X2 := mkHid (X1b.out.step b2)
  have Y2 := mkHid (Y1.out.step b2)
  clear b2 X1b Y1 B1
  clear HSA
  go_upto_region 2 with (fail)
  go_wp2_with ((refine wpList_load_row rfl 25 (.tmp 2) rfl w.heap.size ?la1 25 #[.int .i64 q0, .string q1, .string q2, .int .i64 q3, .slice qa qn qc] (0, 0) _ X2.out Tryz.underlying25 rfl (inf_pred _ rfl) ?_; (case la1 => rfl)))
  refine (HF1.out w2 B2.out).mono ?_
  rintro e w3 ⟨rfl, b3⟩
  have B3 := mkHid (B2.out.trans (b3.mono B2.out.size))
  have X3 := mkHid (X2.out.step b3)
  have Y3 := mkHid (Y2.out.step b3)
  clear b3 X2 Y2 B2
  clear HF1
  cases f1 with
  | false =>
    go_wp2
    go_ret
    exact ⟨rfl, B3.out⟩
  | true =>
  go_wp2_with ((refine wpList_load_wanted (by rfl) 25 (.tmp 3) rfl (w.heap.size + 1) (by rfl) 25 #[.int .i64 r0, .string r1, .string r2, .int .i64 r3, .slice ra rn rc] (0, 0) _ Y3.out Tryz.underlying25 rfl (inf_pred _ rfl) ?_))
  refine (HF2.out w3 B3.out).mono ?_
  rintro e w4 ⟨rfl, b4⟩
  have B4 := mkHid (B3.out.trans (b4.mono B3.out.size))
  have X4 := mkHid (X3.out.step b4)
  have Y4 := mkHid (Y3.out.step b4)
  clear b4 X3 Y3 B3
  clear HF2
  cases f2 with
  | false =>
    go_wp2
    go_ret
    exact ⟨rfl, B4.out⟩
  | true =>
  go_wp2_with ((refine wpList_load_wanted (by rfl) 25 (.tmp 2) rfl w.heap.size (by rfl) 25 #[.int .i64 q0, .string q1, .string q2, .int .i64 q3, .slice qa qn qc] (0, 0) _ X4.out Tryz.underlying25 rfl (inf_pred _ rfl) ?_))
  refine (HN1.out w4 B4.out).mono ?_
  rintro e w5 ⟨rfl, b5⟩
  have B5 := mkHid (B4.out.trans (b5.mono B4.out.size))
  have X5 := mkHid (X4.out.step b5)
  have Y5 := mkHid (Y4.out.step b5)
  clear b5 X4 Y4 B4
  clear HN1
  cases n1 with
  | false =>
    go_wp2
    go_ret
    exact ⟨rfl, B5.out⟩
  | true =>
  go_wp2_with ((refine wpList_load_wanted (by rfl) 25 (.tmp 3) rfl (w.heap.size + 1) (by rfl) 25 #[.int .i64 r0, .string r1, .string r2, .int .i64 r3, .slice ra rn rc] (0, 0) _ Y5.out Tryz.underlying25 rfl (inf_pred _ rfl) ?_))
  refine (HN2.out w5 B5.out).mono ?_
  rintro e w6 ⟨rfl, b6⟩
  have B6 := mkHid (B5.out.trans (b6.mono B5.out.size))
  have X6 := mkHid (X5.out.step b6)
  have Y6 := mkHid (Y5.out.step b6)
  clear b6 X5 Y5 B5
  clear HN2
  cases n2 with
  | false =>
    go_wp2
    go_ret
    exact ⟨rfl, B6.out⟩
  | true =>
  obtain ⟨hcp, hbp⟩ := HSP.out (by trivial) (by trivial)
  obtain ⟨hcq, hbq⟩ := HSQ.out (by trivial) (by trivial)
  have HBP := mkHid hbp
  have HBQ := mkHid hbq
  have HCP := mkHid hcp
  have HCQ := mkHid hcq
  clear HSP HSQ hcp hbp hcq hbq
  have HPR := mkHid (fun W (hW : Below w.heap.size w W) => print_any W B [97] p (fun g => g < W.heap.size) [.int .i64 q0, .string q1, .string q2, .int .i64 q3, .slice qa qn qc] (HG.out W hW).tab (HG.out W hW).pow (by simp) (by simp) HBP.out (Nat.le_trans HCP.out (by omega)) ((HPC.out W hW).mono (fun g _ hg => hg)) (fun g hg => hg))
  have HPS := mkHid (fun W (hW : Below w.heap.size w W) => print_any W B [97] q (fun g => g < W.heap.size) [.int .i64 r0, .string r1, .string r2, .int .i64 r3, .slice ra rn rc] (HG.out W hW).tab (HG.out W hW).pow (by simp) (by simp) HBQ.out (Nat.le_trans HCQ.out (by omega)) ((HQC.out W hW).mono (fun g _ hg => hg)) (fun g hg => hg))
  have hya : strN [97] = ⟨#[97]⟩ := rfl
  rw [hya] at HPR HPS
  clear hya
  go_upto_region 4 with (fail)
  go_wp2_with ((refine wpList_load_row rfl 25 (.tmp 2) rfl w.heap.size ?la2 25 #[.int .i64 q0, .string q1, .string q2, .int .i64 q3, .slice qa qn qc] (0, 0) _ X6.out Tryz.underlying25 rfl (inf_pred _ rfl) ?_; (case la2 => rfl)))
  refine (HPR.out w6 B6.out).mono ?_
  obtain ⟨pr, hpr⟩ : ∃ pr, prnP [97] p = pr := ⟨_, rfl⟩
  rw [hpr]
  have HQP := mkHid hpr
  clear hpr HPR
  rintro e w7 ⟨rfl, b7⟩
  have B7 := mkHid (B6.out.trans (b7.mono B6.out.size))
  have X7 := mkHid (X6.out.step b7)
  have Y7 := mkHid (Y6.out.step b7)
  clear b7 X6 Y6 B6
  cases pr with
  | none =>
    unfold prnV
    go_upto_region 5 with (fail)
    go_wp2_with ((refine wpList_load_row rfl 25 (.tmp 3) rfl (w.heap.size + 1) ?la5 25 #[.int .i64 r0, .string r1, .string r2, .int .i64 r3, .slice ra rn rc] (0, 0) _ Y7.out Tryz.underlying25 rfl (inf_pred _ rfl) ?_; (case la5 => rfl)))
    refine (HPS.out w7 B7.out).mono ?_
    rintro e w8 ⟨rfl, b8⟩
    have B8 := mkHid (B7.out.trans (b8.mono B7.out.size))
    generalize prnP [97] q = prq at *
    cases prq <;> unfold prnV <;> go_wp2 <;> go_ret <;> exact ⟨rfl, B8.out⟩
  | some s =>
  rw [show prnV (some s) = .tuple #[.string (strN s), .bool true] from rfl]
  go_upto_region 5 with (fail)
  go_wp2_with ((refine wpList_load_row rfl 25 (.tmp 3) rfl (w.heap.size + 1) ?la6 25 #[.int .i64 r0, .string r1, .string r2, .int .i64 r3, .slice ra rn rc] (0, 0) _ Y7.out Tryz.underlying25 rfl (inf_pred _ rfl) ?_; (case la6 => rfl)))
  refine (HPS.out w7 B7.out).mono ?_
  obtain ⟨pr, hpr⟩ : ∃ pr, prnP [97] q = pr := ⟨_, rfl⟩
  rw [hpr]
  have HQQ := mkHid hpr
  clear hpr HPS
  rintro e w8 ⟨rfl, b8⟩
  have B8 := mkHid (B7.out.trans (b8.mono B7.out.size))
  have X8 := mkHid (X7.out.step b8)
  have Y8 := mkHid (Y7.out.step b8)
  clear b8 X7 Y7 B7
  cases pr with
  | none =>
    unfold prnV
    go_wp2
    go_ret
    exact ⟨rfl, B8.out⟩
  | some t =>
  have HTX := mkHid (texts_of HQP.out HQQ.out)
  have HVQ : Hid (validP q = true) := mkHid (parse_print HQQ.out).2.2.1
  have HBS := mkHid (fun W => body_any s W (by have := (parse_print HQP.out).2.1; omega))
  have HBT := mkHid (fun W => body_any t W (by have := (parse_print HQQ.out).2.1; omega))
  obtain ⟨J, hJ⟩ : ∃ J, bodyP s = J := ⟨_, rfl⟩
  obtain ⟨K, hK⟩ : ∃ K, bodyP t = K := ⟨_, rfl⟩
  rw [hJ] at HTX HBS
  rw [hK] at HTX HBT
  clear hJ hK
  have hzs := strN_size s
  have hzt := strN_size t
  have HLS := mkHid (parse_print HQP.out).2.1
  have HLT := mkHid (parse_print HQQ.out).2.1
  clear HQP HQQ
  generalize s.length = ls at *
  generalize t.length = lt at *
  rw [show prnV (some t) = .tuple #[.string (strN t), .bool true] from rfl]
  generalize strN s = ys at *
  generalize strN t = yt at *
  by_cases hbig : 3800 < ls + lt
  · have hbig' : (3800 : Int) < (ls : Int) + (lt : Int) := by omega
    have hl1 := HLS.out
    have hl2 := HLT.out
    have hwr : IntKind.i64.wrap ((ls : Int) + (lt : Int)) = (ls : Int) + (lt : Int) := IntWalk.i64_in _ (by omega)
    go_wp2
    go_ret
    exact ⟨rfl, B8.out⟩
  · have hbl : ls + lt ≤ 3800 := by omega
    have hbig' : ¬ (3800 : Int) < (ls : Int) + (lt : Int) := by omega
    have hwr : IntKind.i64.wrap ((ls : Int) + (lt : Int)) = (ls : Int) + (lt : Int) := IntWalk.i64_in _ (by omega)
    clear hbig
    have lJ := HTX.out.lenJ
    have lK := HTX.out.lenK
    have cp := HCP.out
    have cq := HCQ.out
    have hvq := HVQ.out
    have d1 : (⟨#[40, 32]⟩ : ByteArray) ++ strN J = strN ([40, 32] ++ J) := strN_append [40, 32] J
    have z1 : ¬ 9223372036854775807 < 2 + (strN J).size := by simp only [strN_size, List.length_append, parX_len, List.length_cons, List.length_nil]; omega
    have d2 : strN ([40, 32] ++ J) ++ (⟨#[32, 41]⟩ : ByteArray) = strN (parX J) := strN_append ([40, 32] ++ J) [32, 41]
    have z2 : ¬ 9223372036854775807 < (strN ([40, 32] ++ J)).size + 2 := by simp only [strN_size, List.length_append, parX_len, List.length_cons, List.length_nil]; omega
    have d3 : (⟨#[40, 32]⟩ : ByteArray) ++ strN K = strN ([40, 32] ++ K) := strN_append [40, 32] K
    have z3 : ¬ 9223372036854775807 < 2 + (strN K).size := by simp only [strN_size, List.length_append, parX_len, List.length_cons, List.length_nil]; omega
    have d4 : strN ([40, 32] ++ K) ++ (⟨#[32, 41]⟩ : ByteArray) = strN (parX K) := strN_append ([40, 32] ++ K) [32, 41]
    have z4 : ¬ 9223372036854775807 < (strN ([40, 32] ++ K)).size + 2 := by simp only [strN_size, List.length_append, parX_len, List.length_cons, List.length_nil]; omega
    have d5 : strN (parX J) ++ (⟨#[32, 97, 110, 100, 32]⟩ : ByteArray) = strN ((parX J) ++ [32, 97, 110, 100, 32]) := strN_append (parX J) [32, 97, 110, 100, 32]
    have z5 : ¬ 9223372036854775807 < (strN (parX J)).size + 5 := by simp only [strN_size, List.length_append, parX_len, List.length_cons, List.length_nil]; omega
    have d6 : strN ((parX J) ++ [32, 97, 110, 100, 32]) ++ strN (parX K) = strN (((parX J) ++ [32, 97, 110, 100, 32]) ++ (parX K)) := strN_append ((parX J) ++ [32, 97, 110, 100, 32]) (parX K)
    have z6 : ¬ 9223372036854775807 < (strN ((parX J) ++ [32, 97, 110, 100, 32])).size + (strN (parX K)).size := by simp only [strN_size, List.length_append, parX_len, List.length_cons, List.length_nil]; omega
    have d7 : strN (parX J) ++ (⟨#[32, 111, 114, 32, 110, 111, 116, 32]⟩ : ByteArray) = strN ((parX J) ++ [32, 111, 114, 32, 110, 111, 116, 32]) := strN_append (parX J) [32, 111, 114, 32, 110, 111, 116, 32]
    have z7 : ¬ 9223372036854775807 < (strN (parX J)).size + 8 := by simp only [strN_size, List.length_append, parX_len, List.length_cons, List.length_nil]; omega
    have d8 : strN ((parX J) ++ [32, 111, 114, 32, 110, 111, 116, 32]) ++ strN (parX K) = strN (((parX J) ++ [32, 111, 114, 32, 110, 111, 116, 32]) ++ (parX K)) := strN_append ((parX J) ++ [32, 111, 114, 32, 110, 111, 116, 32]) (parX K)
    have z8 : ¬ 9223372036854775807 < (strN ((parX J) ++ [32, 111, 114, 32, 110, 111, 116, 32])).size + (strN (parX K)).size := by simp only [strN_size, List.length_append, parX_len, List.length_cons, List.length_nil]; omega
    have d9 : strN (((parX J) ++ [32, 111, 114, 32, 110, 111, 116, 32]) ++ (parX K)) ++ (⟨#[32, 111, 114, 32]⟩ : ByteArray) = strN ((((parX J) ++ [32, 111, 114, 32, 110, 111, 116, 32]) ++ (parX K)) ++ [32, 111, 114, 32]) := strN_append (((parX J) ++ [32, 111, 114, 32, 110, 111, 116, 32]) ++ (parX K)) [32, 111, 114, 32]
    have z9 : ¬ 9223372036854775807 < (strN (((parX J) ++ [32, 111, 114, 32, 110, 111, 116, 32]) ++ (parX K))).size + 4 := by simp only [strN_size, List.length_append, parX_len, List.length_cons, List.length_nil]; omega
    have d10 : strN ((((parX J) ++ [32, 111, 114, 32, 110, 111, 116, 32]) ++ (parX K)) ++ [32, 111, 114, 32]) ++ strN (parX J) = strN (((((parX J) ++ [32, 111, 114, 32, 110, 111, 116, 32]) ++ (parX K)) ++ [32, 111, 114, 32]) ++ (parX J)) := strN_append ((((parX J) ++ [32, 111, 114, 32, 110, 111, 116, 32]) ++ (parX K)) ++ [32, 111, 114, 32]) (parX J)
    have z10 : ¬ 9223372036854775807 < (strN ((((parX J) ++ [32, 111, 114, 32, 110, 111, 116, 32]) ++ (parX K)) ++ [32, 111, 114, 32])).size + (strN (parX J)).size := by simp only [strN_size, List.length_append, parX_len, List.length_cons, List.length_nil]; omega
    have d11 : (⟨#[97, 116, 32, 108, 101, 97, 115, 116, 32, 50, 32, 111, 102, 32, 40, 32]⟩ : ByteArray) ++ strN J = strN ([97, 116, 32, 108, 101, 97, 115, 116, 32, 50, 32, 111, 102, 32, 40, 32] ++ J) := strN_append [97, 116, 32, 108, 101, 97, 115, 116, 32, 50, 32, 111, 102, 32, 40, 32] J
    have z11 : ¬ 9223372036854775807 < 16 + (strN J).size := by simp only [strN_size, List.length_append, parX_len, List.length_cons, List.length_nil]; omega
    have d12 : strN ([97, 116, 32, 108, 101, 97, 115, 116, 32, 50, 32, 111, 102, 32, 40, 32] ++ J) ++ (⟨#[32, 44, 32]⟩ : ByteArray) = strN (([97, 116, 32, 108, 101, 97, 115, 116, 32, 50, 32, 111, 102, 32, 40, 32] ++ J) ++ [32, 44, 32]) := strN_append ([97, 116, 32, 108, 101, 97, 115, 116, 32, 50, 32, 111, 102, 32, 40, 32] ++ J) [32, 44, 32]
    have z12 : ¬ 9223372036854775807 < (strN ([97, 116, 32, 108, 101, 97, 115, 116, 32, 50, 32, 111, 102, 32, 40, 32] ++ J)).size + 3 := by simp only [strN_size, List.length_append, parX_len, List.length_cons, List.length_nil]; omega
    have d13 : strN (([97, 116, 32, 108, 101, 97, 115, 116, 32, 50, 32, 111, 102, 32, 40, 32] ++ J) ++ [32, 44, 32]) ++ strN (parX K) = strN ((([97, 116, 32, 108, 101, 97, 115, 116, 32, 50, 32, 111, 102, 32, 40, 32] ++ J) ++ [32, 44, 32]) ++ (parX K)) := strN_append (([97, 116, 32, 108, 101, 97, 115, 116, 32, 50, 32, 111, 102, 32, 40, 32] ++ J) ++ [32, 44, 32]) (parX K)
    have z13 : ¬ 9223372036854775807 < (strN (([97, 116, 32, 108, 101, 97, 115, 116, 32, 50, 32, 111, 102, 32, 40, 32] ++ J) ++ [32, 44, 32])).size + (strN (parX K)).size := by simp only [strN_size, List.length_append, parX_len, List.length_cons, List.length_nil]; omega
    have d14 : strN ((([97, 116, 32, 108, 101, 97, 115, 116, 32, 50, 32, 111, 102, 32, 40, 32] ++ J) ++ [32, 44, 32]) ++ (parX K)) ++ (⟨#[32, 41]⟩ : ByteArray) = strN (((([97, 116, 32, 108, 101, 97, 115, 116, 32, 50, 32, 111, 102, 32, 40, 32] ++ J) ++ [32, 44, 32]) ++ (parX K)) ++ [32, 41]) := strN_append ((([97, 116, 32, 108, 101, 97, 115, 116, 32, 50, 32, 111, 102, 32, 40, 32] ++ J) ++ [32, 44, 32]) ++ (parX K)) [32, 41]
    have z14 : ¬ 9223372036854775807 < (strN ((([97, 116, 32, 108, 101, 97, 115, 116, 32, 50, 32, 111, 102, 32, 40, 32] ++ J) ++ [32, 44, 32]) ++ (parX K))).size + 2 := by simp only [strN_size, List.length_append, parX_len, List.length_cons, List.length_nil]; omega
    have d15 : (⟨#[32]⟩ : ByteArray) ++ strN (parX J) = strN ([32] ++ (parX J)) := strN_append [32] (parX J)
    have z15 : ¬ 9223372036854775807 < 1 + (strN (parX J)).size := by simp only [strN_size, List.length_append, parX_len, List.length_cons, List.length_nil]; omega
    have d16 : strN ([32] ++ (parX J)) ++ (⟨#[32]⟩ : ByteArray) = strN (([32] ++ (parX J)) ++ [32]) := strN_append ([32] ++ (parX J)) [32]
    have z16 : ¬ 9223372036854775807 < (strN ([32] ++ (parX J))).size + 1 := by simp only [strN_size, List.length_append, parX_len, List.length_cons, List.length_nil]; omega
    have d17 : (⟨#[110, 111, 116, 32, 110, 111, 116, 32]⟩ : ByteArray) ++ strN (parX K) = strN ([110, 111, 116, 32, 110, 111, 116, 32] ++ (parX K)) := strN_append [110, 111, 116, 32, 110, 111, 116, 32] (parX K)
    have z17 : ¬ 9223372036854775807 < 8 + (strN (parX K)).size := by simp only [strN_size, List.length_append, parX_len, List.length_cons, List.length_nil]; omega
    have hbyHMA : ∀ y ∈ ((parX J) ++ [32, 97, 110, 100, 32]) ++ (parX K), y < 256 := (byt_app (byt_app (parX_byt HTX.out.bytJ) (by decide)) (parX_byt HTX.out.bytK))
    have hbyHMO : ∀ y ∈ ((((parX J) ++ [32, 111, 114, 32, 110, 111, 116, 32]) ++ (parX K)) ++ [32, 111, 114, 32]) ++ (parX J), y < 256 := (byt_app (byt_app (byt_app (byt_app (parX_byt HTX.out.bytJ) (by decide)) (parX_byt HTX.out.bytK)) (by decide)) (parX_byt HTX.out.bytJ))
    have hbyHME : ∀ y ∈ ((([97, 116, 32, 108, 101, 97, 115, 116, 32, 50, 32, 111, 102, 32, 40, 32] ++ J) ++ [32, 44, 32]) ++ (parX K)) ++ [32, 41], y < 256 := (byt_app (byt_app (byt_app (byt_app (by decide) HTX.out.bytJ) (by decide)) (parX_byt HTX.out.bytK)) (by decide))
    have hbyHMS : ∀ y ∈ ([32] ++ (parX J)) ++ [32], y < 256 := (byt_app (byt_app (by decide) (parX_byt HTX.out.bytJ)) (by decide))
    have hbyHMN : ∀ y ∈ [110, 111, 116, 32, 110, 111, 116, 32] ++ (parX K), y < 256 := (byt_app (by decide) (parX_byt HTX.out.bytK))
    have HMA := mkHid (fun W vs (hW : Below w.heap.size w W) (hp : PredC W (fun _ => True) (.mk 1 [] [] 0 [p, q]) vs) => meant_any (((parX J) ++ [32, 97, 110, 100, 32]) ++ (parX K)) (.mk 1 [] [] 0 [p, q]) HTX.out.all (by rw [cntP, cntL, cntL, cntL]; omega) (byt_all HBP.out HBQ.out 1 0) (by simp only [List.length_append, parX_len, List.length_cons, List.length_nil]; omega) hbyHMA W _ vs B (HG.out W hW) hp)
    have HMO := mkHid (fun W vs (hW : Below w.heap.size w W) (hp : PredC W (fun _ => True) (.mk 2 [] [] 0 [p, negP q, p]) vs) => meant_any (((((parX J) ++ [32, 111, 114, 32, 110, 111, 116, 32]) ++ (parX K)) ++ [32, 111, 114, 32]) ++ (parX J)) (.mk 2 [] [] 0 [p, negP q, p]) HTX.out.some (by rw [cntP, cntL, cntL, cntL, cntL, neg_cnt q (valid_form hvq)]; omega) (byt_three HBP.out (byt_form _ (valid_form (neg_valid q hvq))) HBP.out 2 0) (by simp only [List.length_append, parX_len, List.length_cons, List.length_nil]; omega) hbyHMO W _ vs B (HG.out W hW) hp)
    have HME := mkHid (fun W vs (hW : Below w.heap.size w W) (hp : PredC W (fun _ => True) (.mk 3 [] [] 2 [p, q]) vs) => meant_any (((([97, 116, 32, 108, 101, 97, 115, 116, 32, 50, 32, 111, 102, 32, 40, 32] ++ J) ++ [32, 44, 32]) ++ (parX K)) ++ [32, 41]) (.mk 3 [] [] 2 [p, q]) HTX.out.least (by rw [cntP, cntL, cntL, cntL]; omega) (byt_all HBP.out HBQ.out 3 2) (by simp only [List.length_append, parX_len, List.length_cons, List.length_nil]; omega) hbyHME W _ vs B (HG.out W hW) hp)
    have HMS := mkHid (fun W vs (hW : Below w.heap.size w W) (hp : PredC W (fun _ => True) p vs) => meant_any (([32] ++ (parX J)) ++ [32]) p HTX.out.par (by omega) HBP.out (by simp only [List.length_append, parX_len, List.length_cons, List.length_nil]; omega) hbyHMS W _ vs B (HG.out W hW) hp)
    have HMN := mkHid (fun W vs (hW : Below w.heap.size w W) (hp : PredC W (fun _ => True) q vs) => meant_any ([110, 111, 116, 32, 110, 111, 116, 32] ++ (parX K)) q HTX.out.nots (by omega) HBQ.out (by simp only [List.length_append, parX_len, List.length_cons, List.length_nil]; omega) hbyHMN W _ vs B (HG.out W hW) hp)
    clear lJ lK cp cq hvq hbyHMA hbyHMO hbyHME hbyHMS hbyHMN
    generalize strN J = S0 at *
    generalize strN K = S1 at *
    generalize strN ([40, 32] ++ J) = S2 at *
    generalize strN (parX J) = S3 at *
    generalize strN ([40, 32] ++ K) = S4 at *
    generalize strN (parX K) = S5 at *
    generalize strN ((parX J) ++ [32, 97, 110, 100, 32]) = S6 at *
    generalize strN (((parX J) ++ [32, 97, 110, 100, 32]) ++ (parX K)) = S7 at *
    generalize strN ((parX J) ++ [32, 111, 114, 32, 110, 111, 116, 32]) = S8 at *
    generalize strN (((parX J) ++ [32, 111, 114, 32, 110, 111, 116, 32]) ++ (parX K)) = S9 at *
    generalize strN ((((parX J) ++ [32, 111, 114, 32, 110, 111, 116, 32]) ++ (parX K)) ++ [32, 111, 114, 32]) = S10 at *
    generalize strN (((((parX J) ++ [32, 111, 114, 32, 110, 111, 116, 32]) ++ (parX K)) ++ [32, 111, 114, 32]) ++ (parX J)) = S11 at *
    generalize strN ([97, 116, 32, 108, 101, 97, 115, 116, 32, 50, 32, 111, 102, 32, 40, 32] ++ J) = S12 at *
    generalize strN (([97, 116, 32, 108, 101, 97, 115, 116, 32, 50, 32, 111, 102, 32, 40, 32] ++ J) ++ [32, 44, 32]) = S13 at *
    generalize strN ((([97, 116, 32, 108, 101, 97, 115, 116, 32, 50, 32, 111, 102, 32, 40, 32] ++ J) ++ [32, 44, 32]) ++ (parX K)) = S14 at *
    generalize strN (((([97, 116, 32, 108, 101, 97, 115, 116, 32, 50, 32, 111, 102, 32, 40, 32] ++ J) ++ [32, 44, 32]) ++ (parX K)) ++ [32, 41]) = S15 at *
    generalize strN ([32] ++ (parX J)) = S16 at *
    generalize strN (([32] ++ (parX J)) ++ [32]) = S17 at *
    generalize strN ([110, 111, 116, 32, 110, 111, 116, 32] ++ (parX K)) = S18 at *
    go_upto_region 8 with (fail)
    go_wp2_with fail
    refine (HBS.out w8).mono ?_
    rintro e w' ⟨rfl, rfl⟩
    go_upto_region 9 with (fail)
    go_wp2_with fail
    refine (HBT.out w8).mono ?_
    rintro e w' ⟨rfl, rfl⟩
    go_upto_region 10 with (fail)
    go_wp2_with (first | ((refine wpList_load_row rfl 25 (.tmp 2) rfl w.heap.size ?la3 25 #[.int .i64 q0, .string q1, .string q2, .int .i64 q3, .slice qa qn qc] (0, 0) _ X8.out Tryz.underlying25 rfl (inf_pred _ rfl) ?_; (case la3 => rfl))) | ((refine wpList_load_row rfl 25 (.tmp 3) rfl (w.heap.size + 1) ?la7 25 #[.int .i64 r0, .string r1, .string r2, .int .i64 r3, .slice ra rn rc] (0, 0) _ Y8.out Tryz.underlying25 rfl (inf_pred _ rfl) ?_; (case la7 => rfl))))
    have hk := (Below.refl w8.heap.size w8).alloc (Nat.le_refl _) (.cells #[.int .i64 q0, .string q1, .string q2, .int .i64 q3, .slice qa qn qc, .int .i64 r0, .string r1, .string r2, .int .i64 r3, .slice ra rn rc] 25)
    have hb10 := (Below.refl (w8.alloc (.cells #[.int .i64 q0, .string q1, .string q2, .int .i64 q3, .slice qa qn qc, .int .i64 r0, .string r1, .string r2, .int .i64 r3, .slice ra rn rc] 25)).heap.size (w8.alloc (.cells #[.int .i64 q0, .string q1, .string q2, .int .i64 q3, .slice qa qn qc, .int .i64 r0, .string r1, .string r2, .int .i64 r3, .slice ra rn rc] 25))).alloc (Nat.le_refl _) (.cells #[.int .i64 1, .string ⟨#[]⟩, .string ⟨#[]⟩, .int .i64 0, .slice (some ⟨w8.heap.size, 0, none⟩) 2 2] 25)
    have PA := mkHid ((predC_new w8 (fun _ => True) trivial 1 0 [p, q] [[.int .i64 q0, .string q1, .string q2, .int .i64 q3, .slice qa qn qc], [.int .i64 r0, .string r1, .string r2, .int .i64 r3, .slice ra rn rc]] #[.int .i64 q0, .string q1, .string q2, .int .i64 q3, .slice qa qn qc, .int .i64 r0, .string r1, .string r2, .int .i64 r3, .slice ra rn rc] 25 rfl rfl (fun i x vs h1 h2 => by
      match i, h1, h2 with
      | 0, h1, h2 =>
        obtain rfl := Option.some.inj h1
        obtain rfl := Option.some.inj h2
        exact (HPC.out w8 B8.out).mono (fun _ _ _ => trivial)
      | 1, h1, h2 =>
        obtain rfl := Option.some.inj h1
        obtain rfl := Option.some.inj h2
        exact (HQC.out w8 B8.out).mono (fun _ _ _ => trivial)
      | i + 2, h1, h2 => simp at h1)).below hb10)
    have MA : Hid (HasV ((w8.alloc (.cells #[.int .i64 q0, .string q1, .string q2, .int .i64 q3, .slice qa qn qc, .int .i64 r0, .string r1, .string r2, .int .i64 r3, .slice ra rn rc] 25)).alloc (.cells #[.int .i64 1, .string ⟨#[]⟩, .string ⟨#[]⟩, .int .i64 0, .slice (some ⟨w8.heap.size, 0, none⟩) 2 2] 25)) (w8.alloc (.cells #[.int .i64 q0, .string q1, .string q2, .int .i64 q3, .slice qa qn qc, .int .i64 r0, .string r1, .string r2, .int .i64 r3, .slice ra rn rc] 25)).heap.size 25 [.int .i64 1, .string ⟨#[]⟩, .string ⟨#[]⟩, .int .i64 0, .slice (some ⟨w8.heap.size, 0, none⟩) 2 2]) := mkHid (heap_alloc_new _ _)
    have hsz8 : (w8.alloc (.cells #[.int .i64 q0, .string q1, .string q2, .int .i64 q3, .slice qa qn qc, .int .i64 r0, .string r1, .string r2, .int .i64 r3, .slice ra rn rc] 25)).heap.size = w8.heap.size + 1 := by simp
    rw [hsz8] at MA
    have XA := mkHid ((X8.out.step hk).step hb10)
    have YA := mkHid ((Y8.out.step hk).step hb10)
    have BA := mkHid ((B8.out.trans (hk.mono B8.out.size)).trans (hb10.mono (Nat.le_trans B8.out.size hk.size)))
    clear hk hb10 hsz8 B8 X8 Y8
    go_upto_region 11 with (fail)
    generalize (w8.alloc (.cells #[.int .i64 q0, .string q1, .string q2, .int .i64 q3, .slice qa qn qc, .int .i64 r0, .string r1, .string r2, .int .i64 r3, .slice ra rn rc] 25)).alloc (.cells #[.int .i64 1, .string ⟨#[]⟩, .string ⟨#[]⟩, .int .i64 0, .slice (some ⟨w8.heap.size, 0, none⟩) 2 2] 25) = wa at *
    generalize w8.heap.size + 1 = A1 at *
    generalize w8.heap.size = G1 at *
    refine wp_region_midG 7 (jF (.agg #[.int .i64 q0, .string q1, .string q2, .int .i64 q3, .slice qa qn qc]) (.agg #[.int .i64 r0, .string r1, .string r2, .int .i64 r3, .slice ra rn rc]) q (.mk 2 [] [] 0 [p, negP q, p])) (jI wa.heap.size) (jS wa.heap.size) none (by kernel_rfl) rfl ?hi (jF_step _ _ _ _ _) (jI_step _) (hdstT_of (by kernel_rfl)) (hinT_of (by kernel_rfl)) (hacyc_of (by kernel_rfl)) (hlast_of (by kernel_rfl)) ?hs ?he
    case hi => rfl
    case he =>
      intro g listed a' w' hI H hall
      have e6 : jF (.agg #[.int .i64 q0, .string q1, .string q2, .int .i64 q3, .slice qa qn qc]) (.agg #[.int .i64 r0, .string r1, .string r2, .int .i64 r3, .slice ra rn rc]) q (.mk 2 [] [] 0 [p, negP q, p]) g 6 w' (a'.tmps.getD 13 undef) := H.done 6 _ 13 rfl (hall 6 (by decide)) rfl
      have e5 : jF (.agg #[.int .i64 q0, .string q1, .string q2, .int .i64 q3, .slice qa qn qc]) (.agg #[.int .i64 r0, .string r1, .string r2, .int .i64 r3, .slice ra rn rc]) q (.mk 2 [] [] 0 [p, negP q, p]) g 5 w' (a'.tmps.getD 77 undef) := H.done 5 _ 77 rfl (hall 5 (by decide)) rfl
      obtain ⟨A2, rfl, hv6, hA2⟩ := e6
      obtain ⟨x2, hv5, hP2⟩ := e5
      have hI2 : wa.heap.size ≤ A2 := hI.2.1
      have hb := H.below
      have s2 := H.same 2 (nodst_of (by kernel_rfl))
      have s3 := H.same 3 (nodst_of (by kernel_rfl))
      have s5 := H.same 5 (nodst_of (by kernel_rfl))
      have s6 := H.same 6 (nodst_of (by kernel_rfl))
      have s10 := H.same 10 (nodst_of (by kernel_rfl))
      have s11 := H.same 11 (nodst_of (by kernel_rfl))
      have s12 := H.same 12 (nodst_of (by kernel_rfl))
      have hdf := H.defers
      have hts := H.tsize
      clear H hall hI
      obtain ⟨t', df⟩ := a'
      obtain ⟨f, rfl⟩ := arr131 t' hts
      have hdf' : df = [] := hdf
      subst hdf'
      have g13 : f 13 = .pointer (some ⟨A2, 0, none⟩) := hv6
      have g77 : f 77 = .agg (kidN x2).toArray := hv5
      have g2 : f 2 = .pointer (some ⟨w.heap.size, 0, none⟩) := s2
      have g3 : f 3 = .pointer (some ⟨w.heap.size + 1, 0, none⟩) := s3
      have g5 : f 5 = .bool true := s5
      have g6 : f 6 = .string ys := s6
      have g10 : f 10 = .string S3 := s10
      have g11 : f 11 = .string S5 := s11
      have g12 : f 12 = .pointer (some ⟨A1, 0, none⟩) := s12
      rw [g13, g77, g2, g3, g5, g6, g10, g11, g12]
      clear g13 g77 hv6 hv5 hdf hts g2 s2 g3 s3 g5 s5 g6 s6 g10 s10 g11 s11 g12 s12
      unfold kidN at *
      refine wpOp_list rfl ?_
      refine wpList_store_abs rfl 25 (.tmp 13) (.tmp 77) rfl A2 #[.int .i64 2, .string ⟨#[]⟩, .string ⟨#[]⟩, .int .i64 0, .slice (some ⟨x2, 0, none⟩) 3 3] ?s1 ?s2 25 _ hA2 (inf_pred [.int .i64 2, .string ⟨#[]⟩, .string ⟨#[]⟩, .int .i64 0, .slice (some ⟨x2, 0, none⟩) 3 3] rfl) rfl (by simp [Value.oneCell']) ?_
      case s1 => rfl
      case s2 => rfl
      intro w9 s9 u9
      have S9 : Hid (HasV w9 A2 25 [.int .i64 2, .string ⟨#[]⟩, .string ⟨#[]⟩, .int .i64 0, .slice (some ⟨x2, 0, none⟩) 3 3]) := mkHid s9
      have U9 := mkHid u9
      clear s9 u9
      go_wp2_with fail
      refine postOf_normal ?_
      have hb9 : Below wa.heap.size wa w9 := U9.out.below hb hI2
      have X9 := mkHid (XA.out.step hb9)
      have Y9 := mkHid (YA.out.step hb9)
      have M9 := mkHid (MA.out.step hb9)
      have PA9 := mkHid (PA.out.below hb9)
      have B9 := mkHid (BA.out.trans (hb9.mono BA.out.size))
      have P29 : Hid (PredC w9 (fun _ => True) (.mk 2 [] [] 0 [p, negP q, p]) [.int .i64 2, .string ⟨#[]⟩, .string ⟨#[]⟩, .int .i64 0, .slice (some ⟨x2, 0, none⟩) 3 3]) := mkHid (PredC.keep (fun x hx _ => U9.out.block x hx) (by rw [U9.out.size]; exact Nat.le_refl _) (fun _ _ _ => trivial) _ _ hP2)
      clear hb9 XA YA MA PA BA U9 hP2 hA2 hI2 hb
      have hk := (Below.refl w9.heap.size w9).alloc (Nat.le_refl _) (.cells #[.int .i64 q0, .string q1, .string q2, .int .i64 q3, .slice qa qn qc, .int .i64 r0, .string r1, .string r2, .int .i64 r3, .slice ra rn rc] 25)
      have hb10 := (Below.refl (w9.alloc (.cells #[.int .i64 q0, .string q1, .string q2, .int .i64 q3, .slice qa qn qc, .int .i64 r0, .string r1, .string r2, .int .i64 r3, .slice ra rn rc] 25)).heap.size (w9.alloc (.cells #[.int .i64 q0, .string q1, .string q2, .int .i64 q3, .slice qa qn qc, .int .i64 r0, .string r1, .string r2, .int .i64 r3, .slice ra rn rc] 25))).alloc (Nat.le_refl _) (.cells #[.int .i64 3, .string ⟨#[]⟩, .string ⟨#[]⟩, .int .i64 2, .slice (some ⟨w9.heap.size, 0, none⟩) 2 2] 25)
      have PL := mkHid ((predC_new w9 (fun _ => True) trivial 3 2 [p, q] [[.int .i64 q0, .string q1, .string q2, .int .i64 q3, .slice qa qn qc], [.int .i64 r0, .string r1, .string r2, .int .i64 r3, .slice ra rn rc]] #[.int .i64 q0, .string q1, .string q2, .int .i64 q3, .slice qa qn qc, .int .i64 r0, .string r1, .string r2, .int .i64 r3, .slice ra rn rc] 25 rfl rfl (fun i x vs h1 h2 => by
        match i, h1, h2 with
        | 0, h1, h2 =>
          obtain rfl := Option.some.inj h1
          obtain rfl := Option.some.inj h2
          exact (HPC.out w9 B9.out).mono (fun _ _ _ => trivial)
        | 1, h1, h2 =>
          obtain rfl := Option.some.inj h1
          obtain rfl := Option.some.inj h2
          exact (HQC.out w9 B9.out).mono (fun _ _ _ => trivial)
        | i + 2, h1, h2 => simp at h1)).below hb10)
      have ML : Hid (HasV ((w9.alloc (.cells #[.int .i64 q0, .string q1, .string q2, .int .i64 q3, .slice qa qn qc, .int .i64 r0, .string r1, .string r2, .int .i64 r3, .slice ra rn rc] 25)).alloc (.cells #[.int .i64 3, .string ⟨#[]⟩, .string ⟨#[]⟩, .int .i64 2, .slice (some ⟨w9.heap.size, 0, none⟩) 2 2] 25)) (w9.alloc (.cells #[.int .i64 q0, .string q1, .string q2, .int .i64 q3, .slice qa qn qc, .int .i64 r0, .string r1, .string r2, .int .i64 r3, .slice ra rn rc] 25)).heap.size 25 [.int .i64 3, .string ⟨#[]⟩, .string ⟨#[]⟩, .int .i64 2, .slice (some ⟨w9.heap.size, 0, none⟩) 2 2]) := mkHid (heap_alloc_new _ _)
      have hsz9 : (w9.alloc (.cells #[.int .i64 q0, .string q1, .string q2, .int .i64 q3, .slice qa qn qc, .int .i64 r0, .string r1, .string r2, .int .i64 r3, .slice ra rn rc] 25)).heap.size = w9.heap.size + 1 := by simp
      rw [hsz9] at ML
      have hk2 := hk.trans (hb10.mono hk.size)
      have XB := mkHid (X9.out.step hk2)
      have YB := mkHid (Y9.out.step hk2)
      have MB := mkHid (M9.out.step hk2)
      have SB := mkHid (S9.out.step hk2)
      have PAB := mkHid (PA9.out.below hk2)
      have P2B := mkHid (P29.out.below hk2)
      have BB := mkHid (B9.out.trans (hk2.mono B9.out.size))
      clear hk hb10 hsz9 hk2 M9 S9 PA9 P29 B9
      go_upto_region 12 with (fail)
      go_wp2_with (first | ((refine wpList_load_row rfl 25 (.tmp 2) rfl w.heap.size ?la4 25 #[.int .i64 q0, .string q1, .string q2, .int .i64 q3, .slice qa qn qc] (0, 0) _ X9.out Tryz.underlying25 rfl (inf_pred _ rfl) ?_; (case la4 => rfl))) | ((refine wpList_load_row rfl 25 (.tmp 3) rfl (w.heap.size + 1) ?la8 25 #[.int .i64 r0, .string r1, .string r2, .int .i64 r3, .slice ra rn rc] (0, 0) _ Y9.out Tryz.underlying25 rfl (inf_pred _ rfl) ?_; (case la8 => rfl))) | (refine wpList_load_row rfl 25 (.tmp 12) rfl A1 ?lz1 25 #[.int .i64 1, .string ⟨#[]⟩, .string ⟨#[]⟩, .int .i64 0, .slice (some ⟨G1, 0, none⟩) 2 2] (0, 0) _ MB.out Tryz.underlying25 rfl (inf_pred _ rfl) ?_; (case lz1 => rfl)))
      clear X9 Y9
      generalize (w9.alloc (.cells #[.int .i64 q0, .string q1, .string q2, .int .i64 q3, .slice qa qn qc, .int .i64 r0, .string r1, .string r2, .int .i64 r3, .slice ra rn rc] 25)).alloc (.cells #[.int .i64 3, .string ⟨#[]⟩, .string ⟨#[]⟩, .int .i64 2, .slice (some ⟨w9.heap.size, 0, none⟩) 2 2] 25) = wb at *
      generalize w9.heap.size + 1 = A3 at *
      generalize w9.heap.size = G3 at *
      have PLB := PL
      have MLB := ML
      clear PL ML
      refine (HMA.out wb _ BB.out PAB.out).mono ?_
      rintro e wc ⟨rfl, bc⟩
      have XC := mkHid (XB.out.step bc)
      have YC := mkHid (YB.out.step bc)
      have MC := mkHid (MB.out.step bc)
      have SC := mkHid (SB.out.step bc)
      have PAC := mkHid (PAB.out.below bc)
      have P2C := mkHid (P2B.out.below bc)
      have PLC := mkHid (PLB.out.below bc)
      have MLC := mkHid (MLB.out.step bc)
      have BC := mkHid (BB.out.trans (bc.mono BB.out.size))
      clear bc XB YB MB SB PAB P2B PLB MLB BB
      clear HMA PAC MC
      by_cases h12 : ls < 1200
      · have h12' : (ls : Int) < 1200 := by omega
        clear h12
        go_wp2_with (refine wpList_load_wanted (by rfl) 25 (.tmp 13) rfl A2 (by rfl) 25 #[.int .i64 2, .string ⟨#[]⟩, .string ⟨#[]⟩, .int .i64 0, .slice (some ⟨x2, 0, none⟩) 3 3] (0, 0) _ SC.out Tryz.underlying25 rfl (inf_pred _ rfl) ?_)
        refine (HMO.out wc _ BC.out P2C.out).mono ?_
        rintro e wd ⟨rfl, bd⟩
        have XD := mkHid (XC.out.step bd)
        have YD := mkHid (YC.out.step bd)
        have PLD := mkHid (PLC.out.below bd)
        have MLD := mkHid (MLC.out.step bd)
        have BD := mkHid (BC.out.trans (bd.mono BC.out.size))
        clear bd XC YC PLC MLC BC
        clear HMO SC P2C
        go_upto_region 15 with (fail)
        obtain ⟨VV, hVV0⟩ : ∃ VV : List Value, VV = [(.bool true), (.bool true), (.string ys), (.string S0), (.string S12), (.string S13), (.string S5), (.string S14), (.string S15), (.agg #[.int .i64 3, .string ⟨#[]⟩, .string ⟨#[]⟩, .int .i64 2, .slice (some ⟨G3, 0, none⟩) 2 2]), (.bool true), (.bool true), (.bool true), (.string S3), (.string S16), (.string S17), (.agg #[.int .i64 q0, .string q1, .string q2, .int .i64 q3, .slice qa qn qc]), (.bool true), (.bool true), (.bool true), (.string S5), (.string S18), (.agg #[.int .i64 r0, .string r1, .string r2, .int .i64 r3, .slice ra rn rc]), (.bool true), (.bool true), (.bool true)] := ⟨_, rfl⟩
        have HVV := mkHid hVV0
        clear hVV0
        refine wp_region_mid (kF VV) (by kernel_rfl) (kF_step VV) (hdst_of (by kernel_rfl)) (hin_of (by kernel_rfl)) (hacyc_of (by kernel_rfl)) ?hsD ?heD
        case heD =>
          intro listed a' w' H hall
          have hdn : kF VV 25 w' (a'.tmps.getD 4 undef) := H.done 25 _ 4 rfl (hall 25 (by decide)) rfl
          have hb := mkHid H.below
          have hdf := H.defers
          have hts := H.tsize
          clear H
          obtain ⟨t', df⟩ := a'
          obtain ⟨f', rfl⟩ := arr131 t' hts
          have hdf' : df = [] := hdf
          subst hdf'
          have h4 : f' 4 = .bool true := by have : f' 4 = VV.getD 25 undef := hdn; rw [this, HVV.out]; rfl
          rw [h4]
          have BF := mkHid (BD.out.trans (hb.out.mono BD.out.size))
          clear h4 hdn hdf hts hb hall HVV
          go_wp2
          go_ret
          exact ⟨rfl, BF.out⟩
        case hsD =>
          intro i o hi listed a' w' H hl
          have hl2 := after_listed hl
          have hb := mkHid H.below
          have s2 := H.same 2 (nodst_of (by kernel_rfl))
          have s3 := H.same 3 (nodst_of (by kernel_rfl))
          have s5 := H.same 5 (nodst_of (by kernel_rfl))
          have s6 := H.same 6 (nodst_of (by kernel_rfl))
          have s10 := H.same 10 (nodst_of (by kernel_rfl))
          have s11 := H.same 11 (nodst_of (by kernel_rfl))
          have s14 := H.same 14 (nodst_of (by kernel_rfl))
          have hdn := H.done
          have hdf := H.defers
          have hts := H.tsize
          clear hl H
          obtain ⟨t', df⟩ := a'
          obtain ⟨f', rfl⟩ := arr131 t' hts
          have hdf' : df = [] := hdf
          subst hdf'
          have g2 : f' 2 = .pointer (some ⟨w.heap.size, 0, none⟩) := s2
          have g3 : f' 3 = .pointer (some ⟨w.heap.size + 1, 0, none⟩) := s3
          have g5 : f' 5 = .bool true := s5
          have g6 : f' 6 = .string ys := s6
          have g10 : f' 10 = .string S3 := s10
          have g11 : f' 11 = .string S5 := s11
          have g14 : f' 14 = .pointer (some ⟨A3, 0, none⟩) := s14
          clear s2 s3 s5 s6 s10 s11 s14 hdf hts
          rw [g2, g3, g5, g6, g10, g11, g14] at hdn ⊢
          have BW := mkHid (BD.out.trans (hb.out.mono BD.out.size))
          match i, hi with
          | 0, hi =>
            obtain rfl := Option.some.inj hi
            clear hdn hl2
            have hval : VV.getD 0 undef = .bool true := by rw [HVV.out]; rfl
            refine wpOp_list rfl ?_
            go_wp2_with fail
            exact postOf_normal ⟨_, rfl, Below.refl _ _, hval.symm⟩
          | 1, hi =>
            obtain rfl := Option.some.inj hi
            have y0 : f' 106 = .bool true := by have h : f' 106 = VV.getD 0 undef := hdn 0 _ 106 rfl (hl2 0 (by rfl)) rfl; rw [h, HVV.out]; rfl
            clear hdn hl2
            rw [y0]
            clear y0
            have hval : VV.getD 1 undef = .bool true := by rw [HVV.out]; rfl
            refine wpOp_list rfl ?_
            go_wp2_with fail
            exact postOf_normal ⟨_, rfl, Below.refl _ _, hval.symm⟩
          | 2, hi =>
            obtain rfl := Option.some.inj hi
            have y1 : f' 107 = .bool true := by have h : f' 107 = VV.getD 1 undef := hdn 1 _ 107 rfl (hl2 1 (by rfl)) rfl; rw [h, HVV.out]; rfl
            clear hdn hl2
            rw [y1]
            clear y1
            have hval : VV.getD 2 undef = .string ys := by rw [HVV.out]; rfl
            refine wpOp_list rfl ?_
            go_wp2_with fail
            exact postOf_normal ⟨_, rfl, Below.refl _ _, hval.symm⟩
          | 3, hi =>
            obtain rfl := Option.some.inj hi
            have y2 : f' 108 = .string ys := by have h : f' 108 = VV.getD 2 undef := hdn 2 _ 108 rfl (hl2 2 (by rfl)) rfl; rw [h, HVV.out]; rfl
            have y1 : f' 107 = .bool true := by have h : f' 107 = VV.getD 1 undef := hdn 1 _ 107 rfl (hl2 1 (by rfl)) rfl; rw [h, HVV.out]; rfl
            clear hdn hl2
            rw [y2, y1]
            clear y2 y1
            have hval : VV.getD 3 undef = .string S0 := by rw [HVV.out]; rfl
            refine wpOp_list rfl ?_
            go_wp2_with fail
            refine (HBS.out w').mono ?_
            rintro e w2 ⟨rfl, rfl⟩
            go_wp2_with fail
            exact postOf_normal ⟨_, rfl, Below.refl _ _, hval.symm⟩
          | 4, hi =>
            obtain rfl := Option.some.inj hi
            have y3 : f' 109 = .string S0 := by have h : f' 109 = VV.getD 3 undef := hdn 3 _ 109 rfl (hl2 3 (by rfl)) rfl; rw [h, HVV.out]; rfl
            have y1 : f' 107 = .bool true := by have h : f' 107 = VV.getD 1 undef := hdn 1 _ 107 rfl (hl2 1 (by rfl)) rfl; rw [h, HVV.out]; rfl
            clear hdn hl2
            rw [y3, y1]
            clear y3 y1
            have hval : VV.getD 4 undef = .string S12 := by rw [HVV.out]; rfl
            refine wpOp_list rfl ?_
            go_wp2_with fail
            exact postOf_normal ⟨_, rfl, Below.refl _ _, hval.symm⟩
          | 5, hi =>
            obtain rfl := Option.some.inj hi
            have y4 : f' 110 = .string S12 := by have h : f' 110 = VV.getD 4 undef := hdn 4 _ 110 rfl (hl2 4 (by rfl)) rfl; rw [h, HVV.out]; rfl
            have y1 : f' 107 = .bool true := by have h : f' 107 = VV.getD 1 undef := hdn 1 _ 107 rfl (hl2 1 (by rfl)) rfl; rw [h, HVV.out]; rfl
            clear hdn hl2
            rw [y4, y1]
            clear y4 y1
            have hval : VV.getD 5 undef = .string S13 := by rw [HVV.out]; rfl
            refine wpOp_list rfl ?_
            go_wp2_with fail
            exact postOf_normal ⟨_, rfl, Below.refl _ _, hval.symm⟩
          | 6, hi =>
            obtain rfl := Option.some.inj hi
            have y1 : f' 107 = .bool true := by have h : f' 107 = VV.getD 1 undef := hdn 1 _ 107 rfl (hl2 1 (by rfl)) rfl; rw [h, HVV.out]; rfl
            clear hdn hl2
            rw [y1]
            clear y1
            have hval : VV.getD 6 undef = .string S5 := by rw [HVV.out]; rfl
            refine wpOp_list rfl ?_
            go_wp2_with fail
            exact postOf_normal ⟨_, rfl, Below.refl _ _, hval.symm⟩
          | 7, hi =>
            obtain rfl := Option.some.inj hi
            have y5 : f' 111 = .string S13 := by have h : f' 111 = VV.getD 5 undef := hdn 5 _ 111 rfl (hl2 5 (by rfl)) rfl; rw [h, HVV.out]; rfl
            have y6 : f' 112 = .string S5 := by have h : f' 112 = VV.getD 6 undef := hdn 6 _ 112 rfl (hl2 6 (by rfl)) rfl; rw [h, HVV.out]; rfl
            have y1 : f' 107 = .bool true := by have h : f' 107 = VV.getD 1 undef := hdn 1 _ 107 rfl (hl2 1 (by rfl)) rfl; rw [h, HVV.out]; rfl
            clear hdn hl2
            rw [y5, y6, y1]
            clear y5 y6 y1
            have hval : VV.getD 7 undef = .string S14 := by rw [HVV.out]; rfl
            refine wpOp_list rfl ?_
            go_wp2_with fail
            exact postOf_normal ⟨_, rfl, Below.refl _ _, hval.symm⟩
          | 8, hi =>
            obtain rfl := Option.some.inj hi
            have y7 : f' 113 = .string S14 := by have h : f' 113 = VV.getD 7 undef := hdn 7 _ 113 rfl (hl2 7 (by rfl)) rfl; rw [h, HVV.out]; rfl
            have y1 : f' 107 = .bool true := by have h : f' 107 = VV.getD 1 undef := hdn 1 _ 107 rfl (hl2 1 (by rfl)) rfl; rw [h, HVV.out]; rfl
            clear hdn hl2
            rw [y7, y1]
            clear y7 y1
            have hval : VV.getD 8 undef = .string S15 := by rw [HVV.out]; rfl
            refine wpOp_list rfl ?_
            go_wp2_with fail
            exact postOf_normal ⟨_, rfl, Below.refl _ _, hval.symm⟩
          | 9, hi =>
            obtain rfl := Option.some.inj hi
            have y1 : f' 107 = .bool true := by have h : f' 107 = VV.getD 1 undef := hdn 1 _ 107 rfl (hl2 1 (by rfl)) rfl; rw [h, HVV.out]; rfl
            clear hdn hl2
            rw [y1]
            clear y1
            have hval : VV.getD 9 undef = .agg #[.int .i64 3, .string ⟨#[]⟩, .string ⟨#[]⟩, .int .i64 2, .slice (some ⟨G3, 0, none⟩) 2 2] := by rw [HVV.out]; rfl
            refine wpOp_list rfl ?_
            have XW := mkHid (MLD.out.step hb.out)
            go_wp2_with (refine wpList_load_wanted (by rfl) 25 (.tmp 14) rfl A3 (by rfl) 25 #[.int .i64 3, .string ⟨#[]⟩, .string ⟨#[]⟩, .int .i64 2, .slice (some ⟨G3, 0, none⟩) 2 2] (0, 0) _ XW.out Tryz.underlying25 rfl (inf_pred _ rfl) ?_)
            exact postOf_normal ⟨_, rfl, Below.refl _ _, hval.symm⟩
          | 10, hi =>
            obtain rfl := Option.some.inj hi
            have y8 : f' 114 = .string S15 := by have h : f' 114 = VV.getD 8 undef := hdn 8 _ 114 rfl (hl2 8 (by rfl)) rfl; rw [h, HVV.out]; rfl
            have y9 : f' 115 = .agg #[.int .i64 3, .string ⟨#[]⟩, .string ⟨#[]⟩, .int .i64 2, .slice (some ⟨G3, 0, none⟩) 2 2] := by have h : f' 115 = VV.getD 9 undef := hdn 9 _ 115 rfl (hl2 9 (by rfl)) rfl; rw [h, HVV.out]; rfl
            have y1 : f' 107 = .bool true := by have h : f' 107 = VV.getD 1 undef := hdn 1 _ 107 rfl (hl2 1 (by rfl)) rfl; rw [h, HVV.out]; rfl
            clear hdn hl2
            rw [y8, y9, y1]
            clear y8 y9 y1
            have hval : VV.getD 10 undef = .bool true := by rw [HVV.out]; rfl
            refine wpOp_list rfl ?_
            go_wp2_with fail
            refine (HME.out w' _ BW.out (PLD.out.below hb.out)).mono ?_
            rintro e w2 ⟨rfl, b2⟩
            go_wp2_with fail
            exact postOf_normal ⟨_, rfl, b2, hval.symm⟩
          | 11, hi =>
            obtain rfl := Option.some.inj hi
            have y1 : f' 107 = .bool true := by have h : f' 107 = VV.getD 1 undef := hdn 1 _ 107 rfl (hl2 1 (by rfl)) rfl; rw [h, HVV.out]; rfl
            have y10 : f' 116 = .bool true := by have h : f' 116 = VV.getD 10 undef := hdn 10 _ 116 rfl (hl2 10 (by rfl)) rfl; rw [h, HVV.out]; rfl
            clear hdn hl2
            rw [y1, y10]
            clear y1 y10
            have hval : VV.getD 11 undef = .bool true := by rw [HVV.out]; rfl
            refine wpOp_list rfl ?_
            go_wp2_with fail
            exact postOf_normal ⟨_, rfl, Below.refl _ _, hval.symm⟩
          | 12, hi =>
            obtain rfl := Option.some.inj hi
            have y11 : f' 117 = .bool true := by have h : f' 117 = VV.getD 11 undef := hdn 11 _ 117 rfl (hl2 11 (by rfl)) rfl; rw [h, HVV.out]; rfl
            clear hdn hl2
            rw [y11]
            clear y11
            have hval : VV.getD 12 undef = .bool true := by rw [HVV.out]; rfl
            refine wpOp_list rfl ?_
            go_wp2_with fail
            exact postOf_normal ⟨_, rfl, Below.refl _ _, hval.symm⟩
          | 13, hi =>
            obtain rfl := Option.some.inj hi
            have y12 : f' 118 = .bool true := by have h : f' 118 = VV.getD 12 undef := hdn 12 _ 118 rfl (hl2 12 (by rfl)) rfl; rw [h, HVV.out]; rfl
            clear hdn hl2
            rw [y12]
            clear y12
            have hval : VV.getD 13 undef = .string S3 := by rw [HVV.out]; rfl
            refine wpOp_list rfl ?_
            go_wp2_with fail
            exact postOf_normal ⟨_, rfl, Below.refl _ _, hval.symm⟩
          | 14, hi =>
            obtain rfl := Option.some.inj hi
            have y13 : f' 119 = .string S3 := by have h : f' 119 = VV.getD 13 undef := hdn 13 _ 119 rfl (hl2 13 (by rfl)) rfl; rw [h, HVV.out]; rfl
            have y12 : f' 118 = .bool true := by have h : f' 118 = VV.getD 12 undef := hdn 12 _ 118 rfl (hl2 12 (by rfl)) rfl; rw [h, HVV.out]; rfl
            clear hdn hl2
            rw [y13, y12]
            clear y13 y12
            have hval : VV.getD 14 undef = .string S16 := by rw [HVV.out]; rfl
            refine wpOp_list rfl ?_
            go_wp2_with fail
            exact postOf_normal ⟨_, rfl, Below.refl _ _, hval.symm⟩
          | 15, hi =>
            obtain rfl := Option.some.inj hi
            have y14 : f' 120 = .string S16 := by have h : f' 120 = VV.getD 14 undef := hdn 14 _ 120 rfl (hl2 14 (by rfl)) rfl; rw [h, HVV.out]; rfl
            have y12 : f' 118 = .bool true := by have h : f' 118 = VV.getD 12 undef := hdn 12 _ 118 rfl (hl2 12 (by rfl)) rfl; rw [h, HVV.out]; rfl
            clear hdn hl2
            rw [y14, y12]
            clear y14 y12
            have hval : VV.getD 15 undef = .string S17 := by rw [HVV.out]; rfl
            refine wpOp_list rfl ?_
            go_wp2_with fail
            exact postOf_normal ⟨_, rfl, Below.refl _ _, hval.symm⟩
          | 16, hi =>
            obtain rfl := Option.some.inj hi
            have y12 : f' 118 = .bool true := by have h : f' 118 = VV.getD 12 undef := hdn 12 _ 118 rfl (hl2 12 (by rfl)) rfl; rw [h, HVV.out]; rfl
            clear hdn hl2
            rw [y12]
            clear y12
            have hval : VV.getD 16 undef = .agg #[.int .i64 q0, .string q1, .string q2, .int .i64 q3, .slice qa qn qc] := by rw [HVV.out]; rfl
            refine wpOp_list rfl ?_
            have XW := mkHid (XD.out.step hb.out)
            go_wp2_with (refine wpList_load_wanted (by rfl) 25 (.tmp 2) rfl w.heap.size (by rfl) 25 #[.int .i64 q0, .string q1, .string q2, .int .i64 q3, .slice qa qn qc] (0, 0) _ XW.out Tryz.underlying25 rfl (inf_pred _ rfl) ?_)
            exact postOf_normal ⟨_, rfl, Below.refl _ _, hval.symm⟩
          | 17, hi =>
            obtain rfl := Option.some.inj hi
            have y15 : f' 121 = .string S17 := by have h : f' 121 = VV.getD 15 undef := hdn 15 _ 121 rfl (hl2 15 (by rfl)) rfl; rw [h, HVV.out]; rfl
            have y16 : f' 122 = .agg #[.int .i64 q0, .string q1, .string q2, .int .i64 q3, .slice qa qn qc] := by have h : f' 122 = VV.getD 16 undef := hdn 16 _ 122 rfl (hl2 16 (by rfl)) rfl; rw [h, HVV.out]; rfl
            have y12 : f' 118 = .bool true := by have h : f' 118 = VV.getD 12 undef := hdn 12 _ 118 rfl (hl2 12 (by rfl)) rfl; rw [h, HVV.out]; rfl
            clear hdn hl2
            rw [y15, y16, y12]
            clear y15 y16 y12
            have hval : VV.getD 17 undef = .bool true := by rw [HVV.out]; rfl
            refine wpOp_list rfl ?_
            go_wp2_with fail
            refine (HMS.out w' _ BW.out ((HPC.out w' BW.out).mono (fun _ _ _ => trivial))).mono ?_
            rintro e w2 ⟨rfl, b2⟩
            go_wp2_with fail
            exact postOf_normal ⟨_, rfl, b2, hval.symm⟩
          | 18, hi =>
            obtain rfl := Option.some.inj hi
            have y12 : f' 118 = .bool true := by have h : f' 118 = VV.getD 12 undef := hdn 12 _ 118 rfl (hl2 12 (by rfl)) rfl; rw [h, HVV.out]; rfl
            have y17 : f' 123 = .bool true := by have h : f' 123 = VV.getD 17 undef := hdn 17 _ 123 rfl (hl2 17 (by rfl)) rfl; rw [h, HVV.out]; rfl
            clear hdn hl2
            rw [y12, y17]
            clear y12 y17
            have hval : VV.getD 18 undef = .bool true := by rw [HVV.out]; rfl
            refine wpOp_list rfl ?_
            go_wp2_with fail
            exact postOf_normal ⟨_, rfl, Below.refl _ _, hval.symm⟩
          | 19, hi =>
            obtain rfl := Option.some.inj hi
            have y18 : f' 124 = .bool true := by have h : f' 124 = VV.getD 18 undef := hdn 18 _ 124 rfl (hl2 18 (by rfl)) rfl; rw [h, HVV.out]; rfl
            clear hdn hl2
            rw [y18]
            clear y18
            have hval : VV.getD 19 undef = .bool true := by rw [HVV.out]; rfl
            refine wpOp_list rfl ?_
            go_wp2_with fail
            exact postOf_normal ⟨_, rfl, Below.refl _ _, hval.symm⟩
          | 20, hi =>
            obtain rfl := Option.some.inj hi
            have y19 : f' 125 = .bool true := by have h : f' 125 = VV.getD 19 undef := hdn 19 _ 125 rfl (hl2 19 (by rfl)) rfl; rw [h, HVV.out]; rfl
            clear hdn hl2
            rw [y19]
            clear y19
            have hval : VV.getD 20 undef = .string S5 := by rw [HVV.out]; rfl
            refine wpOp_list rfl ?_
            go_wp2_with fail
            exact postOf_normal ⟨_, rfl, Below.refl _ _, hval.symm⟩
          | 21, hi =>
            obtain rfl := Option.some.inj hi
            have y20 : f' 126 = .string S5 := by have h : f' 126 = VV.getD 20 undef := hdn 20 _ 126 rfl (hl2 20 (by rfl)) rfl; rw [h, HVV.out]; rfl
            have y19 : f' 125 = .bool true := by have h : f' 125 = VV.getD 19 undef := hdn 19 _ 125 rfl (hl2 19 (by rfl)) rfl; rw [h, HVV.out]; rfl
            clear hdn hl2
            rw [y20, y19]
            clear y20 y19
            have hval : VV.getD 21 undef = .string S18 := by rw [HVV.out]; rfl
            refine wpOp_list rfl ?_
            go_wp2_with fail
            exact postOf_normal ⟨_, rfl, Below.refl _ _, hval.symm⟩
          | 22, hi =>
            obtain rfl := Option.some.inj hi
            have y19 : f' 125 = .bool true := by have h : f' 125 = VV.getD 19 undef := hdn 19 _ 125 rfl (hl2 19 (by rfl)) rfl; rw [h, HVV.out]; rfl
            clear hdn hl2
            rw [y19]
            clear y19
            have hval : VV.getD 22 undef = .agg #[.int .i64 r0, .string r1, .string r2, .int .i64 r3, .slice ra rn rc] := by rw [HVV.out]; rfl
            refine wpOp_list rfl ?_
            have XW := mkHid (YD.out.step hb.out)
            go_wp2_with (refine wpList_load_wanted (by rfl) 25 (.tmp 3) rfl (w.heap.size + 1) (by rfl) 25 #[.int .i64 r0, .string r1, .string r2, .int .i64 r3, .slice ra rn rc] (0, 0) _ XW.out Tryz.underlying25 rfl (inf_pred _ rfl) ?_)
            exact postOf_normal ⟨_, rfl, Below.refl _ _, hval.symm⟩
          | 23, hi =>
            obtain rfl := Option.some.inj hi
            have y21 : f' 127 = .string S18 := by have h : f' 127 = VV.getD 21 undef := hdn 21 _ 127 rfl (hl2 21 (by rfl)) rfl; rw [h, HVV.out]; rfl
            have y22 : f' 128 = .agg #[.int .i64 r0, .string r1, .string r2, .int .i64 r3, .slice ra rn rc] := by have h : f' 128 = VV.getD 22 undef := hdn 22 _ 128 rfl (hl2 22 (by rfl)) rfl; rw [h, HVV.out]; rfl
            have y19 : f' 125 = .bool true := by have h : f' 125 = VV.getD 19 undef := hdn 19 _ 125 rfl (hl2 19 (by rfl)) rfl; rw [h, HVV.out]; rfl
            clear hdn hl2
            rw [y21, y22, y19]
            clear y21 y22 y19
            have hval : VV.getD 23 undef = .bool true := by rw [HVV.out]; rfl
            refine wpOp_list rfl ?_
            go_wp2_with fail
            refine (HMN.out w' _ BW.out ((HQC.out w' BW.out).mono (fun _ _ _ => trivial))).mono ?_
            rintro e w2 ⟨rfl, b2⟩
            go_wp2_with fail
            exact postOf_normal ⟨_, rfl, b2, hval.symm⟩
          | 24, hi =>
            obtain rfl := Option.some.inj hi
            have y19 : f' 125 = .bool true := by have h : f' 125 = VV.getD 19 undef := hdn 19 _ 125 rfl (hl2 19 (by rfl)) rfl; rw [h, HVV.out]; rfl
            have y23 : f' 129 = .bool true := by have h : f' 129 = VV.getD 23 undef := hdn 23 _ 129 rfl (hl2 23 (by rfl)) rfl; rw [h, HVV.out]; rfl
            clear hdn hl2
            rw [y19, y23]
            clear y19 y23
            have hval : VV.getD 24 undef = .bool true := by rw [HVV.out]; rfl
            refine wpOp_list rfl ?_
            go_wp2_with fail
            exact postOf_normal ⟨_, rfl, Below.refl _ _, hval.symm⟩
          | 25, hi =>
            obtain rfl := Option.some.inj hi
            have y24 : f' 130 = .bool true := by have h : f' 130 = VV.getD 24 undef := hdn 24 _ 130 rfl (hl2 24 (by rfl)) rfl; rw [h, HVV.out]; rfl
            clear hdn hl2
            rw [y24]
            clear y24
            have hval : VV.getD 25 undef = .bool true := by rw [HVV.out]; rfl
            refine wpOp_list rfl ?_
            go_wp2_with fail
            exact postOf_normal ⟨_, rfl, Below.refl _ _, hval.symm⟩
          | i + 26, hi => simp at hi
      · have h12' : ¬ (ls : Int) < 1200 := by omega
        clear h12
        go_upto_region 15 with (fail)
        obtain ⟨VV, hVV0⟩ : ∃ VV : List Value, VV = [(.bool true), (.bool true), (.string ys), (.string S0), (.string S12), (.string S13), (.string S5), (.string S14), (.string S15), (.agg #[.int .i64 3, .string ⟨#[]⟩, .string ⟨#[]⟩, .int .i64 2, .slice (some ⟨G3, 0, none⟩) 2 2]), (.bool true), (.bool true), (.bool true), (.string S3), (.string S16), (.string S17), (.agg #[.int .i64 q0, .string q1, .string q2, .int .i64 q3, .slice qa qn qc]), (.bool true), (.bool true), (.bool true), (.string S5), (.string S18), (.agg #[.int .i64 r0, .string r1, .string r2, .int .i64 r3, .slice ra rn rc]), (.bool true), (.bool true), (.bool true)] := ⟨_, rfl⟩
        have HVV := mkHid hVV0
        clear hVV0
        refine wp_region_mid (kF VV) (by kernel_rfl) (kF_step VV) (hdst_of (by kernel_rfl)) (hin_of (by kernel_rfl)) (hacyc_of (by kernel_rfl)) ?hsC ?heC
        case heC =>
          intro listed a' w' H hall
          have hdn : kF VV 25 w' (a'.tmps.getD 4 undef) := H.done 25 _ 4 rfl (hall 25 (by decide)) rfl
          have hb := mkHid H.below
          have hdf := H.defers
          have hts := H.tsize
          clear H
          obtain ⟨t', df⟩ := a'
          obtain ⟨f', rfl⟩ := arr131 t' hts
          have hdf' : df = [] := hdf
          subst hdf'
          have h4 : f' 4 = .bool true := by have : f' 4 = VV.getD 25 undef := hdn; rw [this, HVV.out]; rfl
          rw [h4]
          have BF := mkHid (BC.out.trans (hb.out.mono BC.out.size))
          clear h4 hdn hdf hts hb hall HVV
          go_wp2
          go_ret
          exact ⟨rfl, BF.out⟩
        case hsC =>
          intro i o hi listed a' w' H hl
          have hl2 := after_listed hl
          have hb := mkHid H.below
          have s2 := H.same 2 (nodst_of (by kernel_rfl))
          have s3 := H.same 3 (nodst_of (by kernel_rfl))
          have s5 := H.same 5 (nodst_of (by kernel_rfl))
          have s6 := H.same 6 (nodst_of (by kernel_rfl))
          have s10 := H.same 10 (nodst_of (by kernel_rfl))
          have s11 := H.same 11 (nodst_of (by kernel_rfl))
          have s14 := H.same 14 (nodst_of (by kernel_rfl))
          have hdn := H.done
          have hdf := H.defers
          have hts := H.tsize
          clear hl H
          obtain ⟨t', df⟩ := a'
          obtain ⟨f', rfl⟩ := arr131 t' hts
          have hdf' : df = [] := hdf
          subst hdf'
          have g2 : f' 2 = .pointer (some ⟨w.heap.size, 0, none⟩) := s2
          have g3 : f' 3 = .pointer (some ⟨w.heap.size + 1, 0, none⟩) := s3
          have g5 : f' 5 = .bool true := s5
          have g6 : f' 6 = .string ys := s6
          have g10 : f' 10 = .string S3 := s10
          have g11 : f' 11 = .string S5 := s11
          have g14 : f' 14 = .pointer (some ⟨A3, 0, none⟩) := s14
          clear s2 s3 s5 s6 s10 s11 s14 hdf hts
          rw [g2, g3, g5, g6, g10, g11, g14] at hdn ⊢
          have BW := mkHid (BC.out.trans (hb.out.mono BC.out.size))
          match i, hi with
          | 0, hi =>
            obtain rfl := Option.some.inj hi
            clear hdn hl2
            have hval : VV.getD 0 undef = .bool true := by rw [HVV.out]; rfl
            refine wpOp_list rfl ?_
            go_wp2_with fail
            exact postOf_normal ⟨_, rfl, Below.refl _ _, hval.symm⟩
          | 1, hi =>
            obtain rfl := Option.some.inj hi
            have y0 : f' 106 = .bool true := by have h : f' 106 = VV.getD 0 undef := hdn 0 _ 106 rfl (hl2 0 (by rfl)) rfl; rw [h, HVV.out]; rfl
            clear hdn hl2
            rw [y0]
            clear y0
            have hval : VV.getD 1 undef = .bool true := by rw [HVV.out]; rfl
            refine wpOp_list rfl ?_
            go_wp2_with fail
            exact postOf_normal ⟨_, rfl, Below.refl _ _, hval.symm⟩
          | 2, hi =>
            obtain rfl := Option.some.inj hi
            have y1 : f' 107 = .bool true := by have h : f' 107 = VV.getD 1 undef := hdn 1 _ 107 rfl (hl2 1 (by rfl)) rfl; rw [h, HVV.out]; rfl
            clear hdn hl2
            rw [y1]
            clear y1
            have hval : VV.getD 2 undef = .string ys := by rw [HVV.out]; rfl
            refine wpOp_list rfl ?_
            go_wp2_with fail
            exact postOf_normal ⟨_, rfl, Below.refl _ _, hval.symm⟩
          | 3, hi =>
            obtain rfl := Option.some.inj hi
            have y2 : f' 108 = .string ys := by have h : f' 108 = VV.getD 2 undef := hdn 2 _ 108 rfl (hl2 2 (by rfl)) rfl; rw [h, HVV.out]; rfl
            have y1 : f' 107 = .bool true := by have h : f' 107 = VV.getD 1 undef := hdn 1 _ 107 rfl (hl2 1 (by rfl)) rfl; rw [h, HVV.out]; rfl
            clear hdn hl2
            rw [y2, y1]
            clear y2 y1
            have hval : VV.getD 3 undef = .string S0 := by rw [HVV.out]; rfl
            refine wpOp_list rfl ?_
            go_wp2_with fail
            refine (HBS.out w').mono ?_
            rintro e w2 ⟨rfl, rfl⟩
            go_wp2_with fail
            exact postOf_normal ⟨_, rfl, Below.refl _ _, hval.symm⟩
          | 4, hi =>
            obtain rfl := Option.some.inj hi
            have y3 : f' 109 = .string S0 := by have h : f' 109 = VV.getD 3 undef := hdn 3 _ 109 rfl (hl2 3 (by rfl)) rfl; rw [h, HVV.out]; rfl
            have y1 : f' 107 = .bool true := by have h : f' 107 = VV.getD 1 undef := hdn 1 _ 107 rfl (hl2 1 (by rfl)) rfl; rw [h, HVV.out]; rfl
            clear hdn hl2
            rw [y3, y1]
            clear y3 y1
            have hval : VV.getD 4 undef = .string S12 := by rw [HVV.out]; rfl
            refine wpOp_list rfl ?_
            go_wp2_with fail
            exact postOf_normal ⟨_, rfl, Below.refl _ _, hval.symm⟩
          | 5, hi =>
            obtain rfl := Option.some.inj hi
            have y4 : f' 110 = .string S12 := by have h : f' 110 = VV.getD 4 undef := hdn 4 _ 110 rfl (hl2 4 (by rfl)) rfl; rw [h, HVV.out]; rfl
            have y1 : f' 107 = .bool true := by have h : f' 107 = VV.getD 1 undef := hdn 1 _ 107 rfl (hl2 1 (by rfl)) rfl; rw [h, HVV.out]; rfl
            clear hdn hl2
            rw [y4, y1]
            clear y4 y1
            have hval : VV.getD 5 undef = .string S13 := by rw [HVV.out]; rfl
            refine wpOp_list rfl ?_
            go_wp2_with fail
            exact postOf_normal ⟨_, rfl, Below.refl _ _, hval.symm⟩
          | 6, hi =>
            obtain rfl := Option.some.inj hi
            have y1 : f' 107 = .bool true := by have h : f' 107 = VV.getD 1 undef := hdn 1 _ 107 rfl (hl2 1 (by rfl)) rfl; rw [h, HVV.out]; rfl
            clear hdn hl2
            rw [y1]
            clear y1
            have hval : VV.getD 6 undef = .string S5 := by rw [HVV.out]; rfl
            refine wpOp_list rfl ?_
            go_wp2_with fail
            exact postOf_normal ⟨_, rfl, Below.refl _ _, hval.symm⟩
          | 7, hi =>
            obtain rfl := Option.some.inj hi
            have y5 : f' 111 = .string S13 := by have h : f' 111 = VV.getD 5 undef := hdn 5 _ 111 rfl (hl2 5 (by rfl)) rfl; rw [h, HVV.out]; rfl
            have y6 : f' 112 = .string S5 := by have h : f' 112 = VV.getD 6 undef := hdn 6 _ 112 rfl (hl2 6 (by rfl)) rfl; rw [h, HVV.out]; rfl
            have y1 : f' 107 = .bool true := by have h : f' 107 = VV.getD 1 undef := hdn 1 _ 107 rfl (hl2 1 (by rfl)) rfl; rw [h, HVV.out]; rfl
            clear hdn hl2
            rw [y5, y6, y1]
            clear y5 y6 y1
            have hval : VV.getD 7 undef = .string S14 := by rw [HVV.out]; rfl
            refine wpOp_list rfl ?_
            go_wp2_with fail
            exact postOf_normal ⟨_, rfl, Below.refl _ _, hval.symm⟩
          | 8, hi =>
            obtain rfl := Option.some.inj hi
            have y7 : f' 113 = .string S14 := by have h : f' 113 = VV.getD 7 undef := hdn 7 _ 113 rfl (hl2 7 (by rfl)) rfl; rw [h, HVV.out]; rfl
            have y1 : f' 107 = .bool true := by have h : f' 107 = VV.getD 1 undef := hdn 1 _ 107 rfl (hl2 1 (by rfl)) rfl; rw [h, HVV.out]; rfl
            clear hdn hl2
            rw [y7, y1]
            clear y7 y1
            have hval : VV.getD 8 undef = .string S15 := by rw [HVV.out]; rfl
            refine wpOp_list rfl ?_
            go_wp2_with fail
            exact postOf_normal ⟨_, rfl, Below.refl _ _, hval.symm⟩
          | 9, hi =>
            obtain rfl := Option.some.inj hi
            have y1 : f' 107 = .bool true := by have h : f' 107 = VV.getD 1 undef := hdn 1 _ 107 rfl (hl2 1 (by rfl)) rfl; rw [h, HVV.out]; rfl
            clear hdn hl2
            rw [y1]
            clear y1
            have hval : VV.getD 9 undef = .agg #[.int .i64 3, .string ⟨#[]⟩, .string ⟨#[]⟩, .int .i64 2, .slice (some ⟨G3, 0, none⟩) 2 2] := by rw [HVV.out]; rfl
            refine wpOp_list rfl ?_
            have XW := mkHid (MLC.out.step hb.out)
            go_wp2_with (refine wpList_load_wanted (by rfl) 25 (.tmp 14) rfl A3 (by rfl) 25 #[.int .i64 3, .string ⟨#[]⟩, .string ⟨#[]⟩, .int .i64 2, .slice (some ⟨G3, 0, none⟩) 2 2] (0, 0) _ XW.out Tryz.underlying25 rfl (inf_pred _ rfl) ?_)
            exact postOf_normal ⟨_, rfl, Below.refl _ _, hval.symm⟩
          | 10, hi =>
            obtain rfl := Option.some.inj hi
            have y8 : f' 114 = .string S15 := by have h : f' 114 = VV.getD 8 undef := hdn 8 _ 114 rfl (hl2 8 (by rfl)) rfl; rw [h, HVV.out]; rfl
            have y9 : f' 115 = .agg #[.int .i64 3, .string ⟨#[]⟩, .string ⟨#[]⟩, .int .i64 2, .slice (some ⟨G3, 0, none⟩) 2 2] := by have h : f' 115 = VV.getD 9 undef := hdn 9 _ 115 rfl (hl2 9 (by rfl)) rfl; rw [h, HVV.out]; rfl
            have y1 : f' 107 = .bool true := by have h : f' 107 = VV.getD 1 undef := hdn 1 _ 107 rfl (hl2 1 (by rfl)) rfl; rw [h, HVV.out]; rfl
            clear hdn hl2
            rw [y8, y9, y1]
            clear y8 y9 y1
            have hval : VV.getD 10 undef = .bool true := by rw [HVV.out]; rfl
            refine wpOp_list rfl ?_
            go_wp2_with fail
            refine (HME.out w' _ BW.out (PLC.out.below hb.out)).mono ?_
            rintro e w2 ⟨rfl, b2⟩
            go_wp2_with fail
            exact postOf_normal ⟨_, rfl, b2, hval.symm⟩
          | 11, hi =>
            obtain rfl := Option.some.inj hi
            have y1 : f' 107 = .bool true := by have h : f' 107 = VV.getD 1 undef := hdn 1 _ 107 rfl (hl2 1 (by rfl)) rfl; rw [h, HVV.out]; rfl
            have y10 : f' 116 = .bool true := by have h : f' 116 = VV.getD 10 undef := hdn 10 _ 116 rfl (hl2 10 (by rfl)) rfl; rw [h, HVV.out]; rfl
            clear hdn hl2
            rw [y1, y10]
            clear y1 y10
            have hval : VV.getD 11 undef = .bool true := by rw [HVV.out]; rfl
            refine wpOp_list rfl ?_
            go_wp2_with fail
            exact postOf_normal ⟨_, rfl, Below.refl _ _, hval.symm⟩
          | 12, hi =>
            obtain rfl := Option.some.inj hi
            have y11 : f' 117 = .bool true := by have h : f' 117 = VV.getD 11 undef := hdn 11 _ 117 rfl (hl2 11 (by rfl)) rfl; rw [h, HVV.out]; rfl
            clear hdn hl2
            rw [y11]
            clear y11
            have hval : VV.getD 12 undef = .bool true := by rw [HVV.out]; rfl
            refine wpOp_list rfl ?_
            go_wp2_with fail
            exact postOf_normal ⟨_, rfl, Below.refl _ _, hval.symm⟩
          | 13, hi =>
            obtain rfl := Option.some.inj hi
            have y12 : f' 118 = .bool true := by have h : f' 118 = VV.getD 12 undef := hdn 12 _ 118 rfl (hl2 12 (by rfl)) rfl; rw [h, HVV.out]; rfl
            clear hdn hl2
            rw [y12]
            clear y12
            have hval : VV.getD 13 undef = .string S3 := by rw [HVV.out]; rfl
            refine wpOp_list rfl ?_
            go_wp2_with fail
            exact postOf_normal ⟨_, rfl, Below.refl _ _, hval.symm⟩
          | 14, hi =>
            obtain rfl := Option.some.inj hi
            have y13 : f' 119 = .string S3 := by have h : f' 119 = VV.getD 13 undef := hdn 13 _ 119 rfl (hl2 13 (by rfl)) rfl; rw [h, HVV.out]; rfl
            have y12 : f' 118 = .bool true := by have h : f' 118 = VV.getD 12 undef := hdn 12 _ 118 rfl (hl2 12 (by rfl)) rfl; rw [h, HVV.out]; rfl
            clear hdn hl2
            rw [y13, y12]
            clear y13 y12
            have hval : VV.getD 14 undef = .string S16 := by rw [HVV.out]; rfl
            refine wpOp_list rfl ?_
            go_wp2_with fail
            exact postOf_normal ⟨_, rfl, Below.refl _ _, hval.symm⟩
          | 15, hi =>
            obtain rfl := Option.some.inj hi
            have y14 : f' 120 = .string S16 := by have h : f' 120 = VV.getD 14 undef := hdn 14 _ 120 rfl (hl2 14 (by rfl)) rfl; rw [h, HVV.out]; rfl
            have y12 : f' 118 = .bool true := by have h : f' 118 = VV.getD 12 undef := hdn 12 _ 118 rfl (hl2 12 (by rfl)) rfl; rw [h, HVV.out]; rfl
            clear hdn hl2
            rw [y14, y12]
            clear y14 y12
            have hval : VV.getD 15 undef = .string S17 := by rw [HVV.out]; rfl
            refine wpOp_list rfl ?_
            go_wp2_with fail
            exact postOf_normal ⟨_, rfl, Below.refl _ _, hval.symm⟩
          | 16, hi =>
            obtain rfl := Option.some.inj hi
            have y12 : f' 118 = .bool true := by have h : f' 118 = VV.getD 12 undef := hdn 12 _ 118 rfl (hl2 12 (by rfl)) rfl; rw [h, HVV.out]; rfl
            clear hdn hl2
            rw [y12]
            clear y12
            have hval : VV.getD 16 undef = .agg #[.int .i64 q0, .string q1, .string q2, .int .i64 q3, .slice qa qn qc] := by rw [HVV.out]; rfl
            refine wpOp_list rfl ?_
            have XW := mkHid (XC.out.step hb.out)
            go_wp2_with (refine wpList_load_wanted (by rfl) 25 (.tmp 2) rfl w.heap.size (by rfl) 25 #[.int .i64 q0, .string q1, .string q2, .int .i64 q3, .slice qa qn qc] (0, 0) _ XW.out Tryz.underlying25 rfl (inf_pred _ rfl) ?_)
            exact postOf_normal ⟨_, rfl, Below.refl _ _, hval.symm⟩
          | 17, hi =>
            obtain rfl := Option.some.inj hi
            have y15 : f' 121 = .string S17 := by have h : f' 121 = VV.getD 15 undef := hdn 15 _ 121 rfl (hl2 15 (by rfl)) rfl; rw [h, HVV.out]; rfl
            have y16 : f' 122 = .agg #[.int .i64 q0, .string q1, .string q2, .int .i64 q3, .slice qa qn qc] := by have h : f' 122 = VV.getD 16 undef := hdn 16 _ 122 rfl (hl2 16 (by rfl)) rfl; rw [h, HVV.out]; rfl
            have y12 : f' 118 = .bool true := by have h : f' 118 = VV.getD 12 undef := hdn 12 _ 118 rfl (hl2 12 (by rfl)) rfl; rw [h, HVV.out]; rfl
            clear hdn hl2
            rw [y15, y16, y12]
            clear y15 y16 y12
            have hval : VV.getD 17 undef = .bool true := by rw [HVV.out]; rfl
            refine wpOp_list rfl ?_
            go_wp2_with fail
            refine (HMS.out w' _ BW.out ((HPC.out w' BW.out).mono (fun _ _ _ => trivial))).mono ?_
            rintro e w2 ⟨rfl, b2⟩
            go_wp2_with fail
            exact postOf_normal ⟨_, rfl, b2, hval.symm⟩
          | 18, hi =>
            obtain rfl := Option.some.inj hi
            have y12 : f' 118 = .bool true := by have h : f' 118 = VV.getD 12 undef := hdn 12 _ 118 rfl (hl2 12 (by rfl)) rfl; rw [h, HVV.out]; rfl
            have y17 : f' 123 = .bool true := by have h : f' 123 = VV.getD 17 undef := hdn 17 _ 123 rfl (hl2 17 (by rfl)) rfl; rw [h, HVV.out]; rfl
            clear hdn hl2
            rw [y12, y17]
            clear y12 y17
            have hval : VV.getD 18 undef = .bool true := by rw [HVV.out]; rfl
            refine wpOp_list rfl ?_
            go_wp2_with fail
            exact postOf_normal ⟨_, rfl, Below.refl _ _, hval.symm⟩
          | 19, hi =>
            obtain rfl := Option.some.inj hi
            have y18 : f' 124 = .bool true := by have h : f' 124 = VV.getD 18 undef := hdn 18 _ 124 rfl (hl2 18 (by rfl)) rfl; rw [h, HVV.out]; rfl
            clear hdn hl2
            rw [y18]
            clear y18
            have hval : VV.getD 19 undef = .bool true := by rw [HVV.out]; rfl
            refine wpOp_list rfl ?_
            go_wp2_with fail
            exact postOf_normal ⟨_, rfl, Below.refl _ _, hval.symm⟩
          | 20, hi =>
            obtain rfl := Option.some.inj hi
            have y19 : f' 125 = .bool true := by have h : f' 125 = VV.getD 19 undef := hdn 19 _ 125 rfl (hl2 19 (by rfl)) rfl; rw [h, HVV.out]; rfl
            clear hdn hl2
            rw [y19]
            clear y19
            have hval : VV.getD 20 undef = .string S5 := by rw [HVV.out]; rfl
            refine wpOp_list rfl ?_
            go_wp2_with fail
            exact postOf_normal ⟨_, rfl, Below.refl _ _, hval.symm⟩
          | 21, hi =>
            obtain rfl := Option.some.inj hi
            have y20 : f' 126 = .string S5 := by have h : f' 126 = VV.getD 20 undef := hdn 20 _ 126 rfl (hl2 20 (by rfl)) rfl; rw [h, HVV.out]; rfl
            have y19 : f' 125 = .bool true := by have h : f' 125 = VV.getD 19 undef := hdn 19 _ 125 rfl (hl2 19 (by rfl)) rfl; rw [h, HVV.out]; rfl
            clear hdn hl2
            rw [y20, y19]
            clear y20 y19
            have hval : VV.getD 21 undef = .string S18 := by rw [HVV.out]; rfl
            refine wpOp_list rfl ?_
            go_wp2_with fail
            exact postOf_normal ⟨_, rfl, Below.refl _ _, hval.symm⟩
          | 22, hi =>
            obtain rfl := Option.some.inj hi
            have y19 : f' 125 = .bool true := by have h : f' 125 = VV.getD 19 undef := hdn 19 _ 125 rfl (hl2 19 (by rfl)) rfl; rw [h, HVV.out]; rfl
            clear hdn hl2
            rw [y19]
            clear y19
            have hval : VV.getD 22 undef = .agg #[.int .i64 r0, .string r1, .string r2, .int .i64 r3, .slice ra rn rc] := by rw [HVV.out]; rfl
            refine wpOp_list rfl ?_
            have XW := mkHid (YC.out.step hb.out)
            go_wp2_with (refine wpList_load_wanted (by rfl) 25 (.tmp 3) rfl (w.heap.size + 1) (by rfl) 25 #[.int .i64 r0, .string r1, .string r2, .int .i64 r3, .slice ra rn rc] (0, 0) _ XW.out Tryz.underlying25 rfl (inf_pred _ rfl) ?_)
            exact postOf_normal ⟨_, rfl, Below.refl _ _, hval.symm⟩
          | 23, hi =>
            obtain rfl := Option.some.inj hi
            have y21 : f' 127 = .string S18 := by have h : f' 127 = VV.getD 21 undef := hdn 21 _ 127 rfl (hl2 21 (by rfl)) rfl; rw [h, HVV.out]; rfl
            have y22 : f' 128 = .agg #[.int .i64 r0, .string r1, .string r2, .int .i64 r3, .slice ra rn rc] := by have h : f' 128 = VV.getD 22 undef := hdn 22 _ 128 rfl (hl2 22 (by rfl)) rfl; rw [h, HVV.out]; rfl
            have y19 : f' 125 = .bool true := by have h : f' 125 = VV.getD 19 undef := hdn 19 _ 125 rfl (hl2 19 (by rfl)) rfl; rw [h, HVV.out]; rfl
            clear hdn hl2
            rw [y21, y22, y19]
            clear y21 y22 y19
            have hval : VV.getD 23 undef = .bool true := by rw [HVV.out]; rfl
            refine wpOp_list rfl ?_
            go_wp2_with fail
            refine (HMN.out w' _ BW.out ((HQC.out w' BW.out).mono (fun _ _ _ => trivial))).mono ?_
            rintro e w2 ⟨rfl, b2⟩
            go_wp2_with fail
            exact postOf_normal ⟨_, rfl, b2, hval.symm⟩
          | 24, hi =>
            obtain rfl := Option.some.inj hi
            have y19 : f' 125 = .bool true := by have h : f' 125 = VV.getD 19 undef := hdn 19 _ 125 rfl (hl2 19 (by rfl)) rfl; rw [h, HVV.out]; rfl
            have y23 : f' 129 = .bool true := by have h : f' 129 = VV.getD 23 undef := hdn 23 _ 129 rfl (hl2 23 (by rfl)) rfl; rw [h, HVV.out]; rfl
            clear hdn hl2
            rw [y19, y23]
            clear y19 y23
            have hval : VV.getD 24 undef = .bool true := by rw [HVV.out]; rfl
            refine wpOp_list rfl ?_
            go_wp2_with fail
            exact postOf_normal ⟨_, rfl, Below.refl _ _, hval.symm⟩
          | 25, hi =>
            obtain rfl := Option.some.inj hi
            have y24 : f' 130 = .bool true := by have h : f' 130 = VV.getD 24 undef := hdn 24 _ 130 rfl (hl2 24 (by rfl)) rfl; rw [h, HVV.out]; rfl
            clear hdn hl2
            rw [y24]
            clear y24
            have hval : VV.getD 25 undef = .bool true := by rw [HVV.out]; rfl
            refine wpOp_list rfl ?_
            go_wp2_with fail
            exact postOf_normal ⟨_, rfl, Below.refl _ _, hval.symm⟩
          | i + 26, hi => simp at hi
    case hs =>
      intro i o h7 hi g listed a' w' hI H hl hli
      have hl2 := after_listed hl
      have hb := mkHid H.below
      have s2 := H.same 2 (nodst_of (by kernel_rfl))
      have s3 := H.same 3 (nodst_of (by kernel_rfl))
      have hdn := H.done
      have hdf := H.defers
      have hts := H.tsize
      clear hl H
      obtain ⟨t', df⟩ := a'
      obtain ⟨f, rfl⟩ := arr131 t' hts
      have hdf' : df = [] := hdf
      subst hdf'
      have g2 : f 2 = .pointer (some ⟨w.heap.size, 0, none⟩) := s2
      have g3 : f 3 = .pointer (some ⟨w.heap.size + 1, 0, none⟩) := s3
      clear s2 s3 hdf hts
      rw [g2, g3] at hdn ⊢
      have BW := mkHid (BA.out.trans (hb.out.mono BA.out.size))
      have HI := mkHid hI
      clear hI
      match i, hi with
      | 0, hi =>
        obtain rfl := Option.some.inj hi
        clear hdn hl2
        have XW := mkHid (XA.out.step hb.out)
        refine wpOp_list rfl ?_
        go_wp2_with (refine wpList_load_wanted (by rfl) 25 (.tmp 2) rfl w.heap.size (by rfl) 25 #[.int .i64 q0, .string q1, .string q2, .int .i64 q3, .slice qa qn qc] (0, 0) _ XW.out Tryz.underlying25 rfl (inf_pred _ rfl) ?_)
        exact postOf_normal ⟨_, rfl, Below.refl _ _, g, .inl ⟨by decide, rfl⟩, rfl⟩
      | 1, hi =>
        obtain rfl := Option.some.inj hi
        clear hdn hl2
        have XW := mkHid (YA.out.step hb.out)
        refine wpOp_list rfl ?_
        go_wp2_with (refine wpList_load_wanted (by rfl) 25 (.tmp 3) rfl (w.heap.size + 1) (by rfl) 25 #[.int .i64 r0, .string r1, .string r2, .int .i64 r3, .slice ra rn rc] (0, 0) _ XW.out Tryz.underlying25 rfl (inf_pred _ rfl) ?_)
        exact postOf_normal ⟨_, rfl, Below.refl _ _, g, .inl ⟨by decide, rfl⟩, rfl⟩
      | 2, hi =>
        obtain rfl := Option.some.inj hi
        have d1 : jF (.agg #[.int .i64 q0, .string q1, .string q2, .int .i64 q3, .slice qa qn qc]) (.agg #[.int .i64 r0, .string r1, .string r2, .int .i64 r3, .slice ra rn rc]) q (.mk 2 [] [] 0 [p, negP q, p]) g 1 w' (f 73) := hdn 1 _ 73 rfl (hl2 1 (by rfl)) rfl
        have y1 : f 73 = .agg #[.int .i64 r0, .string r1, .string r2, .int .i64 r3, .slice ra rn rc] := d1
        clear hdn hl2 d1
        rw [y1]
        clear y1
        refine wpOp_list rfl ?_
        go_wp2_with fail
        refine (HNG.out w' BW.out HVQ.out (Nat.le_trans HCQ.out (by omega)) HBQ.out).mono ?_
        rintro e w2 ⟨⟨v2, rfl, hv2⟩, b2⟩
        obtain ⟨vs2, rfl, hp2⟩ := hv2
        have hq2 : PredC w2 (jP g) (negP q) vs2 := hp2.mono (fun x hx _ => by
          cases g with
          | none => trivial
          | some a => have h3 : a < w'.heap.size := HI.out.2.2; show x ≠ a; omega)
        have HQ2 := mkHid hq2
        have B2_ := mkHid b2
        clear hp2 hq2 b2
        go_wp2_with fail
        first | exact postOf_normal ⟨_, rfl, B2_.out, g, .inl ⟨by decide, rfl⟩, ⟨vs2, rfl, HQ2.out⟩⟩ | exact postOf_normal ⟨_, g, rfl, B2_.out, .inl ⟨by decide, rfl⟩, ⟨vs2, rfl, HQ2.out⟩⟩
      | 3, hi =>
        obtain rfl := Option.some.inj hi
        clear hdn hl2
        have XW := mkHid (XA.out.step hb.out)
        refine wpOp_list rfl ?_
        go_wp2_with (refine wpList_load_wanted (by rfl) 25 (.tmp 2) rfl w.heap.size (by rfl) 25 #[.int .i64 q0, .string q1, .string q2, .int .i64 q3, .slice qa qn qc] (0, 0) _ XW.out Tryz.underlying25 rfl (inf_pred _ rfl) ?_)
        exact postOf_normal ⟨_, rfl, Below.refl _ _, g, .inl ⟨by decide, rfl⟩, rfl⟩
      | 4, hi =>
        obtain rfl := Option.some.inj hi
        have d0 : jF (.agg #[.int .i64 q0, .string q1, .string q2, .int .i64 q3, .slice qa qn qc]) (.agg #[.int .i64 r0, .string r1, .string r2, .int .i64 r3, .slice ra rn rc]) q (.mk 2 [] [] 0 [p, negP q, p]) g 0 w' (f 72) := hdn 0 _ 72 rfl (hl2 0 (by rfl)) rfl
        have d2 : jF (.agg #[.int .i64 q0, .string q1, .string q2, .int .i64 q3, .slice qa qn qc]) (.agg #[.int .i64 r0, .string r1, .string r2, .int .i64 r3, .slice ra rn rc]) q (.mk 2 [] [] 0 [p, negP q, p]) g 2 w' (f 74) := hdn 2 _ 74 rfl (hl2 2 (by rfl)) rfl
        have d3 : jF (.agg #[.int .i64 q0, .string q1, .string q2, .int .i64 q3, .slice qa qn qc]) (.agg #[.int .i64 r0, .string r1, .string r2, .int .i64 r3, .slice ra rn rc]) q (.mk 2 [] [] 0 [p, negP q, p]) g 3 w' (f 75) := hdn 3 _ 75 rfl (hl2 3 (by rfl)) rfl
        have y0 : f 72 = .agg #[.int .i64 q0, .string q1, .string q2, .int .i64 q3, .slice qa qn qc] := d0
        have y3 : f 75 = .agg #[.int .i64 q0, .string q1, .string q2, .int .i64 q3, .slice qa qn qc] := d3
        obtain ⟨vs2, y2, hp2⟩ := d2
        obtain ⟨na, nn, nc, rfl, -⟩ := hp2.form
        have hpp : PredC w' (jP g) p [.int .i64 q0, .string q1, .string q2, .int .i64 q3, .slice qa qn qc] := PredC.keep (fun x _ hx => BW.out.block x hx) BW.out.size (fun x _ hx => by
          cases g with
          | none => trivial
          | some a => have h3 : wa.heap.size ≤ a := HI.out.2.1; have h4 := BA.out.size; show x ≠ a; omega) _ _ (HPC.out w (Below.refl _ _))
        have hpn : jP g w'.heap.size := by
          cases g with
          | none => trivial
          | some a => have h3 : a < w'.heap.size := HI.out.2.2; show w'.heap.size ≠ a; omega
        have HR := mkHid (predC_new w' (jP g) hpn 2 0 [p, negP q, p] [[.int .i64 q0, .string q1, .string q2, .int .i64 q3, .slice qa qn qc], [.int .i64 (negP q).k, .string (strN (negP q).l), .string (strN (negP q).r), .int .i64 (negP q).c, .slice na nn nc], [.int .i64 q0, .string q1, .string q2, .int .i64 q3, .slice qa qn qc]] _ 25 rfl rfl (fun i x vs h1 h2 => by
          match i, h1, h2 with
          | 0, h1, h2 =>
            obtain rfl := Option.some.inj h1
            obtain rfl := Option.some.inj h2
            exact hpp
          | 1, h1, h2 =>
            obtain rfl := Option.some.inj h1
            obtain rfl := Option.some.inj h2
            exact hp2
          | 2, h1, h2 =>
            obtain rfl := Option.some.inj h1
            obtain rfl := Option.some.inj h2
            exact hpp
          | i + 3, h1, h2 => simp at h1))
        clear hdn hl2 d0 d3 hp2 hpp hpn
        rw [y0, y2, y3]
        clear y0 y2 y3
        refine wpOp_list rfl ?_
        go_wp2_with fail
        exact postOf_normal ⟨_, rfl, (Below.refl _ _).alloc (Nat.le_refl _) _, g, .inl ⟨by decide, rfl⟩, ⟨_, rfl, HR.out⟩⟩
      | 5, hi =>
        obtain rfl := Option.some.inj hi
        have d4 : jF (.agg #[.int .i64 q0, .string q1, .string q2, .int .i64 q3, .slice qa qn qc]) (.agg #[.int .i64 r0, .string r1, .string r2, .int .i64 r3, .slice ra rn rc]) q (.mk 2 [] [] 0 [p, negP q, p]) g 4 w' (f 76) := hdn 4 _ 76 rfl (hl2 4 (by rfl)) rfl
        obtain ⟨x, y4, hp4⟩ := d4
        have HP4 := mkHid hp4
        clear hdn hl2 hp4
        rw [y4]
        clear y4
        refine wpOp_list rfl ?_
        go_wp2_with fail
        exact postOf_normal ⟨_, rfl, Below.refl _ _, g, .inl ⟨by decide, rfl⟩, ⟨x, rfl, HP4.out⟩⟩
      | 6, hi =>
        obtain rfl := Option.some.inj hi
        clear hdn hl2
        cases g with
        | some a =>
          have h3 : listed.getD 6 false = true := HI.out.1
          rw [hli] at h3
          cases h3
        | none =>
          refine wpOp_list rfl ?_
          go_wp2_with fail
          exact postOf_normal ⟨_, rfl, (Below.refl _ _).alloc (Nat.le_refl _) _, some w'.heap.size, .inr ⟨rfl, rfl, rfl, hb.out.size, by simp⟩, ⟨_, rfl, rfl, heap_alloc_new _ _⟩⟩
      | i + 7, hi => omega
end Go.Proofs.YtmkdfbelbcocpaaGreatDoor
