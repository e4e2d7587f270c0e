/- The exported Names and Negate; names compared; the law's bound on binds (walks). Predicates that came in and are short; the count of nodes (plain). No program in sight. The walk of AskBack (printed by wip/tools/genback.py). AskJoins: body and meant (walk). -/
import Derived.Sort.KeysCollected
import Derived.Shelf.SlIter.Nil
import Derived.Shelf.SortM.Plain
import Derived.Shelf.SortM.SortNone
import Derived.Ground.GgzProg
import Derived.Ground.SlgmProg
import Derived.Test.YtmkdfbelbcocpaaGreatDoorProg
import Derived.Test.YtmkdfbelbcocpaaGreatDoorMJ24
import Derived.Test.YtmkdfbelbcocpaaGreatDoorMJ15
import Derived.Test.YtmkdfbelbcocpaaGreatDoorMJ25
set_option linter.unusedVariables false
set_option linter.unusedSimpArgs false
namespace Go.Proofs.YtmkdfbelbcocpaaGreatDoor
open Go.RowKit Go.Sort Go.Maps
def negV (p : Prd) : Prd := if validP p = true then negP p else prd0
set_option maxHeartbeats 8000000 in
set_option maxRecDepth 100000 in
theorem pnegate_any (p : Prd) (w : World) (P : Nat → Prop) (vs : List Value) (B : Nat) (hN : cntP p ≤ 1000000) (hb : BytP p) (h : PredC w P p vs) (hT : Tab w B) :
    Calls Tryz.prog 28 #[.agg vs.toArray] w fun e w' => NegR w (negV p) e w' := by
  obtain ⟨xa, xn, xc, rfl, -⟩ := h.form
  have bx := ((RowKit.Below.refl w.heap.size w).alloc (Nat.le_refl _) (.cells #[.int .i64 p.k, .string (strN p.l), .string (strN p.r), .int .i64 p.c, .slice xa xn xc] 25)).alloc (by simp) (.cells #[.int .i64 0, .string ⟨#[]⟩, .string ⟨#[]⟩, .int .i64 0, .slice none 0 0] 25)
  have B1 := mkHid bx
  have X1 : Hid (HasV ((w.alloc (.cells #[.int .i64 p.k, .string (strN p.l), .string (strN p.r), .int .i64 p.c, .slice xa xn xc] 25)).alloc (.cells #[.int .i64 0, .string ⟨#[]⟩, .string ⟨#[]⟩, .int .i64 0, .slice none 0 0] 25)) w.heap.size 25 [.int .i64 p.k, .string (strN p.l), .string (strN p.r), .int .i64 p.c, .slice xa xn xc]) := mkHid (heap_alloc2_old _ _ _)
  have Z1 : Hid (HasV ((w.alloc (.cells #[.int .i64 p.k, .string (strN p.l), .string (strN p.r), .int .i64 p.c, .slice xa xn xc] 25)).alloc (.cells #[.int .i64 0, .string ⟨#[]⟩, .string ⟨#[]⟩, .int .i64 0, .slice none 0 0] 25)) (w.heap.size + 1) 25 pred0) := mkHid (heap_alloc2_new w _ _)
  have HVP := mkHid (fun W (hW : RowKit.Below w.heap.size w W) => vpred_any p W P _ B hN hb (h.below hW) (TabIn.step (w := w) hT hW))
  have HNG := mkHid (fun W (hW : RowKit.Below w.heap.size w W) => negate_any (cntP p) p W P _ (Nat.le_refl _) hN (h.below hW))
  have HV : Hid (negV p = if validP p = true then negP p else prd0) := mkHid rfl
  obtain ⟨V, hV⟩ : ∃ V, negV p = V := ⟨_, rfl⟩
  rw [hV] at HV ⊢
  clear bx h hT hb hN hV
  generalize validP p = s at *
  generalize negP p = np at *
  generalize p.k = q0 at *
  generalize strN p.l = q1 at *
  generalize strN p.r = q2 at *
  generalize p.c = q3 at *
  go_enter Tryz.func28, Tryz.ntmps28
  go_upto_region 1 with (fail)
  generalize (w.alloc (.cells #[.int .i64 q0, .string q1, .string q2, .int .i64 q3, .slice xa xn xc] 25)).alloc (.cells #[.int .i64 0, .string ⟨#[]⟩, .string ⟨#[]⟩, .int .i64 0, .slice none 0 0] 25) = w1 at *
  go_wp2_with (refine wpList_load_row rfl 25 (.tmp 1) rfl w.heap.size ?x1 25 #[.int .i64 q0, .string q1, .string q2, .int .i64 q3, .slice xa xn xc] (0, 0) _ X1.out Tryz.underlying25 rfl (inf_pred _ rfl) ?_; (case x1 => rfl))
  refine (HVP.out w1 B1.out).mono ?_
  rintro e w2 ⟨rfl, b2⟩
  have B2 := mkHid (B1.out.trans (b2.mono B1.out.size))
  have X2 := mkHid (X1.out.step b2)
  have Z2 := mkHid (Z1.out.step b2)
  clear b2 HVP B1 X1 Z1
  cases s with
  | false =>
    have HX : Hid (V = prd0) := mkHid (by rw [HV.out]; rfl)
    go_wp2_with (refine wpList_store_abs rfl 25 (.tmp 2) (.tmp 6) rfl (w.heap.size + 1) pred0.toArray ?s1 ?s2 25 _ Z2.out (inf_pred _ rfl) rfl (by simp [pred0, Value.oneCell']) ?_; (case s1 => rfl); (case s2 => rfl); intro w9 s9 u9; have S9 := mkHid s9; have U9 := mkHid u9; clear s9 u9)
    exact bodyPost_ret (results_cell_row (p := 2) (by kernel_rfl) _ _ (w.heap.size + 1) 25 pred0.toArray (0, 0) _ rfl S9.out Tryz.underlying25 rfl (inf_pred _ rfl)) rfl ⟨⟨_, rfl, by rw [HX.out]; exact predV0 _ _⟩, U9.out.below B2.out (Nat.le_succ _)⟩
  | true =>
    have HX : Hid (V = np) := mkHid (by rw [HV.out]; rfl)
    go_wp2_with (refine wpList_load_row rfl 25 (.tmp 1) rfl w.heap.size ?x2 25 #[.int .i64 q0, .string q1, .string q2, .int .i64 q3, .slice xa xn xc] (0, 0) _ X2.out Tryz.underlying25 rfl (inf_pred _ rfl) ?_; (case x2 => rfl))
    refine (HNG.out w2 B2.out).mono ?_
    rintro e w3 ⟨⟨v, rfl, vs, rfl, hpc⟩, b3⟩
    have Z3 := mkHid (Z2.out.step b3)
    have B3 := mkHid (B2.out.trans (b3.mono B2.out.size))
    have PC := mkHid hpc
    have LT2 : Hid (w.heap.size + 1 < w2.heap.size) := mkHid Z2.out.lt
    have hl5 : vs.length = 5 := PC.out.len
    have hsz : vs.toArray.size = 5 := by rw [List.size_toArray]; exact hl5
    clear b3 hpc Z2 B2 X2
    go_wp2_with (refine wpList_store_abs rfl 25 (.tmp 2) (.tmp 8) rfl (w.heap.size + 1) vs.toArray ?s3 ?s4 25 _ Z3.out (inf_pred _ hl5) hsz.symm PC.out.one ?_; (case s3 => rfl); (case s4 => rfl); intro w9 s9 u9; have S9 := mkHid s9; have U9 := mkHid u9; clear s9 u9)
    exact bodyPost_ret (results_cell_row (p := 2) (by kernel_rfl) _ _ (w.heap.size + 1) 25 vs.toArray (0, 0) _ rfl S9.out Tryz.underlying25 rfl (inf_pred _ hl5)) rfl ⟨⟨_, rfl, _, rfl, by rw [HX.out]; exact (PC.out.upd U9.out (by show ¬ w2.heap.size ≤ w.heap.size + 1; have := LT2.out; omega)).mono (fun g hg _ => by show w.heap.size ≤ g; have : w2.heap.size ≤ g := hg; have := LT2.out; omega)⟩, U9.out.below B3.out (Nat.le_succ _)⟩
end Go.Proofs.YtmkdfbelbcocpaaGreatDoor
namespace Go.Proofs.YtmkdfbelbcocpaaGreatDoor
mutual
/-- All names are of bytes. -/
def RawP : Prd → Prop
  | .mk _ l r _ ks => (∀ y ∈ l, y < 256) ∧ (∀ y ∈ r, y < 256) ∧ RawL ks
def RawL : List Prd → Prop
  | [] => True
  | p :: ps => RawP p ∧ RawL ps
end
theorem RawL_iff : ∀ ks : List Prd, RawL ks ↔ ∀ q ∈ ks, RawP q
  | [] => by simp [RawL]
  | p :: ps => by simp [RawL, RawL_iff ps]
mutual
theorem byt_of : ∀ p, RawP p → namP p = true → BytP p
  | .mk k l r c ks, h, hn => by
    unfold RawP at h
    unfold namP at hn
    simp only [Bool.and_eq_true, decide_eq_true_eq] at hn
    unfold BytP
    exact ⟨⟨h.1, by omega⟩, ⟨h.2.1, by omega⟩, byt_ofL ks h.2.2 hn.1⟩
theorem byt_ofL : ∀ ks, RawL ks → namL ks = true → BytL ks
  | [], _, _ => by unfold BytL; trivial
  | p :: ps, h, hn => by
    unfold RawL at h
    unfold namL at hn
    rw [Bool.and_eq_true] at hn
    unfold BytL
    exact ⟨byt_of p h.1 hn.1, byt_ofL ps h.2 hn.2⟩
end
theorem couL_ge (M L : Nat) : ∀ (ks : List Prd) (n : Nat), n ≤ couL M L n ks
  | [], n => by rw [couL]; exact Nat.le_refl _
  | q :: qs, n => by
    rw [couL]
    split
    · exact Nat.le_trans (Nat.le_add_right _ _) (couL_ge M L qs _)
    · exact Nat.le_refl _
theorem couL_cnt (M L : Nat) (h : ∀ q, couP M L q ≤ M → cntP q ≤ couP M L q) : ∀ (ks : List Prd) (n : Nat), couL M L n ks ≤ M → n + cntL ks ≤ couL M L n ks
  | [], n, _ => by rw [couL, cntL]; exact Nat.le_refl _
  | q :: qs, n, hn => by
    rw [couL] at hn ⊢
    rw [cntL]
    by_cases hm : n ≤ M
    · rw [if_pos hm] at hn ⊢
      have h1 := couL_ge M L qs (n + couP M L q)
      have h2 := h q (by omega)
      have h3 := couL_cnt M L h qs _ hn
      omega
    · rw [if_neg hm] at hn
      exact absurd hn hm
theorem couP_cnt (M : Nat) : ∀ (L : Nat) (p : Prd), couP M L p ≤ M → cntP p ≤ couP M L p
  | 0, p, h => by rw [couP] at h; omega
  | L + 1, .mk k l r c ks, h => by
    rw [couP] at h ⊢
    rw [cntP]
    exact couL_cnt M L (couP_cnt M L) ks 1 h
theorem few_cnt {p : Prd} {M L : Nat} (h : fewP p M L = true) : cntP p ≤ M := by
  have h1 := of_decide_eq_true h
  exact Nat.le_trans (couP_cnt M L p h1) h1
theorem couL_eq (M L : Nat) (h : ∀ q, cntP q ≤ M → depP q ≤ L → couP M L q = cntP q) : ∀ (ks : List Prd) (n : Nat), n + cntL ks ≤ M → depL ks ≤ L → couL M L n ks = n + cntL ks
  | [], n, _, _ => by rw [couL, cntL]; rfl
  | q :: qs, n, hn, hd => by
    rw [cntL] at hn ⊢
    rw [depL] at hd
    rw [couL, if_pos (by omega), h q (by omega) (by omega), couL_eq M L h qs _ (by omega) (by omega)]
    omega
theorem couP_eq (M : Nat) : ∀ (L : Nat) (p : Prd), cntP p ≤ M → depP p ≤ L → couP M L p = cntP p
  | 0, .mk k l r c ks, _, hd => by rw [depP] at hd; omega
  | L + 1, .mk k l r c ks, hn, hd => by
    rw [couP]
    rw [cntP] at hn ⊢
    rw [depP] at hd
    exact couL_eq M L (couP_eq M L) ks 1 hn (by omega)
theorem few_of {p : Prd} {M L : Nat} (hc : cntP p ≤ M) (hd : depP p ≤ L) : fewP p M L = true := by
  unfold fewP
  rw [couP_eq M L p hc hd]
  exact decide_eq_true hc
mutual
theorem len_of : ∀ p, cntP p ≤ 1000000 → LenP p
  | .mk k l r c ks, h => by
    rw [cntP] at h
    unfold LenP
    have := len_cntL ks
    exact ⟨by omega, len_ofL ks (by omega)⟩
theorem len_ofL : ∀ ks, cntL ks ≤ 1000000 → LenL ks
  | [], _ => by unfold LenL; trivial
  | p :: ps, h => by
    rw [cntL] at h
    unfold LenL
    exact ⟨len_of p (by omega), len_ofL ps (by omega)⟩
end
theorem optN_byt {l : List Nat} (h : optN l = true) : NmB l := ⟨(optN_ok h).1, by have := (optN_ok h).2; omega⟩
mutual
theorem byt_form : ∀ p, formP p = true → BytP p
  | .mk k l r c ks, h => by
    unfold formP at h
    unfold BytP
    by_cases hk : k = 0
    · rw [if_pos hk] at h
      simp only [Bool.and_eq_true] at h
      obtain ⟨⟨⟨h1, h2⟩, h3⟩, h4⟩ := h
      have hkn : ks = [] := by simpa using h1
      subst hkn
      exact ⟨optN_byt h2, optN_byt h3, by unfold BytL; trivial⟩
    · rw [if_neg hk] at h
      simp only [Bool.and_eq_true, beq_iff_eq] at h
      obtain ⟨⟨⟨h1, rfl⟩, rfl⟩, h2⟩ := h
      exact ⟨⟨by simp, by simp⟩, ⟨by simp, by simp⟩, byt_formL ks h2⟩
theorem byt_formL : ∀ ks, formL ks = true → BytL ks
  | [], _ => by unfold BytL; trivial
  | p :: ps, h => by
    unfold formL at h
    rw [Bool.and_eq_true] at h
    unfold BytL
    exact ⟨byt_form p h.1, byt_formL ps h.2⟩
end
end Go.Proofs.YtmkdfbelbcocpaaGreatDoor
namespace Go.Proofs.YtmkdfbelbcocpaaGreatDoor
open Go.RowKit Go.Sort
theorem same_self (p : Prd) (w : World) (P P' : Nat → Prop) (vs us : List Value) (hN : cntP p ≤ 1000000) (hb : BytP p) (h : PredC w P p vs) (h' : PredC w P' p us) :
    Calls Tryz.prog 20 #[.agg vs.toArray, .agg us.toArray] w fun e w' => e = .returned (.bool true) ∧ Below w.heap.size w w' := by
  have := same_any 1000000 p p w P P' vs us hN (Nat.le_refl _) hN hb hb h h'
  rwa [(sameP_iff p p).2 rfl] at this
end Go.Proofs.YtmkdfbelbcocpaaGreatDoor
namespace Go.Proofs.YtmkdfbelbcocpaaGreatDoor
open Go.RowKit Go.Sort
theorem body_of (l : List Nat) (h : ¬ l.length < 15) : bodyP l = (l.take (l.length - 2)).drop 13 := by unfold bodyP; rw [if_neg h]
set_option maxHeartbeats 8000000 in
set_option maxRecDepth 100000 in
theorem body_any (l : List Nat) (w : World) (hl : l.length ≤ 1000000) :
    Calls Tryz.prog 27 #[.string (strN l)] w fun e w' => e = .returned (.string (strN (bodyP l))) ∧ w = w' := by
  have hz := strN_size l
  by_cases h : l.length < 15
  · have hb : bodyP l = [] := by unfold bodyP; rw [if_pos h]
    rw [hb]
    obtain ⟨n, hn⟩ : ∃ n, l.length = n := ⟨_, rfl⟩
    rw [hn] at hz h
    have h15 : (n : Int) < 15 := by omega
    clear hn hl hb
    generalize strN l = y at *
    go_enter Tryz.func27, Tryz.ntmps27
    go_wp2
    go_ret
    exact ⟨rfl, rfl⟩
  · rw [body_of l h]
    have HX := mkHid (strN_extract l 13 (l.length - 2) (by omega))
    obtain ⟨n, hn⟩ : ∃ n, l.length = n := ⟨_, rfl⟩
    rw [hn] at hz h hl HX ⊢
    have h15 : ¬ (n : Int) < 15 := by omega
    have e2 : IntKind.i64.wrap ((n : Int) - 2) = ((n - 2 : Nat) : Int) := by rw [IntWalk.i64_in _ (by omega)]; omega
    rw [← HX.out]
    clear hn HX
    generalize strN l = y at *
    go_enter Tryz.func27, Tryz.ntmps27
    go_upto_region 3 with (fail)
    go_wp2
    go_ret
    exact ⟨rfl, rfl⟩
mutual
theorem couP_dep (M : Nat) : ∀ (p : Prd) (L : Nat), couP M L p ≤ M → depP p ≤ L
  | .mk k l r c ks, 0, h => by rw [couP] at h; omega
  | .mk k l r c ks, L + 1, h => by
    rw [couP] at h
    rw [depP]
    have := couP_depL M ks L 1 h
    omega
theorem couP_depL (M : Nat) : ∀ (ks : List Prd) (L n : Nat), couL M L n ks ≤ M → depL ks ≤ L
  | [], L, n, _ => by rw [depL]; omega
  | q :: qs, L, n, h => by
    have h0 := couL_ge M L (q :: qs) n
    have hn : n ≤ M := by omega
    rw [couL, if_pos hn] at h
    have h1 := couL_ge M L qs (n + couP M L q)
    have h2 := couP_dep M q L (by omega)
    have h3 := couP_depL M qs L _ h
    rw [depL]
    omega
end
/-- Few with the bounds of a question is the parser's own bound. -/
theorem few_small (p : Prd) : fewP p 100 12 = smallP p := by
  cases hs : smallP p with
  | true =>
    unfold smallP at hs
    rw [Bool.and_eq_true, decide_eq_true_eq, decide_eq_true_eq] at hs
    exact few_of hs.1 hs.2
  | false =>
    cases hf : fewP p 100 12 with
    | false => rfl
    | true =>
      have h1 := few_cnt hf
      have h2 := couP_dep 100 p 12 (of_decide_eq_true hf)
      unfold smallP at hs
      rw [decide_eq_true h1, decide_eq_true h2] at hs
      cases hs
/-- Before the closing brace. -/
def quH (s : List Nat) : List Nat := [113, 117, 101, 115, 116, 105, 111, 110, 32, 97, 32, 123] ++ s
theorem quH_str (s : List Nat) : (⟨#[113, 117, 101, 115, 116, 105, 111, 110, 32, 97, 32, 123]⟩ : ByteArray) ++ strN s = strN (quH s) := strN_append [113, 117, 101, 115, 116, 105, 111, 110, 32, 97, 32, 123] s
theorem quT_str (s : List Nat) : strN (quH s) ++ (⟨#[125]⟩ : ByteArray) = strN (quT s) := strN_append (quH s) [125]
set_option maxHeartbeats 16000000 in
set_option maxRecDepth 100000 in
theorem meant_any (s : List Nat) (r : Prd) (hm : Meant s r) (hcr : cntP r ≤ 1000) (hbr : BytP r) (hs : s.length ≤ 100000) (hsb : ∀ y ∈ s, y < 256) (w : World) (P : Nat → Prop) (vs : List Value) (B : Nat) (hG : Good w B) (h : PredC w P r vs) :
    Calls Tryz.prog 29 #[.string (strN s), .agg vs.toArray] w fun e w' => e = .returned (.bool true) ∧ Below w.heap.size w w' := by
  obtain ⟨xa, xn, xc, rfl, -⟩ := h.form
  have bx := (Below.refl w.heap.size w).alloc (Nat.le_refl _) (.cells #[.int .i64 r.k, .string (strN r.l), .string (strN r.r), .int .i64 r.c, .slice xa xn xc] 25)
  have B1 := mkHid bx
  have X1 : Hid (HasV (w.alloc (.cells #[.int .i64 r.k, .string (strN r.l), .string (strN r.r), .int .i64 r.c, .slice xa xn xc] 25)) w.heap.size 25 [.int .i64 r.k, .string (strN r.l), .string (strN r.r), .int .i64 r.c, .slice xa xn xc]) := mkHid (heap_alloc_new w _)
  have hqb : ∀ y ∈ quT s, y < 256 := fun y hy => by
    unfold quT at hy
    simp only [List.mem_append] at hy
    rcases hy with (hy | hy) | hy
    · simp at hy; omega
    · exact hsb y hy
    · simp at hy; omega
  have hql : (quT s).length = s.length + 13 := by unfold quT; simp
  have HPS := mkHid (fun W (hW : Below w.heap.size w W) => parse_any (quT s) W B (hG.step hW).tab (by omega) hqb)
  unfold ParseR at HPS
  rw [show parseF (quT s) = _ from hm] at HPS
  have HPC := mkHid (fun W (hW : Below w.heap.size w W) => h.below hW)
  have HFW := mkHid (fun W (hW : Below w.heap.size w W) => few_any r 100 12 (by omega) (by omega) W P _ (len_of r (by omega)) (h.below hW))
  rw [few_small] at HFW
  have HCR : Hid (cntP r ≤ 1000000) := mkHid (by omega)
  have HBR := mkHid hbr
  have hz := strN_size s
  obtain ⟨n, hn⟩ : ∃ n, s.length = n := ⟨_, rfl⟩
  have d1 := quH_str s
  have d2 := quT_str s
  have z1 : ¬ 9223372036854775807 < 12 + (strN s).size := by rw [strN_size]; omega
  have z2 : ¬ 9223372036854775807 < (strN (quH s)).size + 1 := by rw [strN_size]; unfold quH; simp; omega
  rw [hql, hn] at HPS
  rw [hn] at hz
  generalize strN (quH s) = y1 at *
  generalize strN (quT s) = y2 at *
  clear bx hm hcr hbr hs hsb hG h hqb hql hn
  generalize strN s = y at *
  by_cases hfull : n + 13 ≤ 4000 ∧ smallP r = true
  · rw [if_pos hfull] at HPS
    have HFS := mkHid hfull.2
    clear hfull HFW
    generalize r.k = q0 at *
    generalize strN r.l = q1 at *
    generalize strN r.r = q2 at *
    generalize r.c = q3 at *
    generalize xa = qa at *
    generalize xn = qn at *
    generalize xc = qc at *
    go_enter Tryz.func29, Tryz.ntmps29
    go_upto_region 1 with (fail)
    generalize w.alloc (.cells #[.int .i64 q0, .string q1, .string q2, .int .i64 q3, .slice qa qn qc] 25) = w1 at *
    go_wp2_with fail
    refine (HPS.out w1 B1.out).mono ?_
    rintro e w2 ⟨v2, rfl, hv2, b2⟩
    have B2 := mkHid (B1.out.trans (b2.mono B1.out.size))
    have X2 := mkHid (X1.out.step b2)
    clear b2 HPS B1 X1
    have hv2' : PredV w1.heap.size w2 r v2 := hv2
    clear hv2
    obtain ⟨ra, rn, rc, rfl, hpb⟩ := PredV.open hv2'
    clear hv2'
    have bx := (Below.refl w2.heap.size w2).alloc (Nat.le_refl _) (.cells #[.int .i64 r.k, .string (strN r.l), .string (strN r.r), .int .i64 r.c, .slice ra rn rc] 25)
    have R3 : Hid (HasV (w2.alloc (.cells #[.int .i64 r.k, .string (strN r.l), .string (strN r.r), .int .i64 r.c, .slice ra rn rc] 25)) w2.heap.size 25 [.int .i64 r.k, .string (strN r.l), .string (strN r.r), .int .i64 r.c, .slice ra rn rc]) := mkHid (heap_alloc_new _ _)
    have X3 := mkHid (X2.out.step bx)
    have B3 := mkHid (B2.out.trans (bx.mono B2.out.size))
    have PB := mkHid (hpb.below bx)
    clear bx hpb X2 B2
    have HF2 := mkHid (fun W (hW : Below (w2.alloc (.cells #[.int .i64 r.k, .string (strN r.l), .string (strN r.r), .int .i64 r.c, .slice ra rn rc] 25)).heap.size (w2.alloc (.cells #[.int .i64 r.k, .string (strN r.l), .string (strN r.r), .int .i64 r.c, .slice ra rn rc] 25)) W) => few_any r 100 12 (by omega) (by omega) W _ _ (len_of r HCR.out) (PB.out.below hW))
    rw [few_small, HFS.out] at HF2
    have HS2 := mkHid (fun W (hW : Below (w2.alloc (.cells #[.int .i64 r.k, .string (strN r.l), .string (strN r.r), .int .i64 r.c, .slice ra rn rc] 25)).heap.size (w2.alloc (.cells #[.int .i64 r.k, .string (strN r.l), .string (strN r.r), .int .i64 r.c, .slice ra rn rc] 25)) W) (hW0 : Below w.heap.size w W) => same_self r W P _ _ _ HCR.out HBR.out (HPC.out W hW0) (PB.out.below hW))
    clear PB HPC
    generalize r.k = u0 at *
    generalize strN r.l = u1 at *
    generalize strN r.r = u2 at *
    generalize r.c = u3 at *
    go_upto_region 2 with (fail)
    generalize w2.heap.size = AR at *
    generalize w2.alloc (.cells #[.int .i64 u0, .string u1, .string u2, .int .i64 u3, .slice ra rn rc] 25) = w3 at *
    have Z3 : Hid (Below w3.heap.size w3 w3) := mkHid (Below.refl _ _)
    go_wp2_with ((refine wpList_load_wanted (by rfl) 25 (.tmp 6) rfl AR (by rfl) 25 #[.int .i64 u0, .string u1, .string u2, .int .i64 u3, .slice ra rn rc] (0, 0) _ R3.out Tryz.underlying25 rfl (inf_pred _ rfl) ?_))
    refine (HF2.out w3 Z3.out).mono ?_
    rintro e w4 ⟨rfl, b4⟩
    have B4 := mkHid (B3.out.trans (b4.mono B3.out.size))
    have X4 := mkHid (X3.out.step b4)
    have R4 := mkHid (R3.out.step b4)
    have Z4 := mkHid (Z3.out.trans (b4.mono Z3.out.size))
    clear b4 HF2 X3 R3 Z3 B3
    go_wp2_with (first | (refine wpList_load_wanted (by rfl) 25 (.tmp 3) rfl w.heap.size (by rfl) 25 #[.int .i64 q0, .string q1, .string q2, .int .i64 q3, .slice qa qn qc] (0, 0) _ X4.out Tryz.underlying25 rfl (inf_pred _ rfl) ?_) | (refine wpList_load_wanted (by rfl) 25 (.tmp 6) rfl AR (by rfl) 25 #[.int .i64 u0, .string u1, .string u2, .int .i64 u3, .slice ra rn rc] (0, 0) _ R4.out Tryz.underlying25 rfl (inf_pred _ rfl) ?_))
    refine (HS2.out w4 Z4.out B4.out).mono ?_
    rintro e w5 ⟨rfl, b5⟩
    have B5 := mkHid (B4.out.trans (b5.mono B4.out.size))
    clear b5 HS2 X4 R4 Z4 B4
    go_wp2
    go_ret
    exact ⟨rfl, B5.out⟩
  · rw [if_neg hfull] at HPS
    have hbig : smallP r = true → (3987 : Int) < (n : Int) := fun h => by
      have : ¬ n + 13 ≤ 4000 := fun h1 => hfull ⟨h1, h⟩
      omega
    clear hfull
    generalize smallP r = b at *
    generalize r.k = q0 at *
    generalize strN r.l = q1 at *
    generalize strN r.r = q2 at *
    generalize r.c = q3 at *
    generalize xa = qa at *
    generalize xn = qn at *
    generalize xc = qc at *
    have HBIG := mkHid hbig
    clear hbig
    go_enter Tryz.func29, Tryz.ntmps29
    go_upto_region 1 with (fail)
    generalize w.alloc (.cells #[.int .i64 q0, .string q1, .string q2, .int .i64 q3, .slice qa qn qc] 25) = w1 at *
    go_wp2_with fail
    refine (HPS.out w1 B1.out).mono ?_
    rintro e w2 ⟨v2, rfl, hv2, b2⟩
    have B2 := mkHid (B1.out.trans (b2.mono B1.out.size))
    have X2 := mkHid (X1.out.step b2)
    clear b2 HPS B1 X1
    have hv2' : PredV w1.heap.size w2 prd0 v2 := hv2
    clear hv2
    obtain ⟨ra, rn, rc, rfl, -⟩ := PredV.open hv2'
    clear hv2'
    have bx := (Below.refl w2.heap.size w2).alloc (Nat.le_refl _) (.cells #[.int .i64 prd0.k, .string (strN prd0.l), .string (strN prd0.r), .int .i64 prd0.c, .slice ra rn rc] 25)
    have X3 := mkHid (X2.out.step bx)
    have B3 := mkHid (B2.out.trans (bx.mono B2.out.size))
    clear bx X2 B2
    generalize prd0.k = u0 at *
    generalize strN prd0.l = u1 at *
    generalize strN prd0.r = u2 at *
    generalize prd0.c = u3 at *
    go_upto_region 2 with (fail)
    generalize w2.heap.size = AR at *
    generalize w2.alloc (.cells #[.int .i64 u0, .string u1, .string u2, .int .i64 u3, .slice ra rn rc] 25) = w3 at *
    go_wp2_with ((refine wpList_load_row rfl 25 (.tmp 3) rfl w.heap.size ?la1 25 #[.int .i64 q0, .string q1, .string q2, .int .i64 q3, .slice qa qn qc] (0, 0) _ X3.out Tryz.underlying25 rfl (inf_pred _ rfl) ?_; (case la1 => rfl)))
    refine (HFW.out w3 B3.out).mono ?_
    rintro e w4 ⟨rfl, b4⟩
    have B4 := mkHid (B3.out.trans (b4.mono B3.out.size))
    clear b4 HFW X3 B3
    cases b with
    | true =>
      have hb := HBIG.out rfl
      go_wp2
      go_ret
      exact ⟨rfl, B4.out⟩
    | false =>
      clear HBIG
      go_wp2
      go_ret
      exact ⟨rfl, B4.out⟩
end Go.Proofs.YtmkdfbelbcocpaaGreatDoor
