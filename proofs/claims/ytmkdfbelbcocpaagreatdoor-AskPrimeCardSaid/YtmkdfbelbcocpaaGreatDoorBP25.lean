/- Whether choices are met by binds (walk of Meets). Before, SameAtom and Find of the reference (walks). The normal form's choices are met by binds iff the predicate holds (plain). No program in sight. The law's hits and logic (walks). The prime clauses are met iff the predicate is true for a set, and none can be shortened (plain). No program in sight. The examples hold (walk of cloaklaw05.sane; printed by wip/tools/gensane5.py). -/
import Derived.Test.YtmkdfbelbcocpaaGreatDoorBP24
import Derived.Test.YtmkdfbelbcocpaaGreatDoorBP15
import Derived.Test.YtmkdfbelbcocpaaGreatDoorBP22
set_option linter.unusedVariables false
set_option linter.unusedSimpArgs false
namespace Go.Proofs.YtmkdfbelbcocpaaGreatDoor
open Go.RowKit Go.Sort Go.Maps
def cntY (f : Ky → Bool) (aa : List Prd) : Nat := aa.countP (fun q => f (kyOf q))
def needC (f : Ky → Bool) (c : Chc) : Bool := decide (c.need ≤ (cntY f c.atoms : Int))
theorem all_dropG {α : Type} (f : α → Bool) (l : List α) (i : Nat) (k : α) (h : l[i]? = some k) : (l.drop i).all f = (f k && (l.drop (i + 1)).all f) := by
  rw [drop_cons_get l i k h, List.all_cons]
theorem cntY_take (f : Ky → Bool) (aa : List Prd) (j : Nat) (q : Prd) (h : aa[j]? = some q) : cntY f (aa.take (j + 1)) = cntY f (aa.take j) + (if f (kyOf q) = true then 1 else 0) := by
  unfold cntY
  rw [List.take_add_one, h, List.countP_append]
  simp [List.countP_cons]
theorem ChsR.get {w : World} {cs : List Chc} {ao : Option Addr} (h : ChsR w cs ao) {i : Nat} (hi : i < cs.length) : ∃ c, cs[i]? = some c ∧ ∃ g off, ao = some ⟨g, off, none⟩ ∧ g < w.heap.size ∧ ∃ xo xc, Reads w g (off + i * 2) [.int .i64 c.need, .slice xo c.atoms.length xc] ∧ KidR w (fun g => g < w.heap.size) c.atoms xo := by
  rcases h with h | ⟨g, off, h1, h2, h3⟩
  · rw [h] at hi; exact absurd hi (Nat.not_lt_zero _)
  · obtain ⟨xo, xc, h4, h5⟩ := h3 i _ (List.getElem?_eq_getElem hi)
    exact ⟨cs[i], List.getElem?_eq_getElem hi, g, off, h1, h2, xo, xc, h4, h5⟩
theorem KidR.get {w : World} {P : Nat → Prop} {ks : List Prd} {ao : Option Addr} (h : KidR w P ks ao) {i : Nat} (hi : i < ks.length) : ∃ q, ks[i]? = some q ∧ ∃ g off, ao = some ⟨g, off, none⟩ ∧ g < w.heap.size ∧ ∃ vs, PredC w P q vs ∧ Reads w g (off + i * 5) vs := by
  rcases h with h | ⟨g, off, h1, h2, h3, h4⟩
  · rw [h] at hi; exact absurd hi (Nat.not_lt_zero _)
  · obtain ⟨vs, hv1, hv2⟩ := KidsC.at ks g off i _ (List.getElem?_eq_getElem hi) h4
    exact ⟨ks[i], List.getElem?_eq_getElem hi, g, off, h1, h3, vs, hv1, hv2⟩
end Go.Proofs.YtmkdfbelbcocpaaGreatDoor
namespace Go.Proofs.YtmkdfbelbcocpaaGreatDoor
open Go.RowKit Go.Sort Go.Maps
/-- Both names are of bytes. -/
def NmY (q : Prd) : Prop := (∀ y ∈ q.l, y < 256) ∧ (∀ y ∈ q.r, y < 256)
theorem nmY_of {q : Prd} (h : BytP q) : NmY q := by
  obtain ⟨k, l, r, c, ks⟩ := q
  unfold BytP at h
  exact ⟨h.1.1, h.2.1.1⟩
theorem ltK_ifs (a b : Ky) : ltK a b = if (a.l == b.l) = false then ltL a.l b.l else if (a.r == b.r) = false then ltL a.r b.r else decide (a.c < b.c) := by
  rw [Bool.eq_iff_iff, ltK_iff]
  by_cases h1 : a.l = b.l
  · have e1 : (a.l == b.l) = true := beq_iff_eq.mpr h1
    rw [e1, if_neg (by simp)]
    by_cases h2 : a.r = b.r
    · have e2 : (a.r == b.r) = true := beq_iff_eq.mpr h2
      rw [e2, if_neg (by simp), h1, h2, ltL_irrefl, ltL_irrefl, decide_eq_true_eq]
      simp
    · have e2 : (a.r == b.r) = false := beq_eq_false_iff_ne.mpr h2
      rw [e2, if_pos rfl, h1, ltL_irrefl]
      simp [h2]
  · have e1 : (a.l == b.l) = false := beq_eq_false_iff_ne.mpr h1
    rw [e1, if_pos rfl]
    simp [h1]
theorem same_key (a b : Ky) : (!ltK a b && !ltK b a) = (a == b) := by
  rw [Bool.eq_iff_iff, Bool.and_eq_true, beq_iff_eq]
  simp only [Bool.not_eq_true']
  constructor
  · rintro ⟨h1, h2⟩
    rcases ltK_total a b with h | h | h
    · rw [h1] at h; cases h
    · exact h
    · rw [h2] at h; cases h
  · rintro rfl
    exact ⟨ltK_irrefl a, ltK_irrefl a⟩
set_option maxHeartbeats 8000000 in
set_option maxRecDepth 100000 in
theorem before_any (ka kb : Int) (al ar bl br : List Nat) (ac bc : Int) (x y : Value) (hx : x.oneCell' = true) (hy : y.oneCell' = true) (w : World) (h1 : ∀ z ∈ al, z < 256) (h2 : ∀ z ∈ ar, z < 256) (h3 : ∀ z ∈ bl, z < 256) (h4 : ∀ z ∈ br, z < 256) :
    Calls Tryz.prog 173 #[.agg #[.int .i64 ka, .string (strN al), .string (strN ar), .int .i64 ac, x], .agg #[.int .i64 kb, .string (strN bl), .string (strN br), .int .i64 bc, y]] w fun e w' => e = .returned (.bool (ltK ⟨al, ar, ac⟩ ⟨bl, br, bc⟩)) ∧ RowKit.Below w.heap.size w w' := by
  have HV : Hid (ltK ⟨al, ar, ac⟩ ⟨bl, br, bc⟩ = if (al == bl) = false then ltL al bl else if (ar == br) = false then ltL ar br else decide (ac < bc)) := mkHid (ltK_ifs _ _)
  have he1 := strN_eqL al bl h1 h3
  have he2 := strN_eqL ar br h2 h4
  have hl1 := strN_less al bl h1 h3
  have hl2 := strN_less ar br h2 h4
  have bx := ((RowKit.Below.refl w.heap.size w).alloc (Nat.le_refl _) (.cells #[.int .i64 ka, .string (strN al), .string (strN ar), .int .i64 ac, x] 25)).alloc (by simp) (.cells #[.int .i64 kb, .string (strN bl), .string (strN br), .int .i64 bc, y] 25)
  have B1 := mkHid bx
  have X1 : Hid (HasV ((w.alloc (.cells #[.int .i64 ka, .string (strN al), .string (strN ar), .int .i64 ac, x] 25)).alloc (.cells #[.int .i64 kb, .string (strN bl), .string (strN br), .int .i64 bc, y] 25)) w.heap.size 25 [.int .i64 ka, .string (strN al), .string (strN ar), .int .i64 ac, x]) := mkHid (heap_alloc2_old _ _ _)
  have Y1 : Hid (HasV ((w.alloc (.cells #[.int .i64 ka, .string (strN al), .string (strN ar), .int .i64 ac, x] 25)).alloc (.cells #[.int .i64 kb, .string (strN bl), .string (strN br), .int .i64 bc, y] 25)) (w.heap.size + 1) 25 [.int .i64 kb, .string (strN bl), .string (strN br), .int .i64 bc, y]) := mkHid (heap_alloc2_new _ _ _)
  obtain ⟨V, hV⟩ : ∃ V, ltK ⟨al, ar, ac⟩ ⟨bl, br, bc⟩ = V := ⟨_, rfl⟩
  rw [hV] at HV ⊢
  clear bx hV h1 h2 h3 h4
  generalize (al == bl) = e1 at *
  generalize (ar == br) = e2 at *
  generalize ltL al bl = l1 at *
  generalize ltL ar br = l2 at *
  generalize strN al = y1 at *
  generalize strN ar = y2 at *
  generalize strN bl = z1 at *
  generalize strN br = z2 at *
  go_enter Tryz.func173, Tryz.ntmps173
  go_upto_region 1 with (fail)
  generalize (w.alloc (.cells #[.int .i64 ka, .string y1, .string y2, .int .i64 ac, x] 25)).alloc (.cells #[.int .i64 kb, .string z1, .string z2, .int .i64 bc, y] 25) = w1 at *
  have x1 := X1.out.cell 1 _ rfl
  have x2 := X1.out.cell 2 _ rfl
  have x3 := X1.out.cell 3 _ rfl
  have u1 := Y1.out.cell 1 _ rfl
  have u2 := Y1.out.cell 2 _ rfl
  have u3 := Y1.out.cell 3 _ rfl
  cases e1 with
  | false =>
    have HX : Hid (V = l1) := mkHid (by rw [HV.out, if_pos rfl])
    go_wp2
    go_ret
    exact ⟨ret_bool HX.out.symm, B1.out⟩
  | true =>
    rw [if_neg (by simp)] at HV
    cases e2 with
    | false =>
      have HX : Hid (V = l2) := mkHid (by rw [HV.out, if_pos rfl])
      go_wp2
      go_ret
      exact ⟨ret_bool HX.out.symm, B1.out⟩
    | true =>
      have HX : Hid (V = decide (ac < bc)) := mkHid (by rw [HV.out, if_neg (by simp)])
      go_wp2
      go_ret
      exact ⟨ret_bool HX.out.symm, B1.out⟩
set_option maxHeartbeats 8000000 in
set_option maxRecDepth 100000 in
theorem satom_any (ka kb : Int) (al ar bl br : List Nat) (ac bc : Int) (x y : Value) (hx : x.oneCell' = true) (hy : y.oneCell' = true) (w : World) (h1 : ∀ z ∈ al, z < 256) (h2 : ∀ z ∈ ar, z < 256) (h3 : ∀ z ∈ bl, z < 256) (h4 : ∀ z ∈ br, z < 256) :
    Calls Tryz.prog 112 #[.agg #[.int .i64 ka, .string (strN al), .string (strN ar), .int .i64 ac, x], .agg #[.int .i64 kb, .string (strN bl), .string (strN br), .int .i64 bc, y]] w fun e w' => e = .returned (.bool ((⟨al, ar, ac⟩ : Ky) == ⟨bl, br, bc⟩)) ∧ RowKit.Below w.heap.size w w' := by
  have HV : Hid (((⟨al, ar, ac⟩ : Ky) == ⟨bl, br, bc⟩) = (!ltK ⟨al, ar, ac⟩ ⟨bl, br, bc⟩ && !ltK ⟨bl, br, bc⟩ ⟨al, ar, ac⟩)) := mkHid (same_key _ _).symm
  have H1 := mkHid (fun W => before_any ka kb al ar bl br ac bc x y hx hy W h1 h2 h3 h4)
  have H2 := mkHid (fun W => before_any kb ka bl br al ar bc ac y x hy hx W h3 h4 h1 h2)
  have bx := ((RowKit.Below.refl w.heap.size w).alloc (Nat.le_refl _) (.cells #[.int .i64 ka, .string (strN al), .string (strN ar), .int .i64 ac, x] 25)).alloc (by simp) (.cells #[.int .i64 kb, .string (strN bl), .string (strN br), .int .i64 bc, y] 25)
  have B1 := mkHid bx
  have X1 : Hid (HasV ((w.alloc (.cells #[.int .i64 ka, .string (strN al), .string (strN ar), .int .i64 ac, x] 25)).alloc (.cells #[.int .i64 kb, .string (strN bl), .string (strN br), .int .i64 bc, y] 25)) w.heap.size 25 [.int .i64 ka, .string (strN al), .string (strN ar), .int .i64 ac, x]) := mkHid (heap_alloc2_old _ _ _)
  have Y1 : Hid (HasV ((w.alloc (.cells #[.int .i64 ka, .string (strN al), .string (strN ar), .int .i64 ac, x] 25)).alloc (.cells #[.int .i64 kb, .string (strN bl), .string (strN br), .int .i64 bc, y] 25)) (w.heap.size + 1) 25 [.int .i64 kb, .string (strN bl), .string (strN br), .int .i64 bc, y]) := mkHid (heap_alloc2_new _ _ _)
  obtain ⟨V, hV⟩ : ∃ V, ((⟨al, ar, ac⟩ : Ky) == ⟨bl, br, bc⟩) = V := ⟨_, rfl⟩
  rw [hV] at HV ⊢
  clear bx hV h1 h2 h3 h4
  generalize ltK ⟨al, ar, ac⟩ ⟨bl, br, bc⟩ = l1 at *
  generalize ltK ⟨bl, br, bc⟩ ⟨al, ar, ac⟩ = l2 at *
  generalize strN al = y1 at *
  generalize strN ar = y2 at *
  generalize strN bl = z1 at *
  generalize strN br = z2 at *
  go_enter Tryz.func112, Tryz.ntmps112
  go_upto_region 1 with (fail)
  generalize (w.alloc (.cells #[.int .i64 ka, .string y1, .string y2, .int .i64 ac, x] 25)).alloc (.cells #[.int .i64 kb, .string z1, .string z2, .int .i64 bc, y] 25) = w1 at *
  go_wp2_with (first | (refine wpList_load_row rfl 25 (.tmp 2) rfl w.heap.size ?a1 25 #[.int .i64 ka, .string y1, .string y2, .int .i64 ac, x] (0, 0) _ X1.out Tryz.underlying25 rfl (inf_pred _ rfl) ?_; (case a1 => rfl)) | (refine wpList_load_row rfl 25 (.tmp 3) rfl (w.heap.size + 1) ?a2 25 #[.int .i64 kb, .string z1, .string z2, .int .i64 bc, y] (0, 0) _ Y1.out Tryz.underlying25 rfl (inf_pred _ rfl) ?_; (case a2 => rfl)))
  refine (H1.out w1).mono ?_
  rintro e w2 ⟨rfl, b2⟩
  have X2 := mkHid (X1.out.step b2)
  have Y2 := mkHid (Y1.out.step b2)
  have B2 := mkHid (B1.out.trans (b2.mono B1.out.size))
  clear b2 X1 Y1 B1
  cases l1 with
  | true =>
    have HX : Hid (V = false) := mkHid (by rw [HV.out]; rfl)
    go_wp2
    go_ret
    exact ⟨ret_bool HX.out.symm, B2.out⟩
  | false =>
    have HX : Hid (V = !l2) := mkHid (by rw [HV.out]; rfl)
    go_wp2_with (first | (refine wpList_load_wanted (by rfl) 25 (.tmp 2) rfl w.heap.size (by rfl) 25 #[.int .i64 ka, .string y1, .string y2, .int .i64 ac, x] (0, 0) _ X2.out Tryz.underlying25 rfl (inf_pred _ rfl) ?_) | (refine wpList_load_wanted (by rfl) 25 (.tmp 3) rfl (w.heap.size + 1) (by rfl) 25 #[.int .i64 kb, .string z1, .string z2, .int .i64 bc, y] (0, 0) _ Y2.out Tryz.underlying25 rfl (inf_pred _ rfl) ?_))
    refine (H2.out w2).mono ?_
    rintro e w3 ⟨rfl, b3⟩
    have B3 := mkHid (B2.out.trans (b3.mono B2.out.size))
    clear b3 X2 Y2 B2
    go_wp2
    go_ret
    exact ⟨ret_bool HX.out.symm, B3.out⟩
/-- The index of an atom, from i on. -/
def fndG (k : Ky) : Nat → List Prd → Int
  | _, [] => -1
  | i, q :: qs => if (kyOf q == k) = true then (i : Int) else fndG k (i + 1) qs
def fndP (ks : List Prd) (k : Ky) : Int := fndG k 0 ks
theorem fndG_drop (k : Ky) (ks : List Prd) (i : Nat) (q : Prd) (h : ks[i]? = some q) : fndG k i (ks.drop i) = if (kyOf q == k) = true then (i : Int) else fndG k (i + 1) (ks.drop (i + 1)) := by
  rw [drop_cons_get ks i q h, fndG]
set_option maxHeartbeats 8000000 in
set_option maxRecDepth 100000 in
theorem find_any (w : World) (P P' : Nat → Prop) (ks : List Prd) (ao : Option Addr) (n cap : Nat) (x : Prd) (us : List Value) (hn : n = ks.length) (hbig : n ≤ 1000000) (hks : ∀ q ∈ ks, NmY q) (hx : NmY x) (hk : KidR w P ks ao) (hxp : PredC w P' x us) :
    Calls Tryz.prog 43 #[.slice ao n cap, .agg us.toArray] w fun e w' => e = .returned (.int .i64 (fndP ks (kyOf x))) ∧ RowKit.Below w.heap.size w w' := by
  obtain ⟨va, vn, vc, rfl, -⟩ := hxp.form
  have bx := (RowKit.Below.refl w.heap.size w).alloc (Nat.le_refl _) (.cells #[.int .i64 x.k, .string (strN x.l), .string (strN x.r), .int .i64 x.c, .slice va vn vc] 25)
  have B1 := mkHid bx
  have X1 : Hid (HasV (w.alloc (.cells #[.int .i64 x.k, .string (strN x.l), .string (strN x.r), .int .i64 x.c, .slice va vn vc] 25)) w.heap.size 25 [.int .i64 x.k, .string (strN x.l), .string (strN x.r), .int .i64 x.c, .slice va vn vc]) := mkHid (heap_alloc_new w _)
  have HSA := mkHid (fun (q : Prd) (hq : NmY q) (v : Value) (hv : v.oneCell' = true) W => satom_any q.k x.k q.l q.r x.l x.r q.c x.c v (.slice va vn vc) hv rfl W hq.1 hq.2 hx.1 hx.2)
  have HK := mkHid (fun W (hW : RowKit.Below w.heap.size w W) => hk.below hW)
  have HN := mkHid hn
  have HKS := mkHid hks
  have S0 : Hid (fndP ks (kyOf x) = fndG (kyOf x) 0 (ks.drop 0)) := mkHid rfl
  have hky : (⟨x.l, x.r, x.c⟩ : Ky) = kyOf x := rfl
  rw [hky] at HSA
  clear bx hk hn hks hx hxp hky
  obtain ⟨V, hV⟩ : ∃ V, fndP ks (kyOf x) = V := ⟨_, rfl⟩
  rw [hV] at S0 ⊢
  clear hV
  generalize kyOf x = K at *
  generalize x.k = v0 at *
  generalize strN x.l = v1 at *
  generalize strN x.r = v2 at *
  generalize x.c = v3 at *
  go_enter Tryz.func43, Tryz.ntmps43
  go_upto_region 1 with (fail)
  generalize w.alloc (.cells #[.int .i64 v0, .string v1, .string v2, .int .i64 v3, .slice va vn vc] 25) = w1 at *
  go_wp2_with fail
  go_loopw [5] (fun cc wr => ∃ (i : Nat), cc = .int .i64 i ∧ i ≤ n ∧ Hid (RowKit.Below w.heap.size w wr) ∧ Hid (HasV wr w.heap.size 25 [.int .i64 v0, .string v1, .string v2, .int .i64 v3, .slice va vn vc]) ∧ Hid (V = fndG K i (ks.drop i))) (fun c _ => (n - intOf c).toNat)
  case atStart => exact ⟨0, rfl, by omega, B1, X1, S0⟩
  case round =>
    clear S0 B1 X1
    obtain ⟨i, rfl, hi, hw, hx, hv⟩ := hrel
    have e2 : IntKind.i64.wrap ((i : Int) + 1) = ((i + 1 : Nat) : Int) := IntWalk.i64_in _ (by omega)
    by_cases hlt : i < n
    · have ii : (i : Int) < n := by omega
      obtain ⟨q, hqi, g, off, hao, hg, us, hpc, hrd⟩ := (HK.out wr hw.out).get (i := i) (by rw [← HN.out]; exact hlt)
      have HST := mkHid (hv.out.trans (fndG_drop K ks i q hqi))
      obtain ⟨xa, xn, xc, rfl, -⟩ := hpc.form
      have HCL := mkHid (fun W (_ : RowKit.Below wr.heap.size wr W) => HSA.out q (HKS.out q (List.mem_of_getElem? hqi)) (.slice xa xn xc) rfl W)
      have hkq : (⟨q.l, q.r, q.c⟩ : Ky) = kyOf q := rfl
      rw [hkq] at HCL
      have s0 := hrd 0 _ rfl
      have s1 := hrd 1 _ rfl
      have s2 := hrd 2 _ rfl
      have s3 := hrd 3 _ rfl
      have s4 := hrd 4 _ rfl
      rw [Nat.add_zero] at s0
      have t0 := hx.out.cell 0 _ rfl
      have t1 := hx.out.cell 1 _ rfl
      have t2 := hx.out.cell 2 _ rfl
      have t3 := hx.out.cell 3 _ rfl
      have t4 := hx.out.cell 4 _ rfl
      have HAO := mkHid hao
      clear hrd hpc hqi hv hkq
      subst hao
      generalize (kyOf q == K) = rb at *
      generalize q.k = q0 at *
      generalize strN q.l = q1 at *
      generalize strN q.r = q2 at *
      generalize q.c = q3 at *
      go_upto_region 4 with (fail)
      have r1 := regr wr (fun W hW => HCL.out W hW)
      have a0' := cell_regrown s0
      have a1' := cell_regrown s1
      have a2' := cell_regrown s2
      have a3' := cell_regrown s3
      have a4' := cell_regrown s4
      have b0' := cell_regrown t0
      have b1' := cell_regrown t1
      have b2' := cell_regrown t2
      have b3' := cell_regrown t3
      have b4' := cell_regrown t4
      clear s0 s1 s2 s3 s4 t0 t1 t2 t3 t4
      refine wp_region_quiet_below (by kernel_rfl) (by kernel_rfl) ?_
      repeat (quiet_step (with_reducible (exact r1 _ _)))
      refine wpQuiet_nil ?_
      intro _ hw'
      obtain ⟨⟨dq, osq⟩, hw''⟩ := hw'
      subst hw''
      have BB := below_regrown wr dq osq
      have B3 := mkHid (hw.out.trans (BB.mono hw.out.size))
      have X3 := mkHid (hx.out.step BB)
      clear r1 a0' a1' a2' a3' a4' b0' b1' b2' b3' b4' BB hw hx
      generalize grow (redrawn wr dq) osq = wy at *
      cases rb with
      | true =>
        have HX : Hid (V = (i : Int)) := mkHid (by rw [HST.out, if_pos rfl])
        go_wp2
        go_ret
        exact ⟨ret_int HX.out.symm, B3.out⟩
      | false =>
        have HX : Hid (V = fndG K (i + 1) (ks.drop (i + 1))) := mkHid (by rw [HST.out, if_neg (by simp)])
        go_wp2
        go_roundw
        case rel => exact ⟨i + 1, by go_num, by omega, B3, X3, HX⟩
        case measure => simp only [intOf]; omega
    · have ii : ¬ ((i : Int) < n) := by omega
      have HX : Hid (V = -1) := mkHid (by rw [hv.out, List.drop_eq_nil_of_le (by rw [← HN.out]; omega), fndG])
      go_wp2
      go_ret
      exact ⟨ret_int HX.out.symm, hw.out⟩
end Go.Proofs.YtmkdfbelbcocpaaGreatDoor
namespace Go.Proofs.YtmkdfbelbcocpaaGreatDoor
theorem valid_form2 {p : Prd} (h : validP p = true) : formP p = true := by
  unfold validP at h
  rw [Bool.and_eq_true] at h
  exact h.2
end Go.Proofs.YtmkdfbelbcocpaaGreatDoor
namespace Go.Proofs.YtmkdfbelbcocpaaGreatDoor
open Go.RowKit Go.Sort Go.Maps
/-- An atom of ks is in the set S. -/
def inY (ks : List Prd) (S : Nat) (k : Ky) : Bool := decide (0 ≤ fndP ks k) && S.testBit (fndP ks k).toNat
/-- An atom's truth: that of the set, or of its constant. -/
def inL (ks : List Prd) (S : Nat) (k : Ky) : Bool := if fndP ks k < 0 then decide (0 ≤ k.c) else S.testBit (fndP ks k).toNat
theorem fndG_form (k : Ky) : ∀ (ks : List Prd) (i : Nat), fndG k i ks = -1 ∨ ∃ j : Nat, fndG k i ks = (j : Int) ∧ i ≤ j ∧ j < i + ks.length
  | [], i => .inl (by rw [fndG])
  | q :: qs, i => by
    rw [fndG]
    by_cases hk : (kyOf q == k) = true
    · rw [if_pos hk]
      exact .inr ⟨i, rfl, Nat.le_refl _, by simp⟩
    · rw [if_neg hk]
      rcases fndG_form k qs (i + 1) with h | ⟨j, h1, h2, h3⟩
      · exact .inl h
      · exact .inr ⟨j, h1, by omega, by rw [List.length_cons]; omega⟩
theorem fnd_form (ks : List Prd) (k : Ky) : fndP ks k = -1 ∨ ∃ j : Nat, fndP ks k = (j : Int) ∧ j < ks.length := by
  rcases fndG_form k ks 0 with h | ⟨j, h1, h2, h3⟩
  · exact .inl h
  · exact .inr ⟨j, h1, by omega⟩
set_option maxHeartbeats 16000000 in
set_option maxRecDepth 100000 in
theorem hits_any (w : World) (cs : List Chc) (lo : Option Addr) (ln lc : Nat) (ks : List Prd) (ao : Option Addr) (na ac S : Nat) (hln : ln = cs.length) (hlb : ln ≤ 1000000) (hna : na = ks.length) (hna8 : na ≤ 8) (hS : S < 256)
    (hcs : ∀ c ∈ cs, c.atoms.length ≤ 1000000 ∧ ∀ q ∈ c.atoms, NmY q) (hks : ∀ q ∈ ks, NmY q) (hc : ChsR w cs lo) (hk : KidR w (fun _ => True) ks ao) :
    Calls Tryz.prog 33 #[.slice lo ln lc, .slice ao na ac, .int .i64 (S : Int)] w fun e w' => e = .returned (.bool (cs.all (needC (inY ks S)))) ∧ RowKit.Below w.heap.size w w' := by
  have HC := mkHid (fun W (hW : RowKit.Below w.heap.size w W) => hc.below hW)
  have HFI := mkHid (fun W (hW : RowKit.Below w.heap.size w W) (P' : Nat → Prop) (x : Prd) (us : List Value) (hx : NmY x) (hxp : PredC W P' x us) => find_any W _ P' ks ao na ac x us hna (by omega) hks hx (hk.below hW) hxp)
  have HLN := mkHid hln
  have HA := mkHid hcs
  have HNA := mkHid hna
  have HS := mkHid hS
  have B0 := mkHid (RowKit.Below.refl w.heap.size w)
  have S0 : Hid (cs.all (needC (inY ks S)) = (cs.drop 0).all (needC (inY ks S))) := mkHid rfl
  obtain ⟨V, hV⟩ : ∃ V, cs.all (needC (inY ks S)) = V := ⟨_, rfl⟩
  rw [hV] at S0 ⊢
  clear hc hk hln hcs hna hS hV hks
  go_enter Tryz.func33, Tryz.ntmps33
  go_wp2_with fail
  go_loopw [7] (fun cc wr => ∃ (i : Nat), cc = .int .i64 i ∧ i ≤ ln ∧ Hid (RowKit.Below w.heap.size w wr) ∧ Hid (V = (cs.drop i).all (needC (inY ks S)))) (fun c _ => (ln - intOf c).toNat)
  case atStart => exact ⟨0, rfl, by omega, B0, S0⟩
  case round =>
    clear S0 B0
    obtain ⟨i, rfl, hi, hw, hv⟩ := hrel
    have e2 : IntKind.i64.wrap ((i : Int) + 1) = ((i + 1 : Nat) : Int) := IntWalk.i64_in _ (by omega)
    by_cases hlt : i < ln
    · have ii : (i : Int) < ln := by omega
      obtain ⟨c, hci, g, off, hlo, hg, xo, xc, hrd, hkr⟩ := (HC.out wr hw.out).get (i := i) (by rw [← HLN.out]; exact hlt)
      have HST := mkHid (hv.out.trans (all_dropG (needC (inY ks S)) cs i c hci))
      have HAC := mkHid (HA.out c (List.mem_of_getElem? hci))
      have HNC : Hid (needC (inY ks S) c = decide (c.need ≤ (cntY (inY ks S) c.atoms : Int))) := mkHid rfl
      have HRD := mkHid hrd
      have HKR := mkHid hkr
      have HG := mkHid hg
      have HLO := mkHid hlo
      clear hrd hkr hci hg hv
      subst hlo
      obtain ⟨cat, hcat⟩ : ∃ cat, c.atoms = cat := ⟨_, rfl⟩
      rw [hcat] at HAC HNC HRD HKR
      clear hcat
      generalize needC (inY ks S) c = nc at *
      generalize c.need = nd at *
      obtain ⟨na2, hn2⟩ : ∃ na2, cat.length = na2 := ⟨_, rfl⟩
      have HN2 := mkHid hn2
      rw [hn2] at HAC HRD
      clear hn2
      have na28 := HAC.out.1
      go_wp2_with fail
      have T0 : Hid ((0 : Nat) = cntY (inY ks S) (cat.take 0)) := mkHid rfl
      have Z0 := mkHid (RowKit.Below.refl wr.heap.size wr)
      generalize wr = wo at *
      go_loopw [9, 8] (fun jv mv wr => ∃ (j k : Nat), jv = .int .i64 j ∧ mv = .int .i64 k ∧ j ≤ na2 ∧ k ≤ j ∧ Hid (RowKit.Below wo.heap.size wo wr) ∧ Hid (k = cntY (inY ks S) (cat.take j))) (fun j _ _ => (na2 - intOf j).toNat)
      case atStart => exact ⟨0, 0, rfl, rfl, by omega, by omega, Z0, T0⟩
      case round =>
        clear T0 Z0
        obtain ⟨j, k, rfl, rfl, hj, hkj, hq, hct⟩ := hrel
        have e3 : IntKind.i64.wrap ((j : Int) + 1) = ((j + 1 : Nat) : Int) := IntWalk.i64_in _ (by omega)
        have e4 : IntKind.i64.wrap ((k : Int) + 1) = ((k + 1 : Nat) : Int) := IntWalk.i64_in _ (by omega)
        have HR2 := mkHid (HRD.out.of_block (hq.out.block g HG.out))
        have s0 := HR2.out 0 _ rfl
        have s1 := HR2.out 1 _ rfl
        rw [Nat.add_zero] at s0
        clear HR2
        by_cases hjl : j < na2
        · have jj : (j : Int) < na2 := by omega
          obtain ⟨q, hqi, g2, off2, hxo, hg2, us, hpc, hrd⟩ := (HKR.out.any hq.out).get (i := j) (by rw [HN2.out]; exact hjl)
          have HC1 := mkHid (cntY_take (inY ks S) cat j q hqi)
          rw [← hct.out] at HC1
          have HFQ := mkHid (HFI.out wr (hw.out.trans (hq.out.mono hw.out.size)) _ q us (HAC.out.2 q (List.mem_of_getElem? hqi)) hpc)
          have HIY : Hid (inY ks S (kyOf q) = (decide (0 ≤ fndP ks (kyOf q)) && S.testBit (fndP ks (kyOf q)).toNat)) := mkHid rfl
          have HFO := mkHid (fnd_form ks (kyOf q))
          rw [← HNA.out] at HFO
          obtain ⟨xa, xn, xd, rfl, -⟩ := hpc.form
          have t0 := hrd 0 _ rfl
          have t1 := hrd 1 _ rfl
          have t2 := hrd 2 _ rfl
          have t3 := hrd 3 _ rfl
          have t4 := hrd 4 _ rfl
          rw [Nat.add_zero] at t0
          have HXO := mkHid hxo
          clear hrd hpc hqi hct
          subst hxo
          generalize inY ks S (kyOf q) = iy at *
          generalize fndP ks (kyOf q) = fi at *
          generalize q.k = r0 at *
          generalize strN q.l = r1 at *
          generalize strN q.r = r2 at *
          generalize q.c = r3 at *
          go_upto_region 8 with (fail)
          go_wp2_with fail
          refine HFQ.out.mono ?_
          rintro e w2 ⟨rfl, b2⟩
          have Q2 := mkHid (hq.out.trans (b2.mono hq.out.size))
          clear b2 t0 t1 t2 t3 t4 s0 s1 hq HFQ
          rcases HFO.out with rfl | ⟨f, rfl, hf⟩
          · have HB : Hid (iy = false) := mkHid (by rw [HIY.out]; rfl)
            rw [HB.out, if_neg (by simp)] at HC1
            go_wp2
            go_roundw
            case rel => exact ⟨j + 1, k, by go_num, rfl, by omega, by omega, Q2, mkHid HC1.out.symm⟩
            case measure => simp only [intOf]; omega
          · have hbt := bit_at (s := S) (i := f) HS.out (by omega)
            have HB : Hid (iy = S.testBit f) := mkHid (by rw [HIY.out]; simp)
            rw [HB.out] at HC1
            have f0 : (0 : Int) ≤ f := by omega
            have f6 : (f : Int) < 64 := by omega
            clear HIY HFO hf
            generalize S.testBit f = tb at *
            cases tb with
            | true =>
              rw [if_pos rfl] at HC1
              go_wp2
              go_roundw
              case rel => exact ⟨j + 1, k + 1, by go_num, by go_num, by omega, by omega, Q2, mkHid HC1.out.symm⟩
              case measure => simp only [intOf]; omega
            | false =>
              rw [if_neg (by simp)] at HC1
              go_wp2
              go_roundw
              case rel => exact ⟨j + 1, k, by go_num, rfl, by omega, by omega, Q2, mkHid HC1.out.symm⟩
              case measure => simp only [intOf]; omega
        · have jj : ¬ ((j : Int) < na2) := by omega
          have HKE : Hid (nc = decide (nd ≤ (k : Int))) := mkHid (by rw [HNC.out, hct.out, show cat.take j = cat from List.take_of_length_le (by rw [HN2.out]; omega)])
          have W2 := mkHid (hw.out.trans (hq.out.mono hw.out.size))
          clear hq hw hct
          by_cases hnd : (k : Int) < nd
          · have HX : Hid (V = false) := mkHid (by rw [HST.out, HKE.out, decide_eq_false (show ¬ nd ≤ (k : Int) by omega)]; rfl)
            go_wp2
            go_ret
            exact ⟨ret_bool HX.out.symm, W2.out⟩
          · have HX : Hid (V = (cs.drop (i + 1)).all (needC (inY ks S))) := mkHid (by rw [HST.out, HKE.out, decide_eq_true (show nd ≤ (k : Int) by omega)]; rfl)
            go_wp2
            go_roundw
            case rel => exact ⟨i + 1, by go_num, by omega, W2, HX⟩
            case measure => simp only [intOf]; omega
    · have ii : ¬ ((i : Int) < ln) := by omega
      have HX : Hid (V = true) := mkHid (by rw [hv.out, List.drop_eq_nil_of_le (by rw [← HLN.out]; omega)]; rfl)
      go_wp2
      go_ret
      exact ⟨ret_bool HX.out.symm, hw.out⟩
set_option maxHeartbeats 8000000 in
set_option maxRecDepth 100000 in
theorem log_atom (w : World) (l r : List Nat) (c : Int) (x : Value) (hx : x.oneCell' = true) (ks : List Prd) (ao : Option Addr) (na ac S : Nat) (hna : na = ks.length) (hna8 : na ≤ 8) (hS : S < 256)
    (hfi : ∀ W, RowKit.Below w.heap.size w W → Calls Tryz.prog 43 #[.slice ao na ac, .agg #[.int .i64 0, .string (strN l), .string (strN r), .int .i64 c, x]] W fun e w' => e = .returned (.int .i64 (fndP ks ⟨l, r, c⟩)) ∧ RowKit.Below W.heap.size W w') :
    Calls Tryz.prog 34 #[.agg #[.int .i64 0, .string (strN l), .string (strN r), .int .i64 c, x], .slice ao na ac, .int .i64 (S : Int)] w fun e w' => e = .returned (.bool (inL ks S ⟨l, r, c⟩)) ∧ RowKit.Below w.heap.size w w' := by
  have bx := (RowKit.Below.refl w.heap.size w).alloc (Nat.le_refl _) (.cells #[.int .i64 0, .string (strN l), .string (strN r), .int .i64 c, x] 25)
  have B1 := mkHid bx
  have X1 : Hid (HasV (w.alloc (.cells #[.int .i64 0, .string (strN l), .string (strN r), .int .i64 c, x] 25)) w.heap.size 25 [.int .i64 0, .string (strN l), .string (strN r), .int .i64 c, x]) := mkHid (heap_alloc_new w _)
  have HFI := mkHid hfi
  have HV : Hid (inL ks S ⟨l, r, c⟩ = if fndP ks ⟨l, r, c⟩ < 0 then decide (0 ≤ c) else S.testBit (fndP ks ⟨l, r, c⟩).toNat) := mkHid rfl
  have HFO := mkHid (fnd_form ks ⟨l, r, c⟩)
  rw [← hna] at HFO
  have HS := mkHid hS
  obtain ⟨V, hV⟩ : ∃ V, inL ks S ⟨l, r, c⟩ = V := ⟨_, rfl⟩
  rw [hV] at HV ⊢
  clear bx hfi hna hS hV
  generalize fndP ks ⟨l, r, c⟩ = fi at *
  generalize strN l = y at *
  generalize strN r = z at *
  go_enter Tryz.func34, Tryz.ntmps34
  go_upto_region 1 with (fail)
  generalize w.alloc (.cells #[.int .i64 0, .string y, .string z, .int .i64 c, x] 25) = w1 at *
  have x0 := X1.out.cell 0 _ rfl
  go_wp2_with (refine wpList_load_row rfl 25 (.tmp 3) rfl w.heap.size ?x1 25 #[.int .i64 0, .string y, .string z, .int .i64 c, x] (0, 0) _ X1.out Tryz.underlying25 rfl (inf_pred _ rfl) ?_; (case x1 => rfl))
  refine (HFI.out w1 B1.out).mono ?_
  rintro e w2 ⟨rfl, b2⟩
  have B2 := mkHid (B1.out.trans (b2.mono B1.out.size))
  have X2 := mkHid (X1.out.step b2)
  clear b2 X1 B1 x0
  have x3 := X2.out.cell 3 _ rfl
  rcases HFO.out with rfl | ⟨f, rfl, hf⟩
  · have HX : Hid (V = decide (0 ≤ c)) := mkHid (by rw [HV.out, if_pos (by omega)])
    go_wp2
    go_ret
    exact ⟨ret_bool HX.out.symm, B2.out⟩
  · have hbt := bit_at (s := S) (i := f) HS.out (by omega)
    have HX : Hid (V = S.testBit f) := mkHid (by rw [HV.out, if_neg (by omega)]; simp)
    have f0 : ¬ ((f : Int) < 0) := by omega
    have f6 : (f : Int) < 64 := by omega
    clear HFO hf HV
    generalize S.testBit f = tb at *
    go_wp2
    go_ret
    exact ⟨ret_bool HX.out.symm, B2.out⟩
set_option maxHeartbeats 8000000 in
set_option maxRecDepth 100000 in
theorem log_node (w : World) (P : Nat → Prop) (κ : Int) (l r : List Nat) (c : Int) (ks : List Prd) (ao : Option Addr) (n cap : Nat) (hκ : κ ≠ 0) (hn : n = ks.length) (hbig : n ≤ 1000000)
    (hk : KidR w P ks ao) (C : World → Prop) (av sv : Value) (f : Ky → Bool) (hst : ∀ w w', C w → RowKit.Below w.heap.size w w' → C w') (hC : C w)
    (ih : ∀ (q : Prd) (w : World) (vs : List Value), q ∈ ks → PredC w P q vs → C w → Calls Tryz.prog 34 #[.agg vs.toArray, av, sv] w fun e w' => e = .returned (.bool (truthP f q)) ∧ RowKit.Below w.heap.size w w') :
    Calls Tryz.prog 34 #[.agg #[.int .i64 κ, .string (strN l), .string (strN r), .int .i64 c, .slice ao n cap], av, sv] w fun e w' => e = .returned (.bool (truthP f (.mk κ l r c ks))) ∧ RowKit.Below w.heap.size w w' := by
  have HK := mkHid (fun W (hW : RowKit.Below w.heap.size w W) => hk.below hW)
  have IH := mkHid ih
  have HN := mkHid hn
  have HST := mkHid hst
  have hκb : (κ == 0) = false := beq_eq_false_iff_ne.mpr hκ
  have HV : Hid (truthP f (.mk κ l r c ks) = if κ = 1 then cntT f ks == ks.length else if κ = 2 then decide (0 < cntT f ks) else decide (c ≤ (cntT f ks : Int))) := mkHid (by rw [truthP, if_neg hκ])
  obtain ⟨V, hV⟩ : ∃ V, truthP f (.mk κ l r c ks) = V := ⟨_, rfl⟩
  rw [hV] at HV ⊢
  clear hV
  have bx := (RowKit.Below.refl w.heap.size w).alloc (Nat.le_refl _) (.cells #[.int .i64 κ, .string (strN l), .string (strN r), .int .i64 c, .slice ao n cap] 25)
  have C1 := mkHid (hst _ _ hC bx)
  have B1 := mkHid bx
  have X1 : Hid (HasV (w.alloc (.cells #[.int .i64 κ, .string (strN l), .string (strN r), .int .i64 c, .slice ao n cap] 25)) w.heap.size 25 [.int .i64 κ, .string (strN l), .string (strN r), .int .i64 c, .slice ao n cap]) := mkHid (heap_alloc_new w _)
  clear bx hk ih hn hC hst
  generalize strN l = y at *
  generalize strN r = z at *
  go_enter Tryz.func34, Tryz.ntmps34
  go_upto_region 1 with (fail)
  generalize w.alloc (.cells #[.int .i64 κ, .string y, .string z, .int .i64 c, .slice ao n cap] 25) = w1 at *
  have x0 := X1.out.cell 0 _ rfl
  go_wp2_with fail
  clear x0
  go_loopw [9, 8] (fun cc nn wr => ∃ (i m : Nat), cc = .int .i64 i ∧ nn = .int .i64 m ∧ i ≤ n ∧ m ≤ i ∧ Hid (m = cntT f (ks.take i)) ∧ Hid (C wr) ∧ Hid (RowKit.Below w.heap.size w wr) ∧ Hid (HasV wr w.heap.size 25 [.int .i64 κ, .string y, .string z, .int .i64 c, .slice ao n cap])) (fun c _ _ => (n - intOf c).toNat)
  case atStart => exact ⟨0, 0, rfl, rfl, by omega, by omega, mkHid rfl, C1, B1, X1⟩
  case round =>
    clear C1 B1 X1
    obtain ⟨i, m, rfl, rfl, hi, hmi, hm, hc, hw, hx⟩ := hrel
    have e2 : IntKind.i64.wrap ((i : Int) + 1) = ((i + 1 : Nat) : Int) := IntWalk.i64_in _ (by omega)
    have e3 : IntKind.i64.wrap ((m : Int) + 1) = ((m + 1 : Nat) : Int) := IntWalk.i64_in _ (by omega)
    have x4 := hx.out.cell 4 _ rfl
    by_cases hlt : i < n
    · have ii : (i : Int) < n := by omega
      obtain ⟨q, hqi, g, off, hao, hg, vs, hpc, hrd⟩ := (HK.out wr hw.out).get (i := i) (by rw [← HN.out]; exact hlt)
      have HCT := mkHid (cntT_take f ks i q hqi)
      have HIH := mkHid (IH.out q wr vs (List.mem_of_getElem? hqi) hpc hc.out)
      obtain ⟨xa, xn, xc, rfl, -⟩ := hpc.form
      have s0 := hrd 0 _ rfl
      have s1 := hrd 1 _ rfl
      have s2 := hrd 2 _ rfl
      have s3 := hrd 3 _ rfl
      have s4 := hrd 4 _ rfl
      rw [Nat.add_zero] at s0
      have HAO := mkHid hao
      clear hrd hpc hqi
      subst hao
      generalize truthP f q = tb at *
      generalize q.k = q0 at *
      generalize strN q.l = q1 at *
      generalize strN q.r = q2 at *
      generalize q.c = q3 at *
      go_wp2_with fail
      refine HIH.out.mono ?_
      rintro e w3 ⟨rfl, b3⟩
      have hc3 := mkHid (HST.out _ _ hc.out b3)
      have hw3 := mkHid (hw.out.trans (b3.mono hw.out.size))
      have hx3 := mkHid (hx.out.step b3)
      clear b3 hc hw hx s0 s1 s2 s3 s4 x4 HIH
      cases tb with
      | true =>
        rw [if_pos rfl] at HCT
        go_wp2
        go_roundw
        case rel => exact ⟨i + 1, m + 1, by go_num, by go_num, by omega, by omega, mkHid (by rw [HCT.out, ← hm.out]), hc3, hw3, hx3⟩
        case measure => simp only [intOf]; omega
      | false =>
        rw [if_neg (by simp)] at HCT
        go_wp2
        go_roundw
        case rel => exact ⟨i + 1, m, by go_num, rfl, by omega, by omega, mkHid (by rw [HCT.out, ← hm.out]; rfl), hc3, hw3, hx3⟩
        case measure => simp only [intOf]; omega
    · have ii : ¬ ((i : Int) < n) := by omega
      have HT : Hid (m = cntT f ks) := mkHid (by rw [hm.out, show i = ks.length by rw [← HN.out]; omega, List.take_length])
      have x0 := hx.out.cell 0 _ rfl
      have x3 := hx.out.cell 3 _ rfl
      have HLE : m ≤ n := by omega
      by_cases k1 : κ = 1
      · have k1b : (κ == 1) = true := beq_iff_eq.mpr k1
        have HX : Hid (V = decide (m = n)) := mkHid (by rw [HV.out, if_pos k1, ← HT.out, HN.out, Bool.eq_iff_iff]; simp)
        clear k1 hκ
        go_wp2
        go_ret
        exact ⟨ret_bool (by rw [HX.out, Bool.eq_iff_iff]; simp; omega), hw.out⟩
      · have k1b : (κ == 1) = false := beq_eq_false_iff_ne.mpr k1
        by_cases k2 : κ = 2
        · have k2b : (κ == 2) = true := beq_iff_eq.mpr k2
          have HX : Hid (V = decide (0 < m)) := mkHid (by rw [HV.out, if_neg k1, if_pos k2, ← HT.out])
          clear k1 k2 hκ
          go_wp2
          go_ret
          exact ⟨ret_bool (by rw [HX.out]; try simp), hw.out⟩
        · have k2b : (κ == 2) = false := beq_eq_false_iff_ne.mpr k2
          have HX : Hid (V = decide (c ≤ (m : Int))) := mkHid (by rw [HV.out, if_neg k1, if_neg k2, ← HT.out])
          clear k1 k2 hκ
          go_wp2
          go_ret
          exact ⟨ret_bool (by rw [HX.out]; try simp), hw.out⟩
theorem logic_any : ∀ (N : Nat) (p : Prd) (w : World) (P : Nat → Prop) (vs : List Value) (aa : List Prd) (ao : Option Addr) (na ac S : Nat), cntP p ≤ N → N ≤ 1000000 → na = aa.length → na ≤ 8 → S < 256 → (∀ q ∈ aa, NmY q) → BytP p → PredC w P p vs → KidR w (fun _ => True) aa ao →
    Calls Tryz.prog 34 #[.agg vs.toArray, .slice ao na ac, .int .i64 (S : Int)] w fun e w' => e = .returned (.bool (truthP (inL aa S) p)) ∧ RowKit.Below w.heap.size w w'
  | 0, p, w, P, vs, aa, ao, na, ac, S, hN, _, _, _, _, _, _, _, _ => by have := cnt_pos p; omega
  | N + 1, .mk κ l r c ks, w, P, vs, aa, ao, na, ac, S, hN, hM, hna, hna8, hS, has, hb, h, hka => by
    have hc2 : cntL ks ≤ N := by unfold cntP at hN; omega
    have hl := len_le_cntL ks
    have hny := nmY_of hb
    have h' := h
    unfold PredC at h
    unfold BytP at hb
    obtain ⟨xo, cap, rfl, hk⟩ := h
    by_cases hκ : κ = 0
    · subst hκ
      have := log_atom w l r c (.slice xo ks.length cap) rfl aa ao na ac S hna hna8 hS (fun W hW => find_any W _ P aa ao na ac (.mk 0 l r c ks) _ hna (by omega) has hny (hka.below hW) (h'.below hW))
      simpa [truthP] using this
    · exact log_node w P κ l r c ks xo ks.length cap hκ rfl (by omega) hk (fun W => KidR W (fun _ => True) aa ao) _ _ (inL aa S) (fun w w' h hb => h.below hb) hka (fun q w' us hq hpc hC' => logic_any N q w' P us aa ao na ac S (by
        obtain ⟨i, hi⟩ := List.mem_iff_getElem?.1 hq
        have := cnt_kid ks i q hi
        omega) (by omega) hna hna8 hS has ((BytL_iff ks).1 hb.2.2 q hq) hpc hC')
end Go.Proofs.YtmkdfbelbcocpaaGreatDoor
namespace Go.Proofs.YtmkdfbelbcocpaaGreatDoor
theorem fnd_idx (k : Ky) : ∀ (l : List Ky) (i : Nat), fndG k i (l.map atomK) = (match l.findIdx? (fun x => x == k) with | some j => ((i + j : Nat) : Int) | none => -1)
  | [], i => by simp [fndG]
  | x :: l, i => by
    rw [List.map_cons, fndG, List.findIdx?_cons]
    by_cases h : (x == k) = true
    · have h2 : (kyOf (atomK x) == k) = true := h
      rw [if_pos h2, if_pos h]
      simp
    · have h2 : ¬ (kyOf (atomK x) == k) = true := h
      rw [if_neg h2, if_neg h, fnd_idx k l (i + 1)]
      cases l.findIdx? (fun x => x == k) with
      | none => rfl
      | some j => show ((i + 1 + j : Nat) : Int) = ((i + (j + 1) : Nat) : Int); congr 1; omega
theorem fnd_P (k : Ky) (l : List Ky) : fndP (l.map atomK) k = (match l.findIdx? (fun x => x == k) with | some j => (j : Int) | none => -1) := by
  unfold fndP
  rw [fnd_idx]
  cases l.findIdx? (fun x => x == k) with
  | none => rfl
  | some j => simp
theorem inL_set (l : List Ky) (S : Nat) (k : Ky) : inL (l.map atomK) S k = inSet l S k := by
  unfold inL inSet
  rw [fnd_P]
  cases l.findIdx? (fun x => x == k) with
  | none => simp
  | some j =>
    show (if ((j : Nat) : Int) < 0 then decide (0 ≤ k.c) else S.testBit ((j : Nat) : Int).toNat) = S.testBit j
    rw [if_neg (by omega)]
    simp
theorem inY_at {l : List Ky} (hl : AscK l) {k : Ky} {i : Nat} (h : l[i]? = some k) (S : Nat) : inY (l.map atomK) S k = S.testBit i := by
  unfold inY
  rw [fnd_P, find_at hl h]
  simp
theorem cntY_clC (f : Ky → Bool) : ∀ c : List Ky, cntY f (c.map atomK) = c.countP f
  | [] => rfl
  | k :: c => by
    have := cntY_clC f c
    unfold cntY at this ⊢
    rw [List.map_cons, List.countP_cons, List.countP_cons, this]
    rfl
theorem need_clC (f : Ky → Bool) (c : List Ky) : needC f (clC c) = c.any f := by
  show decide ((1 : Int) ≤ (cntY f (c.map atomK) : Int)) = c.any f
  rw [Bool.eq_iff_iff, decide_eq_true_eq, List.any_eq_true]
  rw [cntY_clC]
  constructor
  · intro h
    have h2 : 0 < c.countP f := by omega
    exact List.countP_pos_iff.1 h2
  · intro h
    have h2 := List.countP_pos_iff.2 h
    omega
theorem pickU_in (l : List Ky) (s : Nat) (k : Ky) (n : Nat) (h : k ∈ pickU l s n) : k ∈ l := by
  obtain ⟨j, -, -, hj⟩ := (pickU_iff l s k n).1 h
  exact List.mem_of_getElem? hj
theorem clause_mem (p : Prd) (c : List Ky) (hc : c ∈ clausesP p) : ∃ s, IsPrime (fun set => truthP (inSet (properP p) set) p) (properP p).length s ∧ c = pickU (properP p) s (properP p).length := by
  unfold clausesP at hc
  rw [List.mem_mergeSort] at hc
  obtain ⟨s, -, h1, h2⟩ := (outU_iff _ _ c _ (Nat.le_refl _)).1 hc
  exact ⟨s, h1, h2⟩
theorem truth_inL (p : Prd) (S : Nat) : truthP (inL ((properP p).map atomK) S) p = truthP (inSet (properP p) S) p :=
  truth_congr (fun k _ => inL_set _ S k)
theorem hits_logic (p : Prd) (S : Nat) : ((clausesP p).map clC).all (needC (inY ((properP p).map atomK) S)) = truthP (inL ((properP p).map atomK) S) p := by
  rw [truth_inL]
  have hC : ConB (inSet (properP p) S) p := fun k hk hc => by
    refine inSet_none (fun hm => ?_) S
    have := ((properP_mem p k).1 hm).2
    rw [hc] at this; cases this
  have h := clauses_truth (inSet (properP p) S) p hC
  rw [Bool.eq_iff_iff, h, List.all_eq_true]
  have key : ∀ c ∈ clausesP p, ∀ k ∈ c, inY ((properP p).map atomK) S k = inSet (properP p) S k := fun c hc k hk => by
    obtain ⟨s, -, rfl⟩ := clause_mem p c hc
    obtain ⟨j, -, -, hj⟩ := (pickU_iff _ s k _).1 hk
    rw [inY_at (properP_asc p) hj, inSet_at (properP_asc p) hj]
  constructor
  · intro h c hc
    have h1 := h (clC c) (List.mem_map_of_mem hc)
    rw [need_clC, List.any_eq_true] at h1
    obtain ⟨k, hk, h2⟩ := h1
    exact ⟨k, hk, by rw [← key c hc k hk]; exact h2⟩
  · intro h ch hch
    obtain ⟨c, hc, rfl⟩ := List.mem_map.1 hch
    rw [need_clC, List.any_eq_true]
    obtain ⟨k, hk, h2⟩ := h c hc
    exact ⟨k, hk, by rw [key c hc k hk]; exact h2⟩
theorem pickU_sub (l : List Ky) (s : Nat) : ∀ n, (pickU l s n).Sublist (l.take n)
  | 0 => by simp [pickU]
  | n + 1 => by
    rw [pickU, List.take_add_one]
    refine List.Sublist.append (pickU_sub l s n) ?_
    cases l[n]? with
    | none => simp
    | some k =>
      show (if s.testBit n = true then [k] else []).Sublist [k]
      split <;> simp
/-- A clause less one of its atoms fails for some set for which the predicate is true. -/
theorem prime_need (p : Prd) (c : List Ky) (hc : c ∈ clausesP p) (k : Nat) (hk : k < c.length) :
    ∃ S, S < 2 ^ (properP p).length ∧ truthP (inL ((properP p).map atomK) S) p = true ∧ needC (inY ((properP p).map atomK) S) ⟨1, (c.eraseIdx k).map atomK⟩ = false := by
  obtain ⟨s, hp, rfl⟩ := clause_mem p c hc
  have hmem : (pickU (properP p) s (properP p).length)[k] ∈ pickU (properP p) s (properP p).length := List.getElem_mem hk
  obtain ⟨j, hj, hb, hjk⟩ := (pickU_iff _ s _ _).1 hmem
  obtain ⟨a, ha, hta, hal⟩ := prime_less hp hj hb
  refine ⟨a, ha, by rw [truth_inL]; exact hta, ?_⟩
  have hnd : (pickU (properP p) s (properP p).length).Nodup := by
    have h1 := pickU_sub (properP p) s (properP p).length
    rw [List.take_length] at h1
    exact h1.nodup (asc_nodup (properP_asc p))
  unfold needC
  rw [decide_eq_false_iff_not]
  show ¬ (1 : Int) ≤ (cntY (inY ((properP p).map atomK) a) ((pickU (properP p) s (properP p).length).eraseIdx k |>.map atomK) : Int)
  rw [cntY_clC]
  have h0 : ((pickU (properP p) s (properP p).length).eraseIdx k).countP (inY ((properP p).map atomK) a) = 0 := by
    rw [List.countP_eq_zero]
    intro x hx
    rw [List.mem_eraseIdx_iff_getElem] at hx
    obtain ⟨m, hm, hne, rfl⟩ := hx
    obtain ⟨i, hi, hbi, hik⟩ := (pickU_iff _ s _ _).1 (List.getElem_mem hm)
    have hij : i ≠ j := by
      rintro rfl
      rw [hjk] at hik
      have heq := Option.some.inj hik
      rcases Nat.lt_or_gt_of_ne hne with h | h
      · exact List.pairwise_iff_getElem.1 hnd m k hm hk h heq.symm
      · exact List.pairwise_iff_getElem.1 hnd k m hk hm h heq
    rw [inY_at (properP_asc p) hik, hal i hi hij hbi]
    simp
  rw [h0]
  omega
/-- What Normal gives to a predicate that is an atom or a disjunction, of few atoms. -/
theorem norm_few (p : Prd) (hv : validP p = true) (h1 : p.k ≠ 1) (h3 : p.k ≠ 3) (h6 : (properP p).length ≤ 6) : normP p = .ok ((clausesP p).map clC) ∧ (clausesP p).length ≤ 64 := by
  have hl : (clausesP p).length ≤ 64 := by
    unfold clausesP
    rw [List.length_mergeSort]
    exact Nat.le_trans (outU_len _ _ _) (Nat.le_trans (Nat.pow_le_pow_right (by omega) h6) (by decide))
  have hc : choP p = (clausesP p).map clC := by
    obtain ⟨k, l, r, c, ks⟩ := p
    have h1' : k ≠ 1 := h1
    have h3' : k ≠ 3 := h3
    have hp : ¬ plainP (.mk k l r c ks) = true := by
      unfold plainP
      show ¬ (plnG [] ks && k == 3) = true
      rw [beq_eq_false_iff_ne.mpr h3']
      simp
    rw [choP, if_neg hp, if_neg h1']
  refine ⟨?_, hl⟩
  unfold normP
  rw [hv, if_neg (by simp), if_neg (by omega), hc, if_neg (by rw [List.length_map]; omega)]
end Go.Proofs.YtmkdfbelbcocpaaGreatDoor
namespace Go.Proofs.YtmkdfbelbcocpaaGreatDoor
open Go.RowKit Go.Sort
theorem sS1 : strN exS1 = ⟨#[113, 117, 101, 115, 116, 105, 111, 110, 32, 97, 100, 117, 108, 116, 32, 123, 32, 105, 100, 32, 46, 32, 97, 103, 101, 32, 62, 61, 32, 49, 56, 32, 125]⟩ := by kernel_rfl
theorem sT1 : strN exT1 = ⟨#[113, 117, 101, 115, 116, 105, 111, 110, 32, 97, 100, 117, 108, 116, 32, 123, 32, 48, 32, 60, 61, 32, 105, 100, 32, 46, 32, 97, 103, 101, 32, 45, 32, 49, 56, 32, 125]⟩ := by kernel_rfl
theorem sS2 : strN exS2 = ⟨#[113, 117, 101, 115, 116, 105, 111, 110, 32, 97, 32, 123, 32, 120, 46, 121, 32, 105, 110, 32, 123, 32, 51, 32, 44, 32, 53, 32, 46, 46, 32, 55, 32, 125, 32, 125]⟩ := by kernel_rfl
theorem sT2 : strN exT2 = ⟨#[113, 117, 101, 115, 116, 105, 111, 110, 32, 97, 32, 123, 32, 40, 32, 48, 32, 60, 61, 32, 120, 32, 46, 32, 121, 32, 45, 32, 51, 32, 97, 110, 100, 32, 120, 32, 46, 32, 121, 32, 60, 61, 32, 51, 32, 41, 32, 111, 114, 32, 40, 32, 48, 32, 60, 61, 32, 120, 32, 46, 32, 121, 32, 45, 32, 53, 32, 97, 110, 100, 32, 120, 32, 46, 32, 121, 32, 60, 61, 32, 55, 32, 41, 32, 125]⟩ := by kernel_rfl
theorem sS3 : strN exS3 = ⟨#[113, 117, 101, 115, 116, 105, 111, 110, 32, 97, 32, 123, 32, 110, 111, 116, 32, 40, 32, 120, 46, 121, 32, 60, 32, 51, 32, 97, 110, 100, 32, 120, 46, 122, 32, 61, 32, 49, 32, 41, 32, 125]⟩ := by kernel_rfl
theorem sT3 : strN exT3 = ⟨#[113, 117, 101, 115, 116, 105, 111, 110, 32, 97, 32, 123, 32, 48, 32, 60, 61, 32, 120, 32, 46, 32, 121, 32, 45, 32, 51, 32, 111, 114, 32, 40, 32, 48, 32, 60, 61, 32, 120, 32, 46, 32, 122, 32, 45, 32, 50, 32, 111, 114, 32, 120, 32, 46, 32, 122, 32, 60, 61, 32, 48, 32, 41, 32, 125]⟩ := by kernel_rfl
theorem sS4 : strN exS4 = ⟨#[113, 117, 101, 115, 116, 105, 111, 110, 32, 97, 32, 123, 32, 120, 46, 121, 32, 60, 32, 125]⟩ := by kernel_rfl
theorem sS5 : strN exS5 = ⟨#[113, 117, 101, 115, 116, 105, 111, 110, 32, 97, 32, 123, 32, 97, 116, 32, 108, 101, 97, 115, 116, 32, 51, 32, 111, 102, 32, 40, 32, 120, 46, 121, 32, 60, 32, 49, 32, 44, 32, 120, 46, 121, 32, 62, 32, 53, 32, 41, 32, 125]⟩ := by kernel_rfl
theorem sS6 : strN exS6 = ⟨#[120, 46, 97, 32, 60, 61, 32, 51, 32, 97, 110, 100, 32, 97, 116, 32, 108, 101, 97, 115, 116, 32, 50, 32, 111, 102, 32, 40, 32, 120, 46, 97, 32, 60, 61, 32, 49, 32, 44, 32, 120, 46, 98, 32, 60, 61, 32, 50, 32, 44, 32, 120, 46, 99, 32, 60, 61, 32, 53, 32, 41]⟩ := by kernel_rfl
theorem sS7 : strN exS7 = ⟨#[40, 32, 120, 46, 97, 32, 60, 61, 32, 49, 32, 97, 110, 100, 32, 120, 46, 98, 32, 60, 61, 32, 50, 32, 41, 32, 111, 114, 32, 120, 46, 99, 32, 60, 61, 32, 53]⟩ := by kernel_rfl
theorem byte_of {l : List Nat} (h : nmB l = true) : ∀ y ∈ l, y < 256 := (nmB_ok h).1
set_option maxHeartbeats 8000000 in
set_option maxRecDepth 100000 in
theorem sane5_any (w : World) (B : Nat) (hG : Good w B) : Calls Tryz.prog 16 #[] w fun e w' => e = .returned (.bool true) ∧ Below w.heap.size w w' := by
  have H1 := mkHid (fun W (hW : Below w.heap.size w W) => prints_true exS1 exT1 W B (hG.step hW) (of_decide_eq_true (by kernel_rfl)) (byte_of (by kernel_rfl)) _ _ ex1 pr1 (of_decide_eq_true (by kernel_rfl)) (byte_of (by kernel_rfl)) (bytB_ok _ (by kernel_rfl)) (of_decide_eq_true (by kernel_rfl)))
  have H2 := mkHid (fun W (hW : Below w.heap.size w W) => prints_true exS2 exT2 W B (hG.step hW) (of_decide_eq_true (by kernel_rfl)) (byte_of (by kernel_rfl)) _ _ ex2 pr2 (of_decide_eq_true (by kernel_rfl)) (byte_of (by kernel_rfl)) (bytB_ok _ (by kernel_rfl)) (of_decide_eq_true (by kernel_rfl)))
  have H3 := mkHid (fun W (hW : Below w.heap.size w W) => prints_true exS3 exT3 W B (hG.step hW) (of_decide_eq_true (by kernel_rfl)) (byte_of (by kernel_rfl)) _ _ ex3 pr3 (of_decide_eq_true (by kernel_rfl)) (byte_of (by kernel_rfl)) (bytB_ok _ (by kernel_rfl)) (of_decide_eq_true (by kernel_rfl)))
  have H4 := mkHid (fun W (hW : Below w.heap.size w W) => fails_true exS4 W B (hG.step hW) (of_decide_eq_true (by kernel_rfl)) (byte_of (by kernel_rfl)) 19 12 ex4)
  have H5 := mkHid (fun W (hW : Below w.heap.size w W) => fails_true exS5 W B (hG.step hW) (of_decide_eq_true (by kernel_rfl)) (byte_of (by kernel_rfl)) 13 3 ex5)
  have H6 := mkHid (fun W (hW : Below w.heap.size w W) => quest_any exS6 W B (hG.step hW) (of_decide_eq_true (by kernel_rfl)) (byte_of (by kernel_rfl)) exL6 rfl)
  have H7 := mkHid (fun W (hW : Below w.heap.size w W) => quest_any exS7 W B (hG.step hW) (of_decide_eq_true (by kernel_rfl)) (byte_of (by kernel_rfl)) exL7 rfl)
  have HN6 := mkHid (fun W vs (hW : Below w.heap.size w W) (h : PredC W (fun g => g < W.heap.size) exP6 vs) => normal_any exP6 W _ vs B (of_decide_eq_true (by kernel_rfl)) (bytB_ok _ (by kernel_rfl)) h (fun g hg => hg) (hG.step hW).tab)
  have HN7 := mkHid (fun W vs (hW : Below w.heap.size w W) (h : PredC W (fun g => g < W.heap.size) exP7 vs) => normal_any exP7 W _ vs B (of_decide_eq_true (by kernel_rfl)) (bytB_ok _ (by kernel_rfl)) h (fun g hg => hg) (hG.step hW).tab)
  rw [sS1, sT1] at H1
  rw [sS2, sT2] at H2
  rw [sS3, sT3] at H3
  rw [sS4] at H4
  rw [sS5] at H5
  rw [sS6, ex6] at H6
  rw [sS7, ex7] at H7
  rw [nm6] at HN6
  rw [nm7] at HN7
  have B0 := mkHid (Below.refl w.heap.size w)
  clear hG
  go_enter Tryz.func16, Tryz.ntmps16
  go_wp2_with fail
  refine (H1.out w B0.out).mono ?_
  rintro e w1 ⟨rfl, b1⟩
  have B1 := mkHid b1
  clear b1 B0 H1
  go_wp2_with fail
  refine (H2.out w1 B1.out).mono ?_
  rintro e w2 ⟨rfl, b2⟩
  have B2 := mkHid (B1.out.trans (b2.mono B1.out.size))
  clear b2 B1 H2
  go_wp2_with fail
  refine (H3.out w2 B2.out).mono ?_
  rintro e w3 ⟨rfl, b3⟩
  have B3 := mkHid (B2.out.trans (b3.mono B2.out.size))
  clear b3 B2 H3
  go_wp2_with fail
  refine (H4.out w3 B3.out).mono ?_
  rintro e w4 ⟨rfl, b4⟩
  have B4 := mkHid (B3.out.trans (b4.mono B3.out.size))
  clear b4 B3 H4
  go_wp2_with fail
  refine (H5.out w4 B4.out).mono ?_
  rintro e w5 ⟨rfl, b5⟩
  have B5 := mkHid (B4.out.trans (b5.mono B4.out.size))
  clear b5 B4 H5
  go_wp2_with fail
  refine (catom_any _ _ _ w5).mono ?_
  rintro e w6 ⟨rfl, b6⟩
  have B6 := mkHid (B5.out.trans (b6.mono B5.out.size))
  clear b6 B5
  have bx := (Below.refl w6.heap.size w6).alloc (Nat.le_refl _) (.cells #[.int .i64 0, .string ⟨#[120, 46, 97]⟩, .string ⟨#[]⟩, .int .i64 1, .slice none 0 0] 25)
  have XA : Hid (HasV (w6.alloc (.cells #[.int .i64 0, .string ⟨#[120, 46, 97]⟩, .string ⟨#[]⟩, .int .i64 1, .slice none 0 0] 25)) w6.heap.size 25 [.int .i64 0, .string ⟨#[120, 46, 97]⟩, .string ⟨#[]⟩, .int .i64 1, .slice none 0 0]) := mkHid (heap_alloc_new w6 _)
  have B7 := mkHid (B6.out.trans (bx.mono B6.out.size))
  clear bx B6
  go_upto_region 4 with (fail)
  generalize hA : w6.heap.size = A at *
  clear hA
  generalize w6.alloc (.cells #[.int .i64 0, .string ⟨#[120, 46, 97]⟩, .string ⟨#[]⟩, .int .i64 1, .slice none 0 0] 25) = w7 at *
  go_wp2_with fail
  refine (catom_any _ _ _ w7).mono ?_
  rintro e w8 ⟨rfl, b8⟩
  have XA8 := mkHid (XA.out.step b8)
  have B8 := mkHid (B7.out.trans (b8.mono B7.out.size))
  clear b8 B7 XA
  have bx := (Below.refl w8.heap.size w8).alloc (Nat.le_refl _) (.cells #[.int .i64 0, .string ⟨#[120, 46, 98]⟩, .string ⟨#[]⟩, .int .i64 2, .slice none 0 0] 25)
  have XB : Hid (HasV (w8.alloc (.cells #[.int .i64 0, .string ⟨#[120, 46, 98]⟩, .string ⟨#[]⟩, .int .i64 2, .slice none 0 0] 25)) w8.heap.size 25 [.int .i64 0, .string ⟨#[120, 46, 98]⟩, .string ⟨#[]⟩, .int .i64 2, .slice none 0 0]) := mkHid (heap_alloc_new w8 _)
  have XA9 := mkHid (XA8.out.step bx)
  have B9 := mkHid (B8.out.trans (bx.mono B8.out.size))
  clear bx B8 XA8
  go_upto_region 5 with (fail)
  generalize hA : w8.heap.size = AB at *
  clear hA
  generalize w8.alloc (.cells #[.int .i64 0, .string ⟨#[120, 46, 98]⟩, .string ⟨#[]⟩, .int .i64 2, .slice none 0 0] 25) = w9 at *
  go_wp2_with fail
  refine (catom_any _ _ _ w9).mono ?_
  rintro e w10 ⟨rfl, b10⟩
  have XA10 := mkHid (XA9.out.step b10)
  have XB10 := mkHid (XB.out.step b10)
  have B10 := mkHid (B9.out.trans (b10.mono B9.out.size))
  clear b10 B9 XA9 XB
  have bx := (Below.refl w10.heap.size w10).alloc (Nat.le_refl _) (.cells #[.int .i64 0, .string ⟨#[120, 46, 99]⟩, .string ⟨#[]⟩, .int .i64 5, .slice none 0 0] 25)
  have XC : Hid (HasV (w10.alloc (.cells #[.int .i64 0, .string ⟨#[120, 46, 99]⟩, .string ⟨#[]⟩, .int .i64 5, .slice none 0 0] 25)) w10.heap.size 25 [.int .i64 0, .string ⟨#[120, 46, 99]⟩, .string ⟨#[]⟩, .int .i64 5, .slice none 0 0]) := mkHid (heap_alloc_new w10 _)
  have XA11 := mkHid (XA10.out.step bx)
  have XB11 := mkHid (XB10.out.step bx)
  have B11 := mkHid (B10.out.trans (bx.mono B10.out.size))
  clear bx B10 XA10 XB10
  go_upto_region 6 with (fail)
  generalize hA : w10.heap.size = AC at *
  clear hA
  generalize w10.alloc (.cells #[.int .i64 0, .string ⟨#[120, 46, 99]⟩, .string ⟨#[]⟩, .int .i64 5, .slice none 0 0] 25) = w11 at *
  go_wp2_with fail
  refine (H6.out w11 B11.out).mono ?_
  rintro e w12 ⟨v, rfl, hv, b12⟩
  have XA12 := mkHid (XA11.out.step b12)
  have XB12 := mkHid (XB11.out.step b12)
  have XC12 := mkHid (XC.out.step b12)
  have B12 := mkHid (B11.out.trans (b12.mono B11.out.size))
  obtain ⟨ka, kn, kc, rfl, hc⟩ := hv.open
  have hnm := mkHid (HN6.out w12 _ B12.out (hc.mono (fun g h _ => h.2)))
  clear b12 B11 H6 XA11 XB11 XC hv hc HN6
  go_wp2_with fail
  refine hnm.out.mono ?_
  rintro e w13 ⟨b13, a13, c13, v13, rfl, r13⟩
  have XA13 := mkHid (XA12.out.step b13)
  have XB13 := mkHid (XB12.out.step b13)
  have XC13 := mkHid (XC12.out.step b13)
  have B13 := mkHid (B12.out.trans (b13.mono B12.out.size))
  have C6 := mkHid (ChsR.of_row r13)
  clear b13 r13 B12 XA12 XB12 XC12 hnm
  go_wp2_with fail
  refine (H7.out w13 B13.out).mono ?_
  rintro e w14 ⟨v, rfl, hv, b14⟩
  have XA14 := mkHid (XA13.out.step b14)
  have XB14 := mkHid (XB13.out.step b14)
  have XC14 := mkHid (XC13.out.step b14)
  have B14 := mkHid (B13.out.trans (b14.mono B13.out.size))
  have C614 := mkHid (C6.out.below b14)
  obtain ⟨ka, kn, kc, rfl, hc⟩ := hv.open
  have hnm := mkHid (HN7.out w14 _ B14.out (hc.mono (fun g h _ => h.2)))
  clear b14 B13 H7 XA13 XB13 XC13 C6 hv hc HN7
  go_wp2_with fail
  refine hnm.out.mono ?_
  rintro e w15 ⟨b15, a15, c15, v15, rfl, r15⟩
  have XA15 := mkHid (XA14.out.step b15)
  have XB15 := mkHid (XB14.out.step b15)
  have XC15 := mkHid (XC14.out.step b15)
  have B15 := mkHid (B14.out.trans (b15.mono B14.out.size))
  have C615 := mkHid (C614.out.below b15)
  have C7 := mkHid (ChsR.of_row r15)
  clear b15 r15 B14 XA14 XB14 XC14 C614 hnm
  go_upto_region 10 with (fail)
  have HLA : Hid (∀ q ∈ [exPA, exPB, exPC, exPD], q.ks = [] ∧ BytP q) := mkHid (by
    intro q hq
    simp only [List.mem_cons, List.not_mem_nil, or_false] at hq
    rcases hq with rfl | rfl | rfl | rfl <;> exact ⟨rfl, bytB_ok _ (by kernel_rfl)⟩)
  have HC6 : Hid (∀ c ∈ exC6, c.atoms.length ≤ 1000000 ∧ ∀ q ∈ c.atoms, q.ks = [] ∧ BytP q) := mkHid (by
    intro c hc
    simp only [exC6, List.mem_cons, List.not_mem_nil, or_false] at hc
    rcases hc with rfl | rfl
    · exact ⟨by decide, fun q hq => HLA.out q (by simp at hq ⊢; simp [hq])⟩
    · exact ⟨by decide, fun q hq => HLA.out q (by simp at hq ⊢; rcases hq with h | h | h <;> simp [h])⟩)
  have HC7 : Hid (∀ c ∈ exC7, c.atoms.length ≤ 1000000 ∧ ∀ q ∈ c.atoms, q.ks = [] ∧ BytP q) := mkHid (by
    intro c hc
    simp only [exC7, List.mem_cons, List.not_mem_nil, or_false] at hc
    rcases hc with rfl | rfl
    · exact ⟨by decide, fun q hq => HLA.out q (by simp at hq ⊢; rcases hq with h | h <;> simp [h])⟩
    · exact ⟨by decide, fun q hq => HLA.out q (by simp at hq ⊢; rcases hq with h | h <;> simp [h])⟩)
  refine wp_region_mid (sF (.slice a13 2 c13) (.slice a15 2 c15)) (by kernel_rfl) (sF_step _ _) (hdst_of (by kernel_rfl)) (hin_of (by kernel_rfl)) (hacyc_of (by kernel_rfl)) ?hs ?he
  case he =>
    intro listed a' w' H hall
    have hdn := H.done 24 _ 0 rfl (hall 24 (by decide)) rfl
    have hb := mkHid H.below
    have hdf := H.defers
    have hts := H.tsize
    clear H
    obtain ⟨t, df⟩ := a'
    obtain ⟨x0, x1, x2, x3, x4, x5, x6, x7, x8, x9, x10, x11, x12, x13, x14, x15, x16, x17, x18, x19, x20, x21, x22, x23, x24, x25, x26, x27, x28, x29, x30, x31, x32, x33, x34, x35, x36, x37, x38, x39, x40, x41, x42, x43, x44, x45, x46, x47, x48, x49, x50, x51, x52, x53, x54, x55, x56, x57, x58, x59, x60, x61, x62, x63, x64, x65, x66, x67, x68, x69, x70, x71, rfl⟩ := arr72 t hts
    have hdf' : df = [] := hdf
    subst hdf'
    have h0 : x0 = .bool true := hdn
    subst h0
    clear hdn hdf hts
    have BF := mkHid (B15.out.trans (hb.out.mono B15.out.size))
    go_wp2
    go_ret
    exact ⟨rfl, BF.out⟩
  case hs =>
    intro i o hi listed a' w' H hl
    have hl2 := after_listed hl
    have hb := mkHid H.below
    have e3 := H.same 3 (nodst_of (by kernel_rfl))
    have e4 := H.same 4 (nodst_of (by kernel_rfl))
    have e5 := H.same 5 (nodst_of (by kernel_rfl))
    have e6 := H.same 6 (nodst_of (by kernel_rfl))
    have e8 := H.same 8 (nodst_of (by kernel_rfl))
    have hdn := H.done
    have hdf := H.defers
    have hts := H.tsize
    clear hl
    obtain ⟨t, df⟩ := a'
    obtain ⟨x0, x1, x2, x3, x4, x5, x6, x7, x8, x9, x10, x11, x12, x13, x14, x15, x16, x17, x18, x19, x20, x21, x22, x23, x24, x25, x26, x27, x28, x29, x30, x31, x32, x33, x34, x35, x36, x37, x38, x39, x40, x41, x42, x43, x44, x45, x46, x47, x48, x49, x50, x51, x52, x53, x54, x55, x56, x57, x58, x59, x60, x61, x62, x63, x64, x65, x66, x67, x68, x69, x70, x71, rfl⟩ := arr72 t hts
    have hdf' : df = [] := hdf
    subst hdf'
    have e3' : x3 = .pointer (some ⟨A, 0, none⟩) := e3
    have e4' : x4 = .pointer (some ⟨AB, 0, none⟩) := e4
    have e5' : x5 = .pointer (some ⟨AC, 0, none⟩) := e5
    have e6' : x6 = .slice a13 2 c13 := e6
    have e8' : x8 = .slice a15 2 c15 := e8
    clear e3 e4 e5 e6 e8 hdf hts H
    subst e3' e4' e5' e6' e8'
    match i, hi with
    | 0, hi =>
      obtain rfl := Option.some.inj hi
      refine wpOp_list rfl ?_
      go_wp2_with fail
      exact postOf_normal ⟨_, rfl, Below.refl _ _, rfl⟩
    | 1, hi =>
      obtain rfl := Option.some.inj hi
      refine wpOp_list rfl ?_
      go_wp2_with fail
      refine (catom_any _ _ _ w').mono ?_
      rintro e w2 ⟨rfl, b2⟩
      go_wp2_with fail
      exact postOf_normal ⟨_, rfl, b2, rfl⟩
    | 2, hi =>
      obtain rfl := Option.some.inj hi
      have d1 : sF (.slice a13 2 c13) (.slice a15 2 c15) 1 w' x49 := hdn 1 _ 49 rfl (hl2 1 (by rfl)) rfl
      have y1 : x49 = atV sxa 3 := d1
      subst y1
      unfold atV
      refine wpOp_list rfl ?_
      go_wp2_with fail
      exact postOf_normal ⟨_, rfl, (Below.refl _ _).alloc (Nat.le_refl _) _, ⟨_, rfl, kidR_new w' [exPD] [atL sxa 3] _ _ rfl rfl (fun w' P i p vs h1 h2 => by
        match i, h1, h2 with
        | 0, h1, h2 =>
          obtain rfl := Option.some.inj h1
          obtain rfl := Option.some.inj h2
          exact atL_pred rfl (by kernel_rfl)
        | i + 1, h1, h2 => simp at h1)⟩⟩
    | 3, hi =>
      obtain rfl := Option.some.inj hi
      have d2 : sF (.slice a13 2 c13) (.slice a15 2 c15) 2 w' x50 := hdn 2 _ 50 rfl (hl2 2 (by rfl)) rfl
      obtain ⟨g2, hg2, k2⟩ := d2
      subst hg2
      refine wpOp_list rfl ?_
      go_wp2_with fail
      exact postOf_normal ⟨_, rfl, Below.refl _ _, ⟨g2, rfl, k2⟩⟩
    | 4, hi =>
      obtain rfl := Option.some.inj hi
      have XW := mkHid (XA15.out.step hb.out)
      refine wpOp_list rfl ?_
      go_wp2_with (refine wpList_load_wanted (by rfl) 25 (.tmp 3) rfl A (by rfl) 25 #[.int .i64 0, .string ⟨#[120, 46, 97]⟩, .string ⟨#[]⟩, .int .i64 1, .slice none 0 0] (0, 0) _ XW.out Tryz.underlying25 rfl (inf_pred _ rfl) ?_)
      exact postOf_normal ⟨_, rfl, Below.refl _ _, rfl⟩
    | 5, hi =>
      obtain rfl := Option.some.inj hi
      have XW := mkHid (XB15.out.step hb.out)
      refine wpOp_list rfl ?_
      go_wp2_with (refine wpList_load_wanted (by rfl) 25 (.tmp 4) rfl AB (by rfl) 25 #[.int .i64 0, .string ⟨#[120, 46, 98]⟩, .string ⟨#[]⟩, .int .i64 2, .slice none 0 0] (0, 0) _ XW.out Tryz.underlying25 rfl (inf_pred _ rfl) ?_)
      exact postOf_normal ⟨_, rfl, Below.refl _ _, rfl⟩
    | 6, hi =>
      obtain rfl := Option.some.inj hi
      have XW := mkHid (XC15.out.step hb.out)
      refine wpOp_list rfl ?_
      go_wp2_with (refine wpList_load_wanted (by rfl) 25 (.tmp 5) rfl AC (by rfl) 25 #[.int .i64 0, .string ⟨#[120, 46, 99]⟩, .string ⟨#[]⟩, .int .i64 5, .slice none 0 0] (0, 0) _ XW.out Tryz.underlying25 rfl (inf_pred _ rfl) ?_)
      exact postOf_normal ⟨_, rfl, Below.refl _ _, rfl⟩
    | 7, hi =>
      obtain rfl := Option.some.inj hi
      have d4 : sF (.slice a13 2 c13) (.slice a15 2 c15) 4 w' x52 := hdn 4 _ 52 rfl (hl2 4 (by rfl)) rfl
      have d5 : sF (.slice a13 2 c13) (.slice a15 2 c15) 5 w' x53 := hdn 5 _ 53 rfl (hl2 5 (by rfl)) rfl
      have d6 : sF (.slice a13 2 c13) (.slice a15 2 c15) 6 w' x54 := hdn 6 _ 54 rfl (hl2 6 (by rfl)) rfl
      have y4 : x52 = atV sxa 1 := d4
      subst y4
      have y5 : x53 = atV sxb 2 := d5
      subst y5
      have y6 : x54 = atV sxc 5 := d6
      subst y6
      unfold atV
      refine wpOp_list rfl ?_
      go_wp2_with fail
      exact postOf_normal ⟨_, rfl, (Below.refl _ _).alloc (Nat.le_refl _) _, ⟨_, rfl, kidR_new w' [exPA, exPB, exPC] [atL sxa 1, atL sxb 2, atL sxc 5] _ _ rfl rfl (fun w' P i p vs h1 h2 => by
        match i, h1, h2 with
        | 0, h1, h2 =>
          obtain rfl := Option.some.inj h1
          obtain rfl := Option.some.inj h2
          exact atL_pred rfl (by kernel_rfl)
        | 1, h1, h2 =>
          obtain rfl := Option.some.inj h1
          obtain rfl := Option.some.inj h2
          exact atL_pred rfl (by kernel_rfl)
        | 2, h1, h2 =>
          obtain rfl := Option.some.inj h1
          obtain rfl := Option.some.inj h2
          exact atL_pred rfl (by kernel_rfl)
        | i + 3, h1, h2 => simp at h1)⟩⟩
    | 8, hi =>
      obtain rfl := Option.some.inj hi
      have d7 : sF (.slice a13 2 c13) (.slice a15 2 c15) 7 w' x55 := hdn 7 _ 55 rfl (hl2 7 (by rfl)) rfl
      obtain ⟨g7, hg7, k7⟩ := d7
      subst hg7
      refine wpOp_list rfl ?_
      go_wp2_with fail
      exact postOf_normal ⟨_, rfl, Below.refl _ _, ⟨g7, rfl, k7⟩⟩
    | 9, hi =>
      obtain rfl := Option.some.inj hi
      have d3 : sF (.slice a13 2 c13) (.slice a15 2 c15) 3 w' x51 := hdn 3 _ 51 rfl (hl2 3 (by rfl)) rfl
      have d8 : sF (.slice a13 2 c13) (.slice a15 2 c15) 8 w' x56 := hdn 8 _ 56 rfl (hl2 8 (by rfl)) rfl
      obtain ⟨g3, hg3, k3⟩ := d3
      subst hg3
      obtain ⟨g8, hg8, k8⟩ := d8
      subst hg8
      refine wpOp_list rfl ?_
      go_wp2_with fail
      exact postOf_normal ⟨_, rfl, (Below.refl _ _).alloc (Nat.le_refl _) _, ⟨_, rfl, chsR_new w' ⟨1, [exPD]⟩ ⟨2, [exPA, exPB, exPC]⟩ g3 g8 _ k3 k8⟩⟩
    | 10, hi =>
      obtain rfl := Option.some.inj hi
      have d0 : sF (.slice a13 2 c13) (.slice a15 2 c15) 0 w' x48 := hdn 0 _ 48 rfl (hl2 0 (by rfl)) rfl
      have d9 : sF (.slice a13 2 c13) (.slice a15 2 c15) 9 w' x57 := hdn 9 _ 57 rfl (hl2 9 (by rfl)) rfl
      have y0 : x48 = .slice a13 2 c13 := d0
      subst y0
      obtain ⟨g9, hg9, k9⟩ := d9
      subst hg9
      have hc := mkHid (schoices_true w' exC6 a13 (some ⟨g9, 0, none⟩) 2 c13 2 rfl (by omega) HC6.out (C615.out.below hb.out) k9)
      refine wpOp_list rfl ?_
      go_wp2_with fail
      refine hc.out.mono ?_
      rintro e w2 ⟨rfl, b2⟩
      go_wp2_with fail
      exact postOf_normal ⟨_, rfl, b2, rfl⟩
    | 11, hi =>
      obtain rfl := Option.some.inj hi
      have d10 : sF (.slice a13 2 c13) (.slice a15 2 c15) 10 w' x58 := hdn 10 _ 58 rfl (hl2 10 (by rfl)) rfl
      have y10 : x58 = .bool true := d10
      subst y10
      refine wpOp_list rfl ?_
      go_wp2_with fail
      exact postOf_normal ⟨_, rfl, Below.refl _ _, rfl⟩
    | 12, hi =>
      obtain rfl := Option.some.inj hi
      have d11 : sF (.slice a13 2 c13) (.slice a15 2 c15) 11 w' x59 := hdn 11 _ 59 rfl (hl2 11 (by rfl)) rfl
      have y11 : x59 = .bool true := d11
      subst y11
      refine wpOp_list rfl ?_
      go_wp2_with fail
      exact postOf_normal ⟨_, rfl, Below.refl _ _, rfl⟩
    | 13, hi =>
      obtain rfl := Option.some.inj hi
      have d11 : sF (.slice a13 2 c13) (.slice a15 2 c15) 11 w' x59 := hdn 11 _ 59 rfl (hl2 11 (by rfl)) rfl
      have y11 : x59 = .bool true := d11
      subst y11
      have XW := mkHid (XA15.out.step hb.out)
      refine wpOp_list rfl ?_
      go_wp2_with (refine wpList_load_wanted (by rfl) 25 (.tmp 3) rfl A (by rfl) 25 #[.int .i64 0, .string ⟨#[120, 46, 97]⟩, .string ⟨#[]⟩, .int .i64 1, .slice none 0 0] (0, 0) _ XW.out Tryz.underlying25 rfl (inf_pred _ rfl) ?_)
      exact postOf_normal ⟨_, rfl, Below.refl _ _, rfl⟩
    | 14, hi =>
      obtain rfl := Option.some.inj hi
      have d11 : sF (.slice a13 2 c13) (.slice a15 2 c15) 11 w' x59 := hdn 11 _ 59 rfl (hl2 11 (by rfl)) rfl
      have y11 : x59 = .bool true := d11
      subst y11
      have XW := mkHid (XC15.out.step hb.out)
      refine wpOp_list rfl ?_
      go_wp2_with (refine wpList_load_wanted (by rfl) 25 (.tmp 5) rfl AC (by rfl) 25 #[.int .i64 0, .string ⟨#[120, 46, 99]⟩, .string ⟨#[]⟩, .int .i64 5, .slice none 0 0] (0, 0) _ XW.out Tryz.underlying25 rfl (inf_pred _ rfl) ?_)
      exact postOf_normal ⟨_, rfl, Below.refl _ _, rfl⟩
    | 15, hi =>
      obtain rfl := Option.some.inj hi
      have d11 : sF (.slice a13 2 c13) (.slice a15 2 c15) 11 w' x59 := hdn 11 _ 59 rfl (hl2 11 (by rfl)) rfl
      have d13 : sF (.slice a13 2 c13) (.slice a15 2 c15) 13 w' x61 := hdn 13 _ 61 rfl (hl2 13 (by rfl)) rfl
      have d14 : sF (.slice a13 2 c13) (.slice a15 2 c15) 14 w' x62 := hdn 14 _ 62 rfl (hl2 14 (by rfl)) rfl
      have y11 : x59 = .bool true := d11
      subst y11
      have y13 : x61 = atV sxa 1 := d13
      subst y13
      have y14 : x62 = atV sxc 5 := d14
      subst y14
      unfold atV
      refine wpOp_list rfl ?_
      go_wp2_with fail
      exact postOf_normal ⟨_, rfl, (Below.refl _ _).alloc (Nat.le_refl _) _, ⟨_, rfl, kidR_new w' [exPA, exPC] [atL sxa 1, atL sxc 5] _ _ rfl rfl (fun w' P i p vs h1 h2 => by
        match i, h1, h2 with
        | 0, h1, h2 =>
          obtain rfl := Option.some.inj h1
          obtain rfl := Option.some.inj h2
          exact atL_pred rfl (by kernel_rfl)
        | 1, h1, h2 =>
          obtain rfl := Option.some.inj h1
          obtain rfl := Option.some.inj h2
          exact atL_pred rfl (by kernel_rfl)
        | i + 2, h1, h2 => simp at h1)⟩⟩
    | 16, hi =>
      obtain rfl := Option.some.inj hi
      have d11 : sF (.slice a13 2 c13) (.slice a15 2 c15) 11 w' x59 := hdn 11 _ 59 rfl (hl2 11 (by rfl)) rfl
      have d15 : sF (.slice a13 2 c13) (.slice a15 2 c15) 15 w' x63 := hdn 15 _ 63 rfl (hl2 15 (by rfl)) rfl
      have y11 : x59 = .bool true := d11
      subst y11
      obtain ⟨g15, hg15, k15⟩ := d15
      subst hg15
      refine wpOp_list rfl ?_
      go_wp2_with fail
      exact postOf_normal ⟨_, rfl, Below.refl _ _, ⟨g15, rfl, k15⟩⟩
    | 17, hi =>
      obtain rfl := Option.some.inj hi
      have d11 : sF (.slice a13 2 c13) (.slice a15 2 c15) 11 w' x59 := hdn 11 _ 59 rfl (hl2 11 (by rfl)) rfl
      have y11 : x59 = .bool true := d11
      subst y11
      have XW := mkHid (XB15.out.step hb.out)
      refine wpOp_list rfl ?_
      go_wp2_with (refine wpList_load_wanted (by rfl) 25 (.tmp 4) rfl AB (by rfl) 25 #[.int .i64 0, .string ⟨#[120, 46, 98]⟩, .string ⟨#[]⟩, .int .i64 2, .slice none 0 0] (0, 0) _ XW.out Tryz.underlying25 rfl (inf_pred _ rfl) ?_)
      exact postOf_normal ⟨_, rfl, Below.refl _ _, rfl⟩
    | 18, hi =>
      obtain rfl := Option.some.inj hi
      have d11 : sF (.slice a13 2 c13) (.slice a15 2 c15) 11 w' x59 := hdn 11 _ 59 rfl (hl2 11 (by rfl)) rfl
      have y11 : x59 = .bool true := d11
      subst y11
      have XW := mkHid (XC15.out.step hb.out)
      refine wpOp_list rfl ?_
      go_wp2_with (refine wpList_load_wanted (by rfl) 25 (.tmp 5) rfl AC (by rfl) 25 #[.int .i64 0, .string ⟨#[120, 46, 99]⟩, .string ⟨#[]⟩, .int .i64 5, .slice none 0 0] (0, 0) _ XW.out Tryz.underlying25 rfl (inf_pred _ rfl) ?_)
      exact postOf_normal ⟨_, rfl, Below.refl _ _, rfl⟩
    | 19, hi =>
      obtain rfl := Option.some.inj hi
      have d11 : sF (.slice a13 2 c13) (.slice a15 2 c15) 11 w' x59 := hdn 11 _ 59 rfl (hl2 11 (by rfl)) rfl
      have d17 : sF (.slice a13 2 c13) (.slice a15 2 c15) 17 w' x65 := hdn 17 _ 65 rfl (hl2 17 (by rfl)) rfl
      have d18 : sF (.slice a13 2 c13) (.slice a15 2 c15) 18 w' x66 := hdn 18 _ 66 rfl (hl2 18 (by rfl)) rfl
      have y11 : x59 = .bool true := d11
      subst y11
      have y17 : x65 = atV sxb 2 := d17
      subst y17
      have y18 : x66 = atV sxc 5 := d18
      subst y18
      unfold atV
      refine wpOp_list rfl ?_
      go_wp2_with fail
      exact postOf_normal ⟨_, rfl, (Below.refl _ _).alloc (Nat.le_refl _) _, ⟨_, rfl, kidR_new w' [exPB, exPC] [atL sxb 2, atL sxc 5] _ _ rfl rfl (fun w' P i p vs h1 h2 => by
        match i, h1, h2 with
        | 0, h1, h2 =>
          obtain rfl := Option.some.inj h1
          obtain rfl := Option.some.inj h2
          exact atL_pred rfl (by kernel_rfl)
        | 1, h1, h2 =>
          obtain rfl := Option.some.inj h1
          obtain rfl := Option.some.inj h2
          exact atL_pred rfl (by kernel_rfl)
        | i + 2, h1, h2 => simp at h1)⟩⟩
    | 20, hi =>
      obtain rfl := Option.some.inj hi
      have d11 : sF (.slice a13 2 c13) (.slice a15 2 c15) 11 w' x59 := hdn 11 _ 59 rfl (hl2 11 (by rfl)) rfl
      have d19 : sF (.slice a13 2 c13) (.slice a15 2 c15) 19 w' x67 := hdn 19 _ 67 rfl (hl2 19 (by rfl)) rfl
      have y11 : x59 = .bool true := d11
      subst y11
      obtain ⟨g19, hg19, k19⟩ := d19
      subst hg19
      refine wpOp_list rfl ?_
      go_wp2_with fail
      exact postOf_normal ⟨_, rfl, Below.refl _ _, ⟨g19, rfl, k19⟩⟩
    | 21, hi =>
      obtain rfl := Option.some.inj hi
      have d11 : sF (.slice a13 2 c13) (.slice a15 2 c15) 11 w' x59 := hdn 11 _ 59 rfl (hl2 11 (by rfl)) rfl
      have d16 : sF (.slice a13 2 c13) (.slice a15 2 c15) 16 w' x64 := hdn 16 _ 64 rfl (hl2 16 (by rfl)) rfl
      have d20 : sF (.slice a13 2 c13) (.slice a15 2 c15) 20 w' x68 := hdn 20 _ 68 rfl (hl2 20 (by rfl)) rfl
      have y11 : x59 = .bool true := d11
      subst y11
      obtain ⟨g16, hg16, k16⟩ := d16
      subst hg16
      obtain ⟨g20, hg20, k20⟩ := d20
      subst hg20
      refine wpOp_list rfl ?_
      go_wp2_with fail
      exact postOf_normal ⟨_, rfl, (Below.refl _ _).alloc (Nat.le_refl _) _, ⟨_, rfl, chsR_new w' ⟨1, [exPA, exPC]⟩ ⟨1, [exPB, exPC]⟩ g16 g20 _ k16 k20⟩⟩
    | 22, hi =>
      obtain rfl := Option.some.inj hi
      have d11 : sF (.slice a13 2 c13) (.slice a15 2 c15) 11 w' x59 := hdn 11 _ 59 rfl (hl2 11 (by rfl)) rfl
      have d12 : sF (.slice a13 2 c13) (.slice a15 2 c15) 12 w' x60 := hdn 12 _ 60 rfl (hl2 12 (by rfl)) rfl
      have d21 : sF (.slice a13 2 c13) (.slice a15 2 c15) 21 w' x69 := hdn 21 _ 69 rfl (hl2 21 (by rfl)) rfl
      have y11 : x59 = .bool true := d11
      subst y11
      have y12 : x60 = .slice a15 2 c15 := d12
      subst y12
      obtain ⟨g21, hg21, k21⟩ := d21
      subst hg21
      have hc := mkHid (schoices_true w' exC7 a15 (some ⟨g21, 0, none⟩) 2 c15 2 rfl (by omega) HC7.out (C7.out.below hb.out) k21)
      refine wpOp_list rfl ?_
      go_wp2_with fail
      refine hc.out.mono ?_
      rintro e w2 ⟨rfl, b2⟩
      go_wp2_with fail
      exact postOf_normal ⟨_, rfl, b2, rfl⟩
    | 23, hi =>
      obtain rfl := Option.some.inj hi
      have d11 : sF (.slice a13 2 c13) (.slice a15 2 c15) 11 w' x59 := hdn 11 _ 59 rfl (hl2 11 (by rfl)) rfl
      have d22 : sF (.slice a13 2 c13) (.slice a15 2 c15) 22 w' x70 := hdn 22 _ 70 rfl (hl2 22 (by rfl)) rfl
      have y11 : x59 = .bool true := d11
      subst y11
      have y22 : x70 = .bool true := d22
      subst y22
      refine wpOp_list rfl ?_
      go_wp2_with fail
      exact postOf_normal ⟨_, rfl, Below.refl _ _, rfl⟩
    | 24, hi =>
      obtain rfl := Option.some.inj hi
      have d23 : sF (.slice a13 2 c13) (.slice a15 2 c15) 23 w' x71 := hdn 23 _ 71 rfl (hl2 23 (by rfl)) rfl
      have y23 : x71 = .bool true := d23
      subst y23
      refine wpOp_list rfl ?_
      go_wp2_with fail
      exact postOf_normal ⟨_, rfl, Below.refl _ _, rfl⟩
    | i + 25, hi => simp at hi
end Go.Proofs.YtmkdfbelbcocpaaGreatDoor
