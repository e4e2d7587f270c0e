/- Whether a predicate holds (walk of Holds). The atoms of a predicate as predicates (walk of Atoms). Whether choices are met by binds (walk of Meets). Before, SameAtom and Find of the reference (walks). The normal form's choices are met by binds iff the predicate holds (plain). No program in sight. The examples of the chapter, computed (printed by wip/tools/genex.py). What the operations of the last region of cloaklaw05.sane say (printed by wip/tools/genmn.py). The examples hold (walk of cloaklaw05.sane; printed by wip/tools/gensane5.py). -/
import Derived.Test.YtmkdfbelbcocpaaGreatDoorBN24
import Derived.Test.YtmkdfbelbcocpaaGreatDoorBN22
import Derived.Test.YtmkdfbelbcocpaaGreatDoorBN13
set_option linter.unusedVariables false
set_option linter.unusedSimpArgs false
namespace Go.Proofs.YtmkdfbelbcocpaaGreatDoor
open Go.RowKit Go.Sort Go.Maps
theorem vbG_ok : ∀ (S : List (List Nat)) (l : List Bnd), vbG S l = true → ∀ b ∈ l, validN b.n = true ∧ 0 ≤ b.v ∧ b.v ≤ 65535
  | _, [], _, b, hb => by cases hb
  | S, x :: xs, h, b, hb => by
    unfold vbG at h
    simp only [Bool.and_eq_true, decide_eq_true_eq] at h
    rcases List.mem_cons.1 hb with hb | hb
    · subst hb; exact ⟨h.2.1, h.2.2.1, h.2.2.2.1⟩
    · exact vbG_ok _ xs h.2.2.2.2 b hb
theorem vbP_val {l : List Bnd} (h : vbP l = true) : ∀ b ∈ l, 0 ≤ b.v ∧ b.v ≤ 65535 := fun b hb => (vbG_ok [] l h b hb).2
theorem valM_bd {l : List Bnd} (h : vbP l = true) : ValB (valM l) := fun e he => by
  unfold valM at he
  rcases List.mem_append.1 he with he | he
  · rw [List.mem_reverse, List.mem_map] at he
    obtain ⟨b, hb, rfl⟩ := he
    exact vbP_val h b hb
  · rw [List.mem_singleton] at he
    subst he
    exact ⟨by decide, by decide⟩
/-- Whether a predicate holds for binds. -/
def holdP (p : Prd) (l : List Bnd) : Bool × Int :=
  if (validP p && vbP l) = false then (false, 1) else if (atomsP p).all (bdV (valM l)) = false then (false, 4) else (truthP (fV (valM l)) p, 0)
theorem BndR.below {w w' : World} {P : Nat → Prop} {l : List Bnd} {ao : Option Addr} (h : BndR w P l ao) (hb : RowKit.Below w.heap.size w w') : BndR w' P l ao := by
  rcases h with h | ⟨g, off, h1, h2, h3, h4⟩
  · exact .inl h
  · exact .inr ⟨g, off, h1, h2, Nat.lt_of_lt_of_le h3 hb.size, h4.of_block (hb.block g h3)⟩
set_option maxHeartbeats 8000000 in
set_option maxRecDepth 100000 in
theorem bycl_any (b : Nat) (w : World) : Calls Tryz.prog 104 #[.map (some b)] w fun e w' => e = .returned (.func (.func 172) #[] #[.pointer (some ⟨w.heap.size, 0, none⟩)]) ∧ w' = w.alloc (.cells #[.map (some b)] 127) := by
  go_enter Tryz.func104, Tryz.ntmps104
  go_wp2
  go_ret
  exact ⟨rfl, rfl⟩
/-- by's closure in memory. -/
def ByC (Bm b : Nat) (M : List (List Nat × Int)) (w : World) : Prop := MapV w b M ∧ HasV w Bm 127 [.map (some b)]
theorem by_is (Bm b : Nat) (M : List (List Nat × Int)) (hv : ValB M) : IsF (ByC Bm b M) 172 #[.pointer (some ⟨Bm, 0, none⟩)] (fV M) KyOk :=
  ⟨enters_of Tryz.func172 (by kernel_rfl) rfl, fun w w' h hb => ⟨h.1.step hb, h.2.step hb⟩, fun k w hk hC => by1_any k hk Bm b M w hC.1 hv hC.2⟩
theorem all_drop (f : Ky → Bool) (l : List Ky) (i : Nat) (k : Ky) (h : l[i]? = some k) : (l.drop i).all f = (f k && (l.drop (i + 1)).all f) := by
  rw [drop_cons_get l i k h, List.all_cons]
set_option maxHeartbeats 8000000 in
set_option maxRecDepth 100000 in
theorem holds_any (p : Prd) (w : World) (P Pb : Nat → Prop) (vs : List Value) (B : Nat) (l : List Bnd) (bo : Option Addr) (m bc : Nat) (hN : cntP p ≤ 1000000) (hb : BytP p) (h : PredC w P p vs) (hT : Tab w B)
    (hm : m = l.length) (hbig : m ≤ 1000000) (hok : BndOk l) (hk : BndR w Pb l bo) :
    Calls Tryz.prog 42 #[.agg vs.toArray, .slice bo m bc] w fun e w' => e = .returned (.tuple #[.bool (holdP p l).1, .int .i64 (holdP p l).2]) ∧ RowKit.Below w.heap.size w w' := by
  obtain ⟨xa, xn, xc, rfl, -⟩ := h.form
  have bx := (RowKit.Below.refl w.heap.size w).alloc (Nat.le_refl _) (.cells #[.int .i64 p.k, .string (strN p.l), .string (strN p.r), .int .i64 p.c, .slice xa xn xc] 25)
  have B1 := mkHid bx
  have X1 : Hid (HasV (w.alloc (.cells #[.int .i64 p.k, .string (strN p.l), .string (strN p.r), .int .i64 p.c, .slice xa xn xc] 25)) w.heap.size 25 [.int .i64 p.k, .string (strN p.l), .string (strN p.r), .int .i64 p.c, .slice xa xn xc]) := mkHid (heap_alloc_new w _)
  have HVP := mkHid (fun W (hW : RowKit.Below w.heap.size w W) => vpred_any p W P _ B hN hb (h.below hW) (TabIn.step (w := w) hT hW))
  have HVB := mkHid (fun W (hW : RowKit.Below w.heap.size w W) => vbinds_any W Pb l bo m bc B (show Tab W B from TabIn.step (w := w) hT hW) hm hbig hok (hk.below hW))
  have HVL := mkHid (fun (hv : vbP l = true) W (hW : RowKit.Below w.heap.size w W) => values_any W Pb l bo m bc hm hbig hok (vbP_val hv) (hk.below hW))
  have HAT := mkHid (fun (hv : validP p = true) W (hW : RowKit.Below w.heap.size w W) => atoms_any W P p _ (h.below hW) (by unfold validP at hv; rw [Bool.and_eq_true] at hv; exact hv.2) hN)
  have HTR := mkHid (fun (W : World) (C : World → Prop) (g : Nat) (cb : Array Value) (f : Ky → Bool) (S : Ky → Prop) (hW : RowKit.Below w.heap.size w W) h1 h2 h4 => truth_any (cntP p) p W P [.int .i64 p.k, .string (strN p.l), .string (strN p.r), .int .i64 p.c, .slice xa xn xc] C g cb f S (Nat.le_refl _) hN h1 h2 (h.below hW) h4)
  have HFK := mkHid (fun (hv : validP p = true) => form_keys p (by unfold validP at hv; rw [Bool.and_eq_true] at hv; exact hv.2))
  have HFA := mkHid (fun (hv : validP p = true) (k : Ky) (hk : k ∈ atomsP p) => form_keys p (by unfold validP at hv; rw [Bool.and_eq_true] at hv; exact hv.2) k ((atomsP_mem p k).1 hk))
  have HLK : Hid ((atomsP p).length ≤ 1000000) := mkHid (by
    refine Nat.le_trans (nodup_len_le _ (keysP p) (asc_nodup (atomsP_asc p)) (fun x hx => (atomsP_mem p x).1 hx)) ?_
    exact Nat.le_trans (keysP_len p) hN)
  have HMB := mkHid (fun (hv : vbP l = true) => valM_bd hv)
  have HV : Hid (holdP p l = if (validP p && vbP l) = false then (false, 1) else if (atomsP p).all (bdV (valM l)) = false then (false, 4) else (truthP (fV (valM l)) p, 0)) := mkHid rfl
  obtain ⟨V, hV⟩ : ∃ V, holdP p l = V := ⟨_, rfl⟩
  rw [hV] at HV ⊢
  clear bx h hT hb hN hV hm hok hk
  generalize validP p = s at *
  generalize vbP l = t at *
  obtain ⟨M, hM⟩ : ∃ M, valM l = M := ⟨_, rfl⟩
  rw [hM] at HV HVL HMB
  clear hM
  generalize p.k = q0 at *
  generalize strN p.l = q1 at *
  generalize strN p.r = q2 at *
  generalize p.c = q3 at *
  go_enter Tryz.func42, Tryz.ntmps42
  go_upto_region 1 with (fail)
  generalize w.alloc (.cells #[.int .i64 q0, .string q1, .string q2, .int .i64 q3, .slice xa xn xc] 25) = w1 at *
  go_wp2_with (refine wpList_load_row rfl 25 (.tmp 2) rfl w.heap.size ?x1 25 #[.int .i64 q0, .string q1, .string q2, .int .i64 q3, .slice xa xn xc] (0, 0) _ X1.out Tryz.underlying25 rfl (inf_pred _ rfl) ?_; (case x1 => rfl))
  refine (HVP.out w1 B1.out).mono ?_
  rintro e w2 ⟨rfl, b2⟩
  have B2 := mkHid (B1.out.trans (b2.mono B1.out.size))
  have X2 := mkHid (X1.out.step b2)
  clear b2 HVP B1 X1
  cases s with
  | false =>
    have HX : Hid (V = (false, 1)) := mkHid (by rw [HV.out]; rfl)
    go_wp2
    go_ret2
    exact ⟨by rw [HX.out]; rfl, B2.out⟩
  | true =>
    go_wp2_with fail
    refine (HVB.out w2 B2.out).mono ?_
    rintro e w3 ⟨rfl, b3⟩
    have B3 := mkHid (B2.out.trans (b3.mono B2.out.size))
    have X3 := mkHid (X2.out.step b3)
    clear b3 HVB B2 X2
    cases t with
    | false =>
      have HX : Hid (V = (false, 1)) := mkHid (by rw [HV.out]; rfl)
      go_wp2
      go_ret2
      exact ⟨by rw [HX.out]; rfl, B3.out⟩
    | true =>
      have HV2 : Hid (V = if (atomsP p).all (bdV M) = false then (false, 4) else (truthP (fV M) p, 0)) := mkHid (by rw [HV.out]; rfl)
      go_wp2_with fail
      refine (HVL.out (by trivial) w3 B3.out).mono ?_
      rintro e w4 ⟨rfl, m4, b4⟩
      have M4 := mkHid m4
      have B4 := mkHid (B3.out.trans (b4.mono B3.out.size))
      have X4 := mkHid (X3.out.step b4)
      clear b4 m4 HVL B3 X3 HV
      generalize w3.heap.size = mb at *
      go_wp2_with (refine wpList_load_row rfl 25 (.tmp 2) rfl w.heap.size ?x2 25 #[.int .i64 q0, .string q1, .string q2, .int .i64 q3, .slice xa xn xc] (0, 0) _ X4.out Tryz.underlying25 rfl (inf_pred _ rfl) ?_; (case x2 => rfl))
      refine (HAT.out (by trivial) w4 B4.out).mono ?_
      rintro e w5 ⟨ak, ck, rfl, ho, b5⟩
      have M5 := mkHid (M4.out.step b5)
      have B5 := mkHid (B4.out.trans (b5.mono B4.out.size))
      have X5 := mkHid (X4.out.step b5)
      have K5 := mkHid (ho.keysR rfl)
      clear b5 ho HAT B4 X4 M4
      obtain ⟨ks, hks⟩ : ∃ ks, atomsP p = ks := ⟨_, rfl⟩
      rw [hks] at HV2 K5 HLK HFA
      rw [hks]
      clear hks
      obtain ⟨n, hn⟩ : ∃ n, ks.length = n := ⟨_, rfl⟩
      have HN := mkHid hn
      rw [hn] at HLK
      rw [hn]
      clear hn
      have hn8 := HLK.out
      have HA0 : Hid (ks.all (bdV M) = (ks.drop 0).all (bdV M)) := mkHid rfl
      have Z0 : Hid (RowKit.Below w5.heap.size w5 w5) := mkHid (RowKit.Below.refl _ _)
      go_wp2_with fail
      go_loopw [22] (fun cc wr => ∃ (i : Nat), cc = .int .i64 i ∧ i ≤ n ∧ Hid (RowKit.Below w5.heap.size w5 wr) ∧ Hid (ks.all (bdV M) = (ks.drop i).all (bdV M))) (fun c _ => (n - intOf c).toNat)
      case atStart => exact ⟨0, rfl, by omega, Z0, HA0⟩
      case round =>
        clear HA0 Z0
        obtain ⟨i, rfl, hi, hw, hv⟩ := hrel
        have e2 : IntKind.i64.wrap ((i : Int) + 1) = ((i + 1 : Nat) : Int) := IntWalk.i64_in _ (by omega)
        by_cases hlt : i < n
        · have ii : (i : Int) < n := by omega
          have HQ : Hid (∃ k, ks[i]? = some k) := mkHid (by
            have hl : i < ks.length := by rw [HN.out]; exact hlt
            exact ⟨ks[i], List.getElem?_eq_getElem hl⟩)
          obtain ⟨k, hki⟩ := HQ.out
          clear HQ
          have HST := mkHid (hv.out.trans (all_drop (bdV M) ks i k hki))
          have HKO := mkHid (HFA.out (by trivial) k (List.mem_of_getElem? hki))
          obtain ⟨g, off, hao, hg, s0, s1, s2⟩ := (K5.out.below hw.out).at i k hki
          have HAO := mkHid hao
          subst hao
          have HBD := mkHid (fun W (hW : MapV W mb M) => bound_any k HKO.out mb M W hW)
          have HKC : Hid (kyC k = [.string (strN k.l), .string (strN k.r), .int .i64 k.c]) := mkHid rfl
          rw [HKC.out] at HBD
          clear hki HKO HKC hv hg
          generalize strN k.l = y1 at *
          generalize strN k.r = y2 at *
          generalize k.c = y3 at *
          generalize bdV M k = bd at *
          have bx := (RowKit.Below.refl wr.heap.size wr).alloc (Nat.le_refl _) (.cells #[.string y1, .string y2, .int .i64 y3] 123)
          have Y1 : Hid (HasV (wr.alloc (.cells #[.string y1, .string y2, .int .i64 y3] 123)) wr.heap.size 123 [.string y1, .string y2, .int .i64 y3]) := mkHid (heap_alloc_new _ _)
          have W1 := mkHid (hw.out.trans (bx.mono hw.out.size))
          clear bx hw
          go_upto_region 7 with (fail)
          clear s0 s1 s2
          generalize wr.alloc (.cells #[.string y1, .string y2, .int .i64 y3] 123) = wk at *
          go_wp2_with (refine wpList_load_row rfl 123 (.tmp 8) rfl wr.heap.size ?x3 123 #[.string y1, .string y2, .int .i64 y3] (0, 0) _ Y1.out Tryz.underlying123 rfl (inf_key _ rfl) ?_; (case x3 => rfl))
          refine (HBD.out wk (M5.out.step W1.out)).mono ?_
          rintro e w6 ⟨rfl, b6⟩
          have W6 := mkHid (W1.out.trans (b6.mono W1.out.size))
          clear b6 W1 Y1
          cases bd with
          | false =>
            have HX : Hid (V = (false, 4)) := mkHid (by rw [HV2.out, HST.out]; rfl)
            go_wp2
            go_ret2
            exact ⟨by rw [HX.out]; rfl, B5.out.trans (W6.out.mono B5.out.size)⟩
          | true =>
            have HS2 : Hid (ks.all (bdV M) = (ks.drop (i + 1)).all (bdV M)) := mkHid (by rw [HST.out, Bool.true_and])
            go_wp2
            go_roundw
            case rel => exact ⟨i + 1, by go_num, by omega, W6, HS2⟩
            case measure => simp only [intOf]; omega
        · have ii : ¬ ((i : Int) < n) := by omega
          have HX : Hid (V = (truthP (fV M) p, 0)) := mkHid (by rw [HV2.out, hv.out, List.drop_eq_nil_of_le (by rw [HN.out]; omega)]; rfl)
          have X6 := mkHid (X5.out.step hw.out)
          have M6 := mkHid (M5.out.step hw.out)
          have B6 := mkHid (B5.out.trans (hw.out.mono B5.out.size))
          clear hv hw HV2 K5 X5 M5 B5
          go_upto_region 10 with (fail)
          refine wp_region_pickS [0, 1] [2, 3, 4, 5] (fun w' => HasV w' w.heap.size 25 [.int .i64 q0, .string q1, .string q2, .int .i64 q3, .slice xa xn xc]) (by kernel_rfl) (by kernel_rfl) (by kernel_rfl) (fun _ _ d _ _ h => by cases d <;> exact h) X6.out ?_
          simp only [pickI, List.filterMap_cons, List.filterMap_nil, List.getElem?_cons_zero, List.getElem?_cons_succ, Option.map_some, List.map_cons, List.map_nil]
          apply Exists.intro
          refine ⟨?hh, ?ht⟩
          case hh =>
            intro w' hw'
            have c0 := hw'.cell 0 _ rfl
            have c1 := hw'.cell 1 _ rfl
            have c2 := hw'.cell 2 _ rfl
            have c3 := hw'.cell 3 _ rfl
            have c4 := hw'.cell 4 _ rfl
            clear hw'
            repeat still_step
            exact wpStill_nil rfl
          case ht =>
            have BD := (RowKit.Below.refl wr.heap.size wr).drew
            have X7 := mkHid (X6.out.step BD)
            have M7 := mkHid (M6.out.step BD)
            have B7 := mkHid (B6.out.trans (BD.mono B6.out.size))
            clear BD X6 M6 B6
            generalize wr.drew = wd at *
            refine wpTailS_cons ?_
            go_wp2_with fail
            refine (bycl_any mb wd).mono ?_
            rintro e w8 ⟨rfl, rfl⟩
            have BA := (RowKit.Below.refl wd.heap.size wd).alloc (Nat.le_refl _) (.cells #[.map (some mb)] 127)
            have X8 := mkHid (X7.out.step BA)
            have C8 : Hid (ByC wd.heap.size mb M (wd.alloc (.cells #[.map (some mb)] 127))) := mkHid ⟨M7.out.step BA, heap_alloc_new _ _⟩
            have B8 := mkHid (B7.out.trans (BA.mono B7.out.size))
            clear BA X7 M7 B7
            generalize wd.alloc (.cells #[.map (some mb)] 127) = w8 at *
            go_wp2_with fail
            refine postOf_normal ⟨X8.out, ?_⟩
            refine wpTailS_cons ?_
            go_wp2_with fail
            refine (HTR.out w8 (ByC wd.heap.size mb M) 172 _ (fV M) KyOk B8.out (by_is wd.heap.size mb M (HMB.out (by trivial))) (HFK.out (by trivial)) C8.out).mono ?_
            rintro e w9 ⟨rfl, b9⟩
            have X9 := mkHid (X8.out.step b9)
            have B9 := mkHid (B8.out.trans (b9.mono B8.out.size))
            clear b9 X8 C8 B8
            go_wp2_with fail
            refine postOf_normal ⟨X9.out, ?_⟩
            refine wpTailS_cons ?_
            go_wp2_with fail
            refine postOf_normal ⟨X9.out, ?_⟩
            refine wpTailS_cons ?_
            go_wp2_with fail
            refine postOf_normal ⟨X9.out, ?_⟩
            unfold wpTailS
            go_wp2
            go_ret2
            exact ⟨by rw [HX.out]; rfl, B9.out⟩
end Go.Proofs.YtmkdfbelbcocpaaGreatDoor
namespace Go.Proofs.YtmkdfbelbcocpaaGreatDoor
open Go.RowKit Go.Sort Go.Maps
def atmsP (p : Prd) : List Ky := if validP p = true then atomsP p else []
set_option maxHeartbeats 8000000 in
set_option maxRecDepth 100000 in
theorem patoms_any (p : Prd) (w : World) (P : Nat → Prop) (vs : List Value) (B : Nat) (hN : cntP p ≤ 1000000) (hb : BytP p) (h : PredC w P p vs) (hT : Tab w B) :
    Calls Tryz.prog 31 #[.agg vs.toArray] w fun e w' => ∃ (ao : Option Addr) (cp : Nat), e = .returned (.slice ao (atmsP p).length cp) ∧ OwnK w' w.heap.size 5 (atmsP p).length cp ((atmsP p).flatMap atomV) ao ∧ RowKit.Below w.heap.size w w' := by
  obtain ⟨xa, xn, xc, rfl, -⟩ := h.form
  have bx := (RowKit.Below.refl w.heap.size w).alloc (Nat.le_refl _) (.cells #[.int .i64 p.k, .string (strN p.l), .string (strN p.r), .int .i64 p.c, .slice xa xn xc] 25)
  have B1 := mkHid bx
  have X1 : Hid (HasV (w.alloc (.cells #[.int .i64 p.k, .string (strN p.l), .string (strN p.r), .int .i64 p.c, .slice xa xn xc] 25)) w.heap.size 25 [.int .i64 p.k, .string (strN p.l), .string (strN p.r), .int .i64 p.c, .slice xa xn xc]) := mkHid (heap_alloc_new w _)
  have HVP := mkHid (fun W (hW : RowKit.Below w.heap.size w W) => vpred_any p W P _ B hN hb (h.below hW) (TabIn.step (w := w) hT hW))
  have HAT := mkHid (fun (hv : validP p = true) W (hW : RowKit.Below w.heap.size w W) => atoms_any W P p _ (h.below hW) (by unfold validP at hv; rw [Bool.and_eq_true] at hv; exact hv.2) hN)
  have HLK : Hid ((atomsP p).length ≤ 1000000) := mkHid (by
    refine Nat.le_trans (nodup_len_le _ (keysP p) (asc_nodup (atomsP_asc p)) (fun x hx => (atomsP_mem p x).1 hx)) ?_
    exact Nat.le_trans (keysP_len p) hN)
  have HV : Hid (atmsP p = if validP p = true then atomsP p else []) := mkHid rfl
  obtain ⟨V, hV⟩ : ∃ V, atmsP p = V := ⟨_, rfl⟩
  rw [hV] at HV ⊢
  clear bx h hT hb hN hV
  generalize validP p = s at *
  generalize p.k = q0 at *
  generalize strN p.l = q1 at *
  generalize strN p.r = q2 at *
  generalize p.c = q3 at *
  go_enter Tryz.func31, Tryz.ntmps31
  go_upto_region 1 with (fail)
  generalize w.alloc (.cells #[.int .i64 q0, .string q1, .string q2, .int .i64 q3, .slice xa xn xc] 25) = w1 at *
  go_wp2_with (refine wpList_load_row rfl 25 (.tmp 1) rfl w.heap.size ?x1 25 #[.int .i64 q0, .string q1, .string q2, .int .i64 q3, .slice xa xn xc] (0, 0) _ X1.out Tryz.underlying25 rfl (inf_pred _ rfl) ?_; (case x1 => rfl))
  refine (HVP.out w1 B1.out).mono ?_
  rintro e w2 ⟨rfl, b2⟩
  have B2 := mkHid (B1.out.trans (b2.mono B1.out.size))
  have X2 := mkHid (X1.out.step b2)
  clear b2 HVP B1 X1
  cases s with
  | false =>
    have HX : Hid (V = []) := mkHid (by rw [HV.out]; rfl)
    go_wp2
    go_ret
    exact ⟨none, 0, by rw [HX.out]; rfl, by rw [HX.out]; exact .nil rfl rfl rfl, B2.out⟩
  | true =>
    have HX : Hid (V = atomsP p) := mkHid (by rw [HV.out]; rfl)
    go_wp2_with (refine wpList_load_row rfl 25 (.tmp 1) rfl w.heap.size ?x2 25 #[.int .i64 q0, .string q1, .string q2, .int .i64 q3, .slice xa xn xc] (0, 0) _ X2.out Tryz.underlying25 rfl (inf_pred _ rfl) ?_; (case x2 => rfl))
    refine (HAT.out (by trivial) w2 B2.out).mono ?_
    rintro e w3 ⟨ak, ck, rfl, ho, b3⟩
    have B3 := mkHid (B2.out.trans (b3.mono B2.out.size))
    have K3 := mkHid (ho.keysR rfl)
    clear b3 ho HAT B2 X2
    have hx2 := HX.out
    obtain ⟨ks, hks⟩ : ∃ ks, atomsP p = ks := ⟨_, rfl⟩
    rw [hks] at K3 HLK hx2
    rw [hks]
    have HXV := mkHid hx2
    clear hks hx2 HV HX
    obtain ⟨n, hn⟩ : ∃ n, ks.length = n := ⟨_, rfl⟩
    have HN := mkHid hn
    rw [hn] at HLK ⊢
    clear hn
    have hn8 := HLK.out
    have Z0 : Hid (RowKit.Below w3.heap.size w3 w3) := mkHid (RowKit.Below.refl _ _)
    have O0 : Hid (OwnK w3 w3.heap.size 5 0 0 ((ks.take 0).flatMap atomV) none) := mkHid (.nil rfl rfl rfl)
    go_wp2_with fail
    go_loopw [2, 11] (fun ov cc wr => ∃ (i : Nat) (a5 : Option Addr) (c5 : Nat), ov = .slice a5 i c5 ∧ cc = .int .i64 i ∧ i ≤ n ∧ Hid (RowKit.Below w3.heap.size w3 wr) ∧ Hid (OwnK wr w3.heap.size 5 i c5 ((ks.take i).flatMap atomV) a5)) (fun _ c _ => (n - intOf c).toNat)
    case atStart => exact ⟨0, none, 0, rfl, rfl, by omega, Z0, O0⟩
    case round =>
      clear Z0 O0
      obtain ⟨i, a5, c5, rfl, rfl, hi, hw, ho5⟩ := hrel
      have e2 : IntKind.i64.wrap ((i : Int) + 1) = ((i + 1 : Nat) : Int) := IntWalk.i64_in _ (by omega)
      by_cases hlt : i < n
      · have ii : (i : Int) < n := by omega
        have HQ : Hid (∃ k, ks[i]? = some k) := mkHid (by
          have hl : i < ks.length := by rw [HN.out]; exact hlt
          exact ⟨ks[i], List.getElem?_eq_getElem hl⟩)
        obtain ⟨k, hki⟩ := HQ.out
        clear HQ
        obtain ⟨g, off, hao, hg, s0, s1, s2⟩ := (K3.out.below hw.out).at i k hki
        have HAO := mkHid hao
        subst hao
        have HKA := mkHid (fun w => katom_any k.l k.r k.c w)
        have HTK : Hid ((ks.take (i + 1)).flatMap atomV = (ks.take i).flatMap atomV ++ atomV k) := mkHid (by
          rw [List.take_add_one, hki, List.flatMap_append]; simp)
        have HAV : Hid (atomV k = [.int .i64 0, .string (strN k.l), .string (strN k.r), .int .i64 k.c, .slice none 0 0]) := mkHid rfl
        rw [HAV.out] at HTK
        unfold keyC atomC at HKA
        clear hki HAV hg
        generalize strN k.l = y1 at *
        generalize strN k.r = y2 at *
        generalize k.c = y3 at *
        have bx := (RowKit.Below.refl wr.heap.size wr).alloc (Nat.le_refl _) (.cells #[.string y1, .string y2, .int .i64 y3] 123)
        have Y1 : Hid (HasV (wr.alloc (.cells #[.string y1, .string y2, .int .i64 y3] 123)) wr.heap.size 123 [.string y1, .string y2, .int .i64 y3]) := mkHid (heap_alloc_new _ _)
        have W1 := mkHid (hw.out.trans (bx.mono hw.out.size))
        have O1 := mkHid (ho5.out.below bx)
        clear bx hw ho5
        go_upto_region 6 with (fail)
        clear s0 s1 s2
        generalize wr.alloc (.cells #[.string y1, .string y2, .int .i64 y3] 123) = wk at *
        go_wp2_with (refine wpList_load_row rfl 123 (.tmp 4) rfl wr.heap.size ?x3 123 #[.string y1, .string y2, .int .i64 y3] (0, 0) _ Y1.out Tryz.underlying123 rfl (inf_key _ rfl) ?_; (case x3 => rfl))
        refine (HKA.out wk).mono ?_
        rintro e w6 ⟨rfl, b6⟩
        have W6 := mkHid (W1.out.trans (b6.mono W1.out.size))
        have O6 := mkHid (O1.out.below b6)
        clear b6 W1 Y1 O1
        have bx := (RowKit.Below.refl w6.heap.size w6).alloc (Nat.le_refl _) (.cells #[.int .i64 0, .string y1, .string y2, .int .i64 y3, .slice none 0 0] 25)
        have W6s := mkHid W6.out.size
        clear bx
        go_wp2_with (at_builtin; refine app_k 23 25 predZ 5 72 Tryz.underlying23 info_pred rfl (by omega) (by omega) w6 w3.heap.size rfl (.tmp 15) (.tmp 18) rfl a5 c5 i ((ks.take i).flatMap atomV) ?u1 O6.out ?u5 1 1 #[.int .i64 0, .string y1, .string y2, .int .i64 y3, .slice none 0 0] 25 ?u2 rfl (by omega) ?u3 ?u4 ?_; (case u1 => rfl); (case u5 => exact W6s.out); (case u2 => rfl); (case u3 => intro u hu; simp at hu; rcases hu with rfl | rfl | rfl | rfl | rfl <;> rfl); (case u4 => omega); intro g7 off7 c7 wa o9 gr9 b9 or9; have O9 := mkHid o9; have B9 := mkHid b9; have GR9 := mkHid gr9; clear o9 gr9 b9 or9)
        have W9 := mkHid (W6.out.trans B9.out)
        rw [← HTK.out] at O9
        go_roundw
        case rel => exact ⟨i + 1, some ⟨g7, off7, none⟩, c7, rfl, by go_num, by omega, W9, O9⟩
        case measure => simp only [intOf]; omega
      · have ii : ¬ ((i : Int) < n) := by omega
        obtain rfl : i = n := by omega
        have HTC : Hid (ks.take i = ks) := mkHid (by rw [← HN.out, List.take_length])
        rw [HTC.out] at ho5
        go_wp2
        go_ret
        exact ⟨a5, c5, by rw [HXV.out, HN.out]; rfl, by rw [HXV.out, HN.out]; exact ho5.out.lower B3.out.size, B3.out.trans (hw.out.mono B3.out.size)⟩
end Go.Proofs.YtmkdfbelbcocpaaGreatDoor
namespace Go.Proofs.YtmkdfbelbcocpaaGreatDoor
open Go.RowKit Go.Sort Go.Maps
def vatP (q : Prd) : Bool := atomB q.k q.l q.r q.c q.ks.length
def badC (c : Chc) : Bool := c.atoms.any (fun q => !vatP q)
def boundC (M : List (List Nat × Int)) (c : Chc) : Bool := c.atoms.all (fun q => bdV M (kyOf q))
def cntY (f : Ky → Bool) (aa : List Prd) : Nat := aa.countP (fun q => f (kyOf q))
def needC (f : Ky → Bool) (c : Chc) : Bool := decide (c.need ≤ (cntY f c.atoms : Int))
def metP (cs : List Chc) (l : List Bnd) : Bool × Int :=
  if cs.any badC = true then (false, 1) else if vbP l = false then (false, 1) else if cs.all (boundC (valM l)) = false then (false, 4) else (cs.all (needC (fV (valM l))), 0)
theorem vat_ok {q : Prd} (h : vatP q = true) : KyOk (kyOf q) := by
  unfold vatP atomB at h
  simp only [Bool.and_eq_true] at h
  exact ky_ok h.2.2.1 h.2.2.2.1 (by unfold inC; rw [Bool.and_eq_true]; exact h.2.2.2.2)
theorem any_dropG {α : Type} (f : α → Bool) (l : List α) (i : Nat) (k : α) (h : l[i]? = some k) : (l.drop i).any f = (f k || (l.drop (i + 1)).any f) := by
  rw [drop_cons_get l i k h, List.any_cons]
theorem all_dropG {α : Type} (f : α → Bool) (l : List α) (i : Nat) (k : α) (h : l[i]? = some k) : (l.drop i).all f = (f k && (l.drop (i + 1)).all f) := by
  rw [drop_cons_get l i k h, List.all_cons]
theorem all_takeG {α : Type} (f : α → Bool) (l : List α) (i : Nat) (k : α) (h : l[i]? = some k) : (l.take (i + 1)).all f = ((l.take i).all f && f k) := by
  rw [List.take_add_one, h, List.all_append]
  simp
theorem cntY_take (f : Ky → Bool) (aa : List Prd) (j : Nat) (q : Prd) (h : aa[j]? = some q) : cntY f (aa.take (j + 1)) = cntY f (aa.take j) + (if f (kyOf q) = true then 1 else 0) := by
  unfold cntY
  rw [List.take_add_one, h, List.countP_append]
  simp [List.countP_cons]
theorem ChsR.get {w : World} {cs : List Chc} {ao : Option Addr} (h : ChsR w cs ao) {i : Nat} (hi : i < cs.length) : ∃ c, cs[i]? = some c ∧ ∃ g off, ao = some ⟨g, off, none⟩ ∧ g < w.heap.size ∧ ∃ xo xc, Reads w g (off + i * 2) [.int .i64 c.need, .slice xo c.atoms.length xc] ∧ KidR w (fun g => g < w.heap.size) c.atoms xo := by
  rcases h with h | ⟨g, off, h1, h2, h3⟩
  · rw [h] at hi; exact absurd hi (Nat.not_lt_zero _)
  · obtain ⟨xo, xc, h4, h5⟩ := h3 i _ (List.getElem?_eq_getElem hi)
    exact ⟨cs[i], List.getElem?_eq_getElem hi, g, off, h1, h2, xo, xc, h4, h5⟩
theorem KidR.get {w : World} {P : Nat → Prop} {ks : List Prd} {ao : Option Addr} (h : KidR w P ks ao) {i : Nat} (hi : i < ks.length) : ∃ q, ks[i]? = some q ∧ ∃ g off, ao = some ⟨g, off, none⟩ ∧ g < w.heap.size ∧ ∃ vs, PredC w P q vs ∧ Reads w g (off + i * 5) vs := by
  rcases h with h | ⟨g, off, h1, h2, h3, h4⟩
  · rw [h] at hi; exact absurd hi (Nat.not_lt_zero _)
  · obtain ⟨vs, hv1, hv2⟩ := KidsC.at ks g off i _ (List.getElem?_eq_getElem hi) h4
    exact ⟨ks[i], List.getElem?_eq_getElem hi, g, off, h1, h3, vs, hv1, hv2⟩
set_option maxHeartbeats 8000000 in
set_option maxRecDepth 100000 in
theorem mets1_any (B : Nat) (q : Prd) (W : World) (P : Nat → Prop) (us : List Value) (hq : BytP q) (hpc : PredC W P q us) (hT : TabIn B W) :
    Calls Tryz.prog 100 #[.agg us.toArray] W fun e w' => e = .returned (.bool (!vatP q)) ∧ RowKit.Below W.heap.size W w' := by
  obtain ⟨xa, xn, xc, rfl, hxn⟩ := hpc.form
  have by1 := (RowKit.Below.refl W.heap.size W).alloc (Nat.le_refl _) (.cells #[.int .i64 q.k, .string (strN q.l), .string (strN q.r), .int .i64 q.c, .slice xa xn xc] 25)
  have hb : NmB q.l ∧ NmB q.r := by
    obtain ⟨k, l, r, c, ks⟩ := q
    unfold BytP at hq
    exact ⟨hq.1, hq.2.1⟩
  have HI := mkHid (vatom_any q.k q.l q.r q.c xa xn xc _ B (TabIn.step (w := W) hT by1) hb.1 hb.2)
  rw [show atomB q.k q.l q.r q.c xn = vatP q from by unfold vatP; rw [hxn]] at HI
  have BY := mkHid by1
  have Y1 : Hid (HasV (W.alloc (.cells #[.int .i64 q.k, .string (strN q.l), .string (strN q.r), .int .i64 q.c, .slice xa xn xc] 25)) W.heap.size 25 [.int .i64 q.k, .string (strN q.l), .string (strN q.r), .int .i64 q.c, .slice xa xn xc]) := mkHid (heap_alloc_new W _)
  clear by1 hpc hT hq hb hxn
  generalize vatP q = V at *
  generalize q.k = q0 at *
  generalize strN q.l = q1 at *
  generalize strN q.r = q2 at *
  generalize q.c = q3 at *
  go_enter Tryz.func100, Tryz.ntmps100
  go_wp2_with (refine wpList_load_row rfl 25 (.tmp 1) rfl W.heap.size ?x1 25 #[.int .i64 q0, .string q1, .string q2, .int .i64 q3, .slice xa xn xc] (0, 0) _ Y1.out Tryz.underlying25 rfl (inf_pred _ rfl) ?_; (case x1 => rfl))
  refine HI.out.mono ?_
  rintro e w2 ⟨rfl, b2⟩
  have B2 := mkHid (BY.out.trans (b2.mono BY.out.size))
  clear b2
  go_wp2
  go_ret
  exact ⟨rfl, B2.out⟩
theorem mets1_is (B : Nat) (P : Nat → Prop) : PrF (TabIn B) P 100 #[] (fun q => !vatP q) BytP :=
  ⟨enters_of Tryz.func100 (by kernel_rfl) rfl, fun w w' h hb => h.step hb, fun q w vs hq hpc hC => mets1_any B q w P vs hq hpc hC⟩
set_option maxHeartbeats 16000000 in
set_option maxRecDepth 100000 in
theorem meets_any (w : World) (cs : List Chc) (ao : Option Addr) (n cap B : Nat) (l : List Bnd) (bo : Option Addr) (m bc : Nat) (Pb : Nat → Prop) (hT : Tab w B) (hn : n = cs.length) (hnb : n ≤ 1000000) (hat : ∀ c ∈ cs, c.atoms.length ≤ 1000000 ∧ ∀ q ∈ c.atoms, q.ks = [] ∧ BytP q) (hc : ChsR w cs ao)
    (hm : m = l.length) (hbig : m ≤ 1000000) (hok : BndOk l) (hk : BndR w Pb l bo) :
    Calls Tryz.prog 39 #[.slice ao n cap, .slice bo m bc] w fun e w' => e = .returned (.tuple #[.bool (metP cs l).1, .int .i64 (metP cs l).2]) ∧ RowKit.Below w.heap.size w w' := by
  have HVB := mkHid (fun W (hW : RowKit.Below w.heap.size w W) => vbinds_any W Pb l bo m bc B (show Tab W B from TabIn.step (w := w) hT hW) hm hbig hok (hk.below hW))
  have HVL := mkHid (fun (hv : vbP l = true) W (hW : RowKit.Below w.heap.size w W) => values_any W Pb l bo m bc hm hbig hok (vbP_val hv) (hk.below hW))
  have HMB := mkHid (fun (hv : vbP l = true) => valM_bd hv)
  have HT := mkHid (fun W (hW : RowKit.Below w.heap.size w W) => (show TabIn B W from TabIn.step (w := w) (w' := W) hT hW))
  have HC := mkHid (fun W (hW : RowKit.Below w.heap.size w W) => hc.below hW)
  have HN := mkHid hn
  have HA := mkHid hat
  have HV : Hid (metP cs l = if cs.any badC = true then (false, 1) else if vbP l = false then (false, 1) else if cs.all (boundC (valM l)) = false then (false, 4) else (cs.all (needC (fV (valM l))), 0)) := mkHid rfl
  obtain ⟨V, hV⟩ : ∃ V, metP cs l = V := ⟨_, rfl⟩
  rw [hV] at HV ⊢
  have B0 := mkHid (RowKit.Below.refl w.heap.size w)
  clear hT hn hat hc hm hok hk hV hbig
  generalize vbP l = t at *
  obtain ⟨M, hM⟩ : ∃ M, valM l = M := ⟨_, rfl⟩
  rw [hM] at HV HVL HMB
  clear hM
  go_enter Tryz.func39, Tryz.ntmps39
  go_wp2_with fail
  have S0 : Hid (cs.any badC = (cs.drop 0).any badC) := mkHid rfl
  go_loopw [18] (fun cc wr => ∃ (i : Nat), cc = .int .i64 i ∧ i ≤ n ∧ Hid (RowKit.Below w.heap.size w wr) ∧ Hid (cs.any badC = (cs.drop i).any badC)) (fun c _ => (n - intOf c).toNat)
  case atStart => exact ⟨0, rfl, by omega, B0, S0⟩
  case round =>
    clear S0 B0
    obtain ⟨i, rfl, hi, hw, hv⟩ := hrel
    have e2 : IntKind.i64.wrap ((i : Int) + 1) = ((i + 1 : Nat) : Int) := IntWalk.i64_in _ (by omega)
    by_cases hlt : i < n
    · have ii : (i : Int) < n := by omega
      obtain ⟨c, hci, g, off, hao, hg, xo, xc, hrd, hkr⟩ := (HC.out wr hw.out).get (i := i) (by rw [← HN.out]; exact hlt)
      have HST := mkHid (hv.out.trans (any_dropG badC cs i c hci))
      have HAC := mkHid (HA.out c (List.mem_of_getElem? hci))
      have bx := (RowKit.Below.refl wr.heap.size wr).alloc (Nat.le_refl _) (.cells #[.int .i64 c.need, .slice xo c.atoms.length xc] 47)
      have Y1 : Hid (HasV (wr.alloc (.cells #[.int .i64 c.need, .slice xo c.atoms.length xc] 47)) wr.heap.size 47 [.int .i64 c.need, .slice xo c.atoms.length xc]) := mkHid (heap_alloc_new wr _)
      have BW := mkHid (hw.out.trans (bx.mono hw.out.size))
      have HCO := mkHid (pcont_any (wr.alloc (.cells #[.int .i64 c.need, .slice xo c.atoms.length xc] 47)) _ c.atoms xo c.atoms.length xc rfl HAC.out.1 (hkr.any bx) (TabIn B) 100 #[] (fun q => !vatP q) BytP (mets1_is B _) (fun q hq => (HAC.out.2 q hq).2) (HT.out _ BW.out))
      rw [show (c.atoms.any fun q => !vatP q) = badC c from rfl] at HCO
      have s0 := hrd 0 _ rfl
      have s1 := hrd 1 _ rfl
      rw [Nat.add_zero] at s0
      have HAO := mkHid hao
      clear hrd hkr hci HAC bx hv hw
      subst hao
      generalize badC c = bd at *
      generalize c.need = nd at *
      generalize c.atoms.length = na at *
      go_upto_region 4 with (fail)
      clear s0 s1
      generalize wr.alloc (.cells #[.int .i64 nd, .slice xo na xc] 47) = wy at *
      have y1 := Y1.out.cell 1 _ rfl
      go_wp2_with fail
      refine HCO.out.mono ?_
      rintro e w2 ⟨rfl, b2⟩
      have B2 := mkHid (BW.out.trans (b2.mono BW.out.size))
      clear b2 y1 Y1 BW HCO
      cases bd with
      | true =>
        have HX : Hid (V = (false, 1)) := mkHid (by rw [HV.out, HST.out]; rfl)
        go_wp2
        go_ret2
        exact ⟨by rw [HX.out]; rfl, B2.out⟩
      | false =>
        have HS2 : Hid (cs.any badC = (cs.drop (i + 1)).any badC) := mkHid (by rw [HST.out, Bool.false_or])
        go_wp2
        go_roundw
        case rel => exact ⟨i + 1, by go_num, by omega, B2, HS2⟩
        case measure => simp only [intOf]; omega
    · have ii : ¬ ((i : Int) < n) := by omega
      have HNB : Hid (cs.any badC = false) := mkHid (by rw [hv.out, List.drop_eq_nil_of_le (by rw [← HN.out]; omega)]; rfl)
      have HOK : Hid (∀ c ∈ cs, ∀ q ∈ c.atoms, KyOk (kyOf q)) := mkHid (fun c hc q hq => by
        have h1 := HNB.out
        rw [List.any_eq_false] at h1
        have h2 := h1 c hc
        unfold badC at h2
        have h3 : ∀ x ∈ c.atoms, ¬ ((!vatP x) = true) := List.any_eq_false.1 (by simpa using h2)
        exact vat_ok (by simpa using h3 q hq))
      have HV1 : Hid (V = if t = false then (false, 1) else if cs.all (boundC M) = false then (false, 4) else (cs.all (needC (fV M)), 0)) := mkHid (by rw [HV.out, HNB.out, if_neg (by simp)])
      clear HV HNB hv
      go_wp2_with fail
      refine (HVB.out wr hw.out).mono ?_
      rintro e w3 ⟨rfl, b3⟩
      have B3 := mkHid (hw.out.trans (b3.mono hw.out.size))
      clear b3 hw HVB
      cases t with
      | false =>
        have HX : Hid (V = (false, 1)) := mkHid (by rw [HV1.out]; rfl)
        go_wp2
        go_ret2
        exact ⟨by rw [HX.out]; rfl, B3.out⟩
      | true =>
        have HV2 : Hid (V = if cs.all (boundC M) = false then (false, 4) else (cs.all (needC (fV M)), 0)) := mkHid (by rw [HV1.out]; rfl)
        clear HV1
        go_wp2_with fail
        refine (HVL.out (by trivial) w3 B3.out).mono ?_
        rintro e w4 ⟨rfl, m4, b4⟩
        have M4 := mkHid m4
        have B4 := mkHid (B3.out.trans (b4.mono B3.out.size))
        clear b4 m4 HVL B3
        generalize w3.heap.size = mb at *
        go_wp2_with fail
        refine (bycl_any mb w4).mono ?_
        rintro e w5 ⟨rfl, rfl⟩
        have BA := (RowKit.Below.refl w4.heap.size w4).alloc (Nat.le_refl _) (.cells #[.map (some mb)] 127)
        have C5 : Hid (ByC w4.heap.size mb M (w4.alloc (.cells #[.map (some mb)] 127))) := mkHid ⟨M4.out.step BA, heap_alloc_new _ _⟩
        have B5 := mkHid (B4.out.trans (BA.mono B4.out.size))
        have HIS := mkHid (by_is w4.heap.size mb M (HMB.out (by trivial)))
        clear BA M4 B4
        generalize w4.alloc (.cells #[.map (some mb)] 127) = w5 at *
        generalize w4.heap.size = Bm at *
        have eg := HIS.out.enters
        go_wp2_with fail
        have S1 : Hid (true = (cs.take 0).all (needC (fV M))) := mkHid rfl
        have S2 : Hid (cs.all (boundC M) = (cs.drop 0).all (boundC M)) := mkHid rfl
        have Z5 := mkHid (RowKit.Below.refl w5.heap.size w5)
        go_loopw [35, 10] (fun cc mv wr => ∃ (i : Nat) (bv : Bool), cc = .int .i64 i ∧ mv = .bool bv ∧ i ≤ n ∧ Hid (RowKit.Below w5.heap.size w5 wr) ∧ Hid (bv = (cs.take i).all (needC (fV M))) ∧ Hid (cs.all (boundC M) = (cs.drop i).all (boundC M))) (fun c _ _ => (n - intOf c).toNat)
        case atStart => exact ⟨0, true, rfl, rfl, by omega, Z5, S1, S2⟩
        case round =>
          clear S1 S2 Z5
          obtain ⟨i, bv, rfl, rfl, hi, hw, hbv, hv⟩ := hrel
          have e2 : IntKind.i64.wrap ((i : Int) + 1) = ((i + 1 : Nat) : Int) := IntWalk.i64_in _ (by omega)
          by_cases hlt : i < n
          · have ii : (i : Int) < n := by omega
            obtain ⟨c, hci, g, off, hao, hg, xo, xc, hrd, hkr⟩ := (HC.out wr (B5.out.trans (hw.out.mono B5.out.size))).get (i := i) (by rw [← HN.out]; exact hlt)
            have HST := mkHid (hv.out.trans (all_dropG (boundC M) cs i c hci))
            have HTK := mkHid (all_takeG (needC (fV M)) cs i c hci)
            rw [← hbv.out] at HTK
            have HAC := mkHid (HA.out c (List.mem_of_getElem? hci))
            have HKO := mkHid (HOK.out c (List.mem_of_getElem? hci))
            have bx := (RowKit.Below.refl wr.heap.size wr).alloc (Nat.le_refl _) (.cells #[.int .i64 c.need, .slice xo c.atoms.length xc] 47)
            have Y1 : Hid (HasV (wr.alloc (.cells #[.int .i64 c.need, .slice xo c.atoms.length xc] 47)) wr.heap.size 47 [.int .i64 c.need, .slice xo c.atoms.length xc]) := mkHid (heap_alloc_new wr _)
            have BW := mkHid (hw.out.trans (bx.mono hw.out.size))
            have HKR := mkHid (hkr.any bx)
            have HBC : Hid (boundC M c = (c.atoms.drop 0).all (fun q => bdV M (kyOf q))) := mkHid rfl
            have HNC : Hid (needC (fV M) c = decide (c.need ≤ (cntY (fV M) c.atoms : Int))) := mkHid rfl
            have s0 := hrd 0 _ rfl
            have s1 := hrd 1 _ rfl
            rw [Nat.add_zero] at s0
            have HAO := mkHid hao
            clear hrd hkr hci bx hv hw hbv
            subst hao
            obtain ⟨aa, has⟩ : ∃ aa, c.atoms = aa := ⟨_, rfl⟩
            rw [has] at s1 Y1 BW HKR HAC HKO HBC HNC
            clear has
            generalize boundC M c = bd at *
            generalize needC (fV M) c = nc at *
            generalize c.need = nd at *
            obtain ⟨na, hna⟩ : ∃ na, aa.length = na := ⟨_, rfl⟩
            have HNA := mkHid hna
            rw [hna] at s1 Y1 BW HKR HAC
            clear hna
            have hna8 := HAC.out.1
            go_upto_region 15 with (fail)
            clear s0 s1
            generalize wr.heap.size = cx at *
            generalize wr.alloc (.cells #[.int .i64 nd, .slice xo na xc] 47) = wo at *
            have y1 := Y1.out.cell 1 _ rfl
            go_wp2_with fail
            clear y1
            have T0 : Hid ((0 : Nat) = cntY (fV M) (aa.take 0)) := mkHid rfl
            have Z0 := mkHid (RowKit.Below.refl wo.heap.size wo)
            go_loopw [42, 13] (fun jv mv wr => ∃ (j k : Nat), jv = .int .i64 j ∧ mv = .int .i64 k ∧ j ≤ na ∧ k ≤ j ∧ Hid (RowKit.Below wo.heap.size wo wr) ∧ Hid (k = cntY (fV M) (aa.take j)) ∧ Hid (bd = (aa.drop j).all (fun q => bdV M (kyOf q)))) (fun j _ _ => (na - intOf j).toNat)
            case atStart => exact ⟨0, 0, rfl, rfl, by omega, by omega, Z0, T0, HBC⟩
            case round =>
              clear T0 Z0 HBC
              obtain ⟨j, k, rfl, rfl, hj, hkj, hq, hct, hbq⟩ := hrel
              have e3 : IntKind.i64.wrap ((j : Int) + 1) = ((j + 1 : Nat) : Int) := IntWalk.i64_in _ (by omega)
              have e4 : IntKind.i64.wrap ((k : Int) + 1) = ((k + 1 : Nat) : Int) := IntWalk.i64_in _ (by omega)
              by_cases hjl : j < na
              · have jj : (j : Int) < na := by omega
                obtain ⟨q, hqi, g2, off2, hxo, hg2, us, hpc, hrd⟩ := (HKR.out.any hq.out).get (i := j) (by rw [HNA.out]; exact hjl)
                have HB1 := mkHid (hbq.out.trans (all_dropG (fun q => bdV M (kyOf q)) aa j q hqi))
                have HC1 := mkHid (cntY_take (fV M) aa j q hqi)
                rw [← hct.out] at HC1
                have HKQ := mkHid (HKO.out q (List.mem_of_getElem? hqi))
                obtain ⟨xa, xn, xd, rfl, -⟩ := hpc.form
                have s0 := hrd 0 _ rfl
                have s1 := hrd 1 _ rfl
                have s2 := hrd 2 _ rfl
                have s3 := hrd 3 _ rfl
                have s4 := hrd 4 _ rfl
                rw [Nat.add_zero] at s0
                have HXO := mkHid hxo
                have bx := (RowKit.Below.refl wr.heap.size wr).alloc (Nat.le_refl _) (.cells #[.int .i64 q.k, .string (strN q.l), .string (strN q.r), .int .i64 q.c, .slice xa xn xd] 25)
                have P1 : Hid (HasV (wr.alloc (.cells #[.int .i64 q.k, .string (strN q.l), .string (strN q.r), .int .i64 q.c, .slice xa xn xd] 25)) wr.heap.size 25 [.int .i64 q.k, .string (strN q.l), .string (strN q.r), .int .i64 q.c, .slice xa xn xd]) := mkHid (heap_alloc_new wr _)
                have Q1 := mkHid (hq.out.trans (bx.mono hq.out.size))
                have HKF := mkHid (fun W => keyOf_any q.k q.l q.r q.c (.slice xa xn xd) rfl W)
                have HBD := mkHid (fun W (hW : MapV W mb M) => bound_any (kyOf q) HKQ.out mb M W hW)
                have HIC := mkHid (fun W (hW : ByC Bm mb M W) => HIS.out.calls (kyOf q) W HKQ.out hW)
                have hkc : (keyC q.l q.r q.c).toArray = (kyC (kyOf q)).toArray := rfl
                rw [hkc] at HKF
                clear hrd hpc hqi bx hq hbq hct hkc HKQ
                subst hxo
                generalize (kyC (kyOf q)).toArray = kv at *
                generalize bdV M (kyOf q) = b1 at *
                generalize fV M (kyOf q) = b2 at *
                generalize q.k = q0 at *
                generalize strN q.l = q1 at *
                generalize strN q.r = q2 at *
                generalize q.c = q3 at *
                go_upto_region 19 with (fail)
                clear s0 s1 s2 s3 s4
                generalize wr.heap.size = px at *
                generalize wr.alloc (.cells #[.int .i64 q0, .string q1, .string q2, .int .i64 q3, .slice xa xn xd] 25) = wp at *
                go_wp2_with (refine wpList_load_row rfl 25 (.tmp 15) rfl px ?x1 25 #[.int .i64 q0, .string q1, .string q2, .int .i64 q3, .slice xa xn xd] (0, 0) _ P1.out Tryz.underlying25 rfl (inf_pred _ rfl) ?_; (case x1 => rfl))
                refine (HKF.out wp).mono ?_
                rintro e w6 ⟨rfl, b6⟩
                have P6 := mkHid (P1.out.step b6)
                have Q6 := mkHid (Q1.out.trans (b6.mono Q1.out.size))
                clear b6 P1 Q1
                go_wp2_with fail
                have C6 := mkHid (HIS.out.step _ _ (HIS.out.step _ _ C5.out BW.out) Q6.out)
                refine (HBD.out w6 C6.out.1).mono ?_
                rintro e w7 ⟨rfl, b7⟩
                have P7 := mkHid (P6.out.step b7)
                have Q7 := mkHid (Q6.out.trans (b7.mono Q6.out.size))
                have C7 := mkHid (HIS.out.step _ _ C6.out b7)
                clear b7 P6 Q6 C6
                cases b1 with
                | false =>
                  have HX : Hid (V = (false, 4)) := mkHid (by rw [HV2.out, HST.out, HB1.out]; rfl)
                  go_wp2
                  go_ret2
                  exact ⟨by rw [HX.out]; rfl, (B5.out.trans (BW.out.mono B5.out.size)).trans (Q7.out.mono (B5.out.trans (BW.out.mono B5.out.size)).size)⟩
                | true =>
                  have HB2 : Hid (bd = (aa.drop (j + 1)).all (fun q => bdV M (kyOf q))) := mkHid (by rw [HB1.out, Bool.true_and])
                  clear HB1
                  go_upto_region 21 with (fail)
                  go_wp2_with (refine wpList_load_row rfl 25 (.tmp 15) rfl px ?x2 25 #[.int .i64 q0, .string q1, .string q2, .int .i64 q3, .slice xa xn xd] (0, 0) _ P7.out Tryz.underlying25 rfl (inf_pred _ rfl) ?_; (case x2 => rfl))
                  refine (HKF.out w7).mono ?_
                  rintro e w8 ⟨rfl, b8⟩
                  have Q8 := mkHid (Q7.out.trans (b8.mono Q7.out.size))
                  have C8 := mkHid (HIS.out.step _ _ C7.out b8)
                  clear b8 P7 Q7 C7
                  go_wp2_with fail
                  refine (HIC.out w8 C8.out).mono ?_
                  rintro e w9 ⟨rfl, b9⟩
                  have Q9 := mkHid (Q8.out.trans (b9.mono Q8.out.size))
                  clear b9 Q8 C8
                  cases b2 with
                  | true =>
                    rw [if_pos rfl] at HC1
                    go_wp2
                    go_roundw
                    case rel => exact ⟨j + 1, k + 1, by go_num, by go_num, by omega, by omega, Q9, mkHid HC1.out.symm, HB2⟩
                    case measure => simp only [intOf]; omega
                  | false =>
                    rw [if_neg (by simp)] at HC1
                    go_wp2
                    go_roundw
                    case rel => exact ⟨j + 1, k, by go_num, rfl, by omega, by omega, Q9, mkHid HC1.out.symm, HB2⟩
                    case measure => simp only [intOf]; omega
              · have jj : ¬ ((j : Int) < na) := by omega
                have HKE : Hid (nc = decide (nd ≤ (k : Int))) := mkHid (by rw [HNC.out, hct.out, show aa.take j = aa from List.take_of_length_le (by rw [HNA.out]; omega)])
                have HBE : Hid (bd = true) := mkHid (by rw [hbq.out, List.drop_eq_nil_of_le (by rw [HNA.out]; omega)]; rfl)
                have HS2 : Hid (cs.all (boundC M) = (cs.drop (i + 1)).all (boundC M)) := mkHid (by rw [HST.out, HBE.out, Bool.true_and])
                have y0 := (Y1.out.step hq.out).cell 0 _ rfl
                have Q2 := mkHid (BW.out.trans (hq.out.mono BW.out.size))
                clear hq hct hbq
                cases bv with
                | false =>
                  go_wp2
                  go_roundw
                  case rel => exact ⟨i + 1, false, by go_num, rfl, by omega, Q2, mkHid (by rw [HTK.out, Bool.false_and]), HS2⟩
                  case measure => simp only [intOf]; omega
                | true =>
                  by_cases hnd : nd ≤ (k : Int)
                  · have HT2 : Hid (true = (cs.take (i + 1)).all (needC (fV M))) := mkHid (by rw [HTK.out, HKE.out, decide_eq_true hnd]; rfl)
                    go_wp2
                    go_roundw
                    case rel => exact ⟨i + 1, true, by go_num, by go_num, by omega, Q2, HT2, HS2⟩
                    case measure => simp only [intOf]; omega
                  · have HT2 : Hid (false = (cs.take (i + 1)).all (needC (fV M))) := mkHid (by rw [HTK.out, HKE.out, decide_eq_false hnd]; rfl)
                    go_wp2
                    go_roundw
                    case rel => exact ⟨i + 1, false, by go_num, by go_num, by omega, Q2, HT2, HS2⟩
                    case measure => simp only [intOf]; omega
          · have ii : ¬ ((i : Int) < n) := by omega
            have HX : Hid (V = (bv, 0)) := mkHid (by
              rw [HV2.out, hv.out, hbv.out, List.drop_eq_nil_of_le (by rw [← HN.out]; omega), show cs.take i = cs from List.take_of_length_le (by rw [← HN.out]; omega)]; rfl)
            have BF := mkHid (B5.out.trans (hw.out.mono B5.out.size))
            clear hbv hv hw
            go_wp2
            go_ret2
            exact ⟨by rw [HX.out]; rfl, BF.out⟩
end Go.Proofs.YtmkdfbelbcocpaaGreatDoor
namespace Go.Proofs.YtmkdfbelbcocpaaGreatDoor
open Go.RowKit Go.Sort Go.Maps
/-- Both names are of bytes. -/
def NmY (q : Prd) : Prop := (∀ y ∈ q.l, y < 256) ∧ (∀ y ∈ q.r, y < 256)
theorem ltK_ifs (a b : Ky) : ltK a b = if (a.l == b.l) = false then ltL a.l b.l else if (a.r == b.r) = false then ltL a.r b.r else decide (a.c < b.c) := by
  rw [Bool.eq_iff_iff, ltK_iff]
  by_cases h1 : a.l = b.l
  · have e1 : (a.l == b.l) = true := beq_iff_eq.mpr h1
    rw [e1, if_neg (by simp)]
    by_cases h2 : a.r = b.r
    · have e2 : (a.r == b.r) = true := beq_iff_eq.mpr h2
      rw [e2, if_neg (by simp), h1, h2, ltL_irrefl, ltL_irrefl, decide_eq_true_eq]
      simp
    · have e2 : (a.r == b.r) = false := beq_eq_false_iff_ne.mpr h2
      rw [e2, if_pos rfl, h1, ltL_irrefl]
      simp [h2]
  · have e1 : (a.l == b.l) = false := beq_eq_false_iff_ne.mpr h1
    rw [e1, if_pos rfl]
    simp [h1]
theorem same_key (a b : Ky) : (!ltK a b && !ltK b a) = (a == b) := by
  rw [Bool.eq_iff_iff, Bool.and_eq_true, beq_iff_eq]
  simp only [Bool.not_eq_true']
  constructor
  · rintro ⟨h1, h2⟩
    rcases ltK_total a b with h | h | h
    · rw [h1] at h; cases h
    · exact h
    · rw [h2] at h; cases h
  · rintro rfl
    exact ⟨ltK_irrefl a, ltK_irrefl a⟩
set_option maxHeartbeats 8000000 in
set_option maxRecDepth 100000 in
theorem before_any (ka kb : Int) (al ar bl br : List Nat) (ac bc : Int) (x y : Value) (hx : x.oneCell' = true) (hy : y.oneCell' = true) (w : World) (h1 : ∀ z ∈ al, z < 256) (h2 : ∀ z ∈ ar, z < 256) (h3 : ∀ z ∈ bl, z < 256) (h4 : ∀ z ∈ br, z < 256) :
    Calls Tryz.prog 173 #[.agg #[.int .i64 ka, .string (strN al), .string (strN ar), .int .i64 ac, x], .agg #[.int .i64 kb, .string (strN bl), .string (strN br), .int .i64 bc, y]] w fun e w' => e = .returned (.bool (ltK ⟨al, ar, ac⟩ ⟨bl, br, bc⟩)) ∧ RowKit.Below w.heap.size w w' := by
  have HV : Hid (ltK ⟨al, ar, ac⟩ ⟨bl, br, bc⟩ = if (al == bl) = false then ltL al bl else if (ar == br) = false then ltL ar br else decide (ac < bc)) := mkHid (ltK_ifs _ _)
  have he1 := strN_eqL al bl h1 h3
  have he2 := strN_eqL ar br h2 h4
  have hl1 := strN_less al bl h1 h3
  have hl2 := strN_less ar br h2 h4
  have bx := ((RowKit.Below.refl w.heap.size w).alloc (Nat.le_refl _) (.cells #[.int .i64 ka, .string (strN al), .string (strN ar), .int .i64 ac, x] 25)).alloc (by simp) (.cells #[.int .i64 kb, .string (strN bl), .string (strN br), .int .i64 bc, y] 25)
  have B1 := mkHid bx
  have X1 : Hid (HasV ((w.alloc (.cells #[.int .i64 ka, .string (strN al), .string (strN ar), .int .i64 ac, x] 25)).alloc (.cells #[.int .i64 kb, .string (strN bl), .string (strN br), .int .i64 bc, y] 25)) w.heap.size 25 [.int .i64 ka, .string (strN al), .string (strN ar), .int .i64 ac, x]) := mkHid (heap_alloc2_old _ _ _)
  have Y1 : Hid (HasV ((w.alloc (.cells #[.int .i64 ka, .string (strN al), .string (strN ar), .int .i64 ac, x] 25)).alloc (.cells #[.int .i64 kb, .string (strN bl), .string (strN br), .int .i64 bc, y] 25)) (w.heap.size + 1) 25 [.int .i64 kb, .string (strN bl), .string (strN br), .int .i64 bc, y]) := mkHid (heap_alloc2_new _ _ _)
  obtain ⟨V, hV⟩ : ∃ V, ltK ⟨al, ar, ac⟩ ⟨bl, br, bc⟩ = V := ⟨_, rfl⟩
  rw [hV] at HV ⊢
  clear bx hV h1 h2 h3 h4
  generalize (al == bl) = e1 at *
  generalize (ar == br) = e2 at *
  generalize ltL al bl = l1 at *
  generalize ltL ar br = l2 at *
  generalize strN al = y1 at *
  generalize strN ar = y2 at *
  generalize strN bl = z1 at *
  generalize strN br = z2 at *
  go_enter Tryz.func173, Tryz.ntmps173
  go_upto_region 1 with (fail)
  generalize (w.alloc (.cells #[.int .i64 ka, .string y1, .string y2, .int .i64 ac, x] 25)).alloc (.cells #[.int .i64 kb, .string z1, .string z2, .int .i64 bc, y] 25) = w1 at *
  have x1 := X1.out.cell 1 _ rfl
  have x2 := X1.out.cell 2 _ rfl
  have x3 := X1.out.cell 3 _ rfl
  have u1 := Y1.out.cell 1 _ rfl
  have u2 := Y1.out.cell 2 _ rfl
  have u3 := Y1.out.cell 3 _ rfl
  cases e1 with
  | false =>
    have HX : Hid (V = l1) := mkHid (by rw [HV.out, if_pos rfl])
    go_wp2
    go_ret
    exact ⟨ret_bool HX.out.symm, B1.out⟩
  | true =>
    rw [if_neg (by simp)] at HV
    cases e2 with
    | false =>
      have HX : Hid (V = l2) := mkHid (by rw [HV.out, if_pos rfl])
      go_wp2
      go_ret
      exact ⟨ret_bool HX.out.symm, B1.out⟩
    | true =>
      have HX : Hid (V = decide (ac < bc)) := mkHid (by rw [HV.out, if_neg (by simp)])
      go_wp2
      go_ret
      exact ⟨ret_bool HX.out.symm, B1.out⟩
set_option maxHeartbeats 8000000 in
set_option maxRecDepth 100000 in
theorem satom_any (ka kb : Int) (al ar bl br : List Nat) (ac bc : Int) (x y : Value) (hx : x.oneCell' = true) (hy : y.oneCell' = true) (w : World) (h1 : ∀ z ∈ al, z < 256) (h2 : ∀ z ∈ ar, z < 256) (h3 : ∀ z ∈ bl, z < 256) (h4 : ∀ z ∈ br, z < 256) :
    Calls Tryz.prog 112 #[.agg #[.int .i64 ka, .string (strN al), .string (strN ar), .int .i64 ac, x], .agg #[.int .i64 kb, .string (strN bl), .string (strN br), .int .i64 bc, y]] w fun e w' => e = .returned (.bool ((⟨al, ar, ac⟩ : Ky) == ⟨bl, br, bc⟩)) ∧ RowKit.Below w.heap.size w w' := by
  have HV : Hid (((⟨al, ar, ac⟩ : Ky) == ⟨bl, br, bc⟩) = (!ltK ⟨al, ar, ac⟩ ⟨bl, br, bc⟩ && !ltK ⟨bl, br, bc⟩ ⟨al, ar, ac⟩)) := mkHid (same_key _ _).symm
  have H1 := mkHid (fun W => before_any ka kb al ar bl br ac bc x y hx hy W h1 h2 h3 h4)
  have H2 := mkHid (fun W => before_any kb ka bl br al ar bc ac y x hy hx W h3 h4 h1 h2)
  have bx := ((RowKit.Below.refl w.heap.size w).alloc (Nat.le_refl _) (.cells #[.int .i64 ka, .string (strN al), .string (strN ar), .int .i64 ac, x] 25)).alloc (by simp) (.cells #[.int .i64 kb, .string (strN bl), .string (strN br), .int .i64 bc, y] 25)
  have B1 := mkHid bx
  have X1 : Hid (HasV ((w.alloc (.cells #[.int .i64 ka, .string (strN al), .string (strN ar), .int .i64 ac, x] 25)).alloc (.cells #[.int .i64 kb, .string (strN bl), .string (strN br), .int .i64 bc, y] 25)) w.heap.size 25 [.int .i64 ka, .string (strN al), .string (strN ar), .int .i64 ac, x]) := mkHid (heap_alloc2_old _ _ _)
  have Y1 : Hid (HasV ((w.alloc (.cells #[.int .i64 ka, .string (strN al), .string (strN ar), .int .i64 ac, x] 25)).alloc (.cells #[.int .i64 kb, .string (strN bl), .string (strN br), .int .i64 bc, y] 25)) (w.heap.size + 1) 25 [.int .i64 kb, .string (strN bl), .string (strN br), .int .i64 bc, y]) := mkHid (heap_alloc2_new _ _ _)
  obtain ⟨V, hV⟩ : ∃ V, ((⟨al, ar, ac⟩ : Ky) == ⟨bl, br, bc⟩) = V := ⟨_, rfl⟩
  rw [hV] at HV ⊢
  clear bx hV h1 h2 h3 h4
  generalize ltK ⟨al, ar, ac⟩ ⟨bl, br, bc⟩ = l1 at *
  generalize ltK ⟨bl, br, bc⟩ ⟨al, ar, ac⟩ = l2 at *
  generalize strN al = y1 at *
  generalize strN ar = y2 at *
  generalize strN bl = z1 at *
  generalize strN br = z2 at *
  go_enter Tryz.func112, Tryz.ntmps112
  go_upto_region 1 with (fail)
  generalize (w.alloc (.cells #[.int .i64 ka, .string y1, .string y2, .int .i64 ac, x] 25)).alloc (.cells #[.int .i64 kb, .string z1, .string z2, .int .i64 bc, y] 25) = w1 at *
  go_wp2_with (first | (refine wpList_load_row rfl 25 (.tmp 2) rfl w.heap.size ?a1 25 #[.int .i64 ka, .string y1, .string y2, .int .i64 ac, x] (0, 0) _ X1.out Tryz.underlying25 rfl (inf_pred _ rfl) ?_; (case a1 => rfl)) | (refine wpList_load_row rfl 25 (.tmp 3) rfl (w.heap.size + 1) ?a2 25 #[.int .i64 kb, .string z1, .string z2, .int .i64 bc, y] (0, 0) _ Y1.out Tryz.underlying25 rfl (inf_pred _ rfl) ?_; (case a2 => rfl)))
  refine (H1.out w1).mono ?_
  rintro e w2 ⟨rfl, b2⟩
  have X2 := mkHid (X1.out.step b2)
  have Y2 := mkHid (Y1.out.step b2)
  have B2 := mkHid (B1.out.trans (b2.mono B1.out.size))
  clear b2 X1 Y1 B1
  cases l1 with
  | true =>
    have HX : Hid (V = false) := mkHid (by rw [HV.out]; rfl)
    go_wp2
    go_ret
    exact ⟨ret_bool HX.out.symm, B2.out⟩
  | false =>
    have HX : Hid (V = !l2) := mkHid (by rw [HV.out]; rfl)
    go_wp2_with (first | (refine wpList_load_wanted (by rfl) 25 (.tmp 2) rfl w.heap.size (by rfl) 25 #[.int .i64 ka, .string y1, .string y2, .int .i64 ac, x] (0, 0) _ X2.out Tryz.underlying25 rfl (inf_pred _ rfl) ?_) | (refine wpList_load_wanted (by rfl) 25 (.tmp 3) rfl (w.heap.size + 1) (by rfl) 25 #[.int .i64 kb, .string z1, .string z2, .int .i64 bc, y] (0, 0) _ Y2.out Tryz.underlying25 rfl (inf_pred _ rfl) ?_))
    refine (H2.out w2).mono ?_
    rintro e w3 ⟨rfl, b3⟩
    have B3 := mkHid (B2.out.trans (b3.mono B2.out.size))
    clear b3 X2 Y2 B2
    go_wp2
    go_ret
    exact ⟨ret_bool HX.out.symm, B3.out⟩
/-- The index of an atom, from i on. -/
def fndG (k : Ky) : Nat → List Prd → Int
  | _, [] => -1
  | i, q :: qs => if (kyOf q == k) = true then (i : Int) else fndG k (i + 1) qs
def fndP (ks : List Prd) (k : Ky) : Int := fndG k 0 ks
theorem fndG_drop (k : Ky) (ks : List Prd) (i : Nat) (q : Prd) (h : ks[i]? = some q) : fndG k i (ks.drop i) = if (kyOf q == k) = true then (i : Int) else fndG k (i + 1) (ks.drop (i + 1)) := by
  rw [drop_cons_get ks i q h, fndG]
set_option maxHeartbeats 8000000 in
set_option maxRecDepth 100000 in
theorem find_any (w : World) (P P' : Nat → Prop) (ks : List Prd) (ao : Option Addr) (n cap : Nat) (x : Prd) (us : List Value) (hn : n = ks.length) (hbig : n ≤ 1000000) (hks : ∀ q ∈ ks, NmY q) (hx : NmY x) (hk : KidR w P ks ao) (hxp : PredC w P' x us) :
    Calls Tryz.prog 43 #[.slice ao n cap, .agg us.toArray] w fun e w' => e = .returned (.int .i64 (fndP ks (kyOf x))) ∧ RowKit.Below w.heap.size w w' := by
  obtain ⟨va, vn, vc, rfl, -⟩ := hxp.form
  have bx := (RowKit.Below.refl w.heap.size w).alloc (Nat.le_refl _) (.cells #[.int .i64 x.k, .string (strN x.l), .string (strN x.r), .int .i64 x.c, .slice va vn vc] 25)
  have B1 := mkHid bx
  have X1 : Hid (HasV (w.alloc (.cells #[.int .i64 x.k, .string (strN x.l), .string (strN x.r), .int .i64 x.c, .slice va vn vc] 25)) w.heap.size 25 [.int .i64 x.k, .string (strN x.l), .string (strN x.r), .int .i64 x.c, .slice va vn vc]) := mkHid (heap_alloc_new w _)
  have HSA := mkHid (fun (q : Prd) (hq : NmY q) (v : Value) (hv : v.oneCell' = true) W => satom_any q.k x.k q.l q.r x.l x.r q.c x.c v (.slice va vn vc) hv rfl W hq.1 hq.2 hx.1 hx.2)
  have HK := mkHid (fun W (hW : RowKit.Below w.heap.size w W) => hk.below hW)
  have HN := mkHid hn
  have HKS := mkHid hks
  have S0 : Hid (fndP ks (kyOf x) = fndG (kyOf x) 0 (ks.drop 0)) := mkHid rfl
  have hky : (⟨x.l, x.r, x.c⟩ : Ky) = kyOf x := rfl
  rw [hky] at HSA
  clear bx hk hn hks hx hxp hky
  obtain ⟨V, hV⟩ : ∃ V, fndP ks (kyOf x) = V := ⟨_, rfl⟩
  rw [hV] at S0 ⊢
  clear hV
  generalize kyOf x = K at *
  generalize x.k = v0 at *
  generalize strN x.l = v1 at *
  generalize strN x.r = v2 at *
  generalize x.c = v3 at *
  go_enter Tryz.func43, Tryz.ntmps43
  go_upto_region 1 with (fail)
  generalize w.alloc (.cells #[.int .i64 v0, .string v1, .string v2, .int .i64 v3, .slice va vn vc] 25) = w1 at *
  go_wp2_with fail
  go_loopw [5] (fun cc wr => ∃ (i : Nat), cc = .int .i64 i ∧ i ≤ n ∧ Hid (RowKit.Below w.heap.size w wr) ∧ Hid (HasV wr w.heap.size 25 [.int .i64 v0, .string v1, .string v2, .int .i64 v3, .slice va vn vc]) ∧ Hid (V = fndG K i (ks.drop i))) (fun c _ => (n - intOf c).toNat)
  case atStart => exact ⟨0, rfl, by omega, B1, X1, S0⟩
  case round =>
    clear S0 B1 X1
    obtain ⟨i, rfl, hi, hw, hx, hv⟩ := hrel
    have e2 : IntKind.i64.wrap ((i : Int) + 1) = ((i + 1 : Nat) : Int) := IntWalk.i64_in _ (by omega)
    by_cases hlt : i < n
    · have ii : (i : Int) < n := by omega
      obtain ⟨q, hqi, g, off, hao, hg, us, hpc, hrd⟩ := (HK.out wr hw.out).get (i := i) (by rw [← HN.out]; exact hlt)
      have HST := mkHid (hv.out.trans (fndG_drop K ks i q hqi))
      obtain ⟨xa, xn, xc, rfl, -⟩ := hpc.form
      have HCL := mkHid (fun W (_ : RowKit.Below wr.heap.size wr W) => HSA.out q (HKS.out q (List.mem_of_getElem? hqi)) (.slice xa xn xc) rfl W)
      have hkq : (⟨q.l, q.r, q.c⟩ : Ky) = kyOf q := rfl
      rw [hkq] at HCL
      have s0 := hrd 0 _ rfl
      have s1 := hrd 1 _ rfl
      have s2 := hrd 2 _ rfl
      have s3 := hrd 3 _ rfl
      have s4 := hrd 4 _ rfl
      rw [Nat.add_zero] at s0
      have t0 := hx.out.cell 0 _ rfl
      have t1 := hx.out.cell 1 _ rfl
      have t2 := hx.out.cell 2 _ rfl
      have t3 := hx.out.cell 3 _ rfl
      have t4 := hx.out.cell 4 _ rfl
      have HAO := mkHid hao
      clear hrd hpc hqi hv hkq
      subst hao
      generalize (kyOf q == K) = rb at *
      generalize q.k = q0 at *
      generalize strN q.l = q1 at *
      generalize strN q.r = q2 at *
      generalize q.c = q3 at *
      go_upto_region 4 with (fail)
      have r1 := regr wr (fun W hW => HCL.out W hW)
      have a0' := cell_regrown s0
      have a1' := cell_regrown s1
      have a2' := cell_regrown s2
      have a3' := cell_regrown s3
      have a4' := cell_regrown s4
      have b0' := cell_regrown t0
      have b1' := cell_regrown t1
      have b2' := cell_regrown t2
      have b3' := cell_regrown t3
      have b4' := cell_regrown t4
      clear s0 s1 s2 s3 s4 t0 t1 t2 t3 t4
      refine wp_region_quiet_below (by kernel_rfl) (by kernel_rfl) ?_
      repeat (quiet_step (with_reducible (exact r1 _ _)))
      refine wpQuiet_nil ?_
      intro _ hw'
      obtain ⟨⟨dq, osq⟩, hw''⟩ := hw'
      subst hw''
      have BB := below_regrown wr dq osq
      have B3 := mkHid (hw.out.trans (BB.mono hw.out.size))
      have X3 := mkHid (hx.out.step BB)
      clear r1 a0' a1' a2' a3' a4' b0' b1' b2' b3' b4' BB hw hx
      generalize grow (redrawn wr dq) osq = wy at *
      cases rb with
      | true =>
        have HX : Hid (V = (i : Int)) := mkHid (by rw [HST.out, if_pos rfl])
        go_wp2
        go_ret
        exact ⟨ret_int HX.out.symm, B3.out⟩
      | false =>
        have HX : Hid (V = fndG K (i + 1) (ks.drop (i + 1))) := mkHid (by rw [HST.out, if_neg (by simp)])
        go_wp2
        go_roundw
        case rel => exact ⟨i + 1, by go_num, by omega, B3, X3, HX⟩
        case measure => simp only [intOf]; omega
    · have ii : ¬ ((i : Int) < n) := by omega
      have HX : Hid (V = -1) := mkHid (by rw [hv.out, List.drop_eq_nil_of_le (by rw [← HN.out]; omega), fndG])
      go_wp2
      go_ret
      exact ⟨ret_int HX.out.symm, hw.out⟩
end Go.Proofs.YtmkdfbelbcocpaaGreatDoor
namespace Go.Proofs.YtmkdfbelbcocpaaGreatDoor
mutual
theorem form_vat : ∀ p : Prd, formP p = true → ∀ k ∈ keysP p, vatP (atomK k) = true
  | .mk k l r c ks, h => by
    rw [formP_eq] at h
    unfold keysP
    by_cases h0 : k = 0
    · rw [if_pos h0] at h ⊢
      unfold atomB at h
      simp only [Bool.and_eq_true] at h
      have hks : ks = [] := by simpa using h.2.1
      subst hks
      intro x hx
      have hx' : x = ⟨l, r, c⟩ := by simpa [keysL] using hx
      subst hx'
      unfold vatP atomK atomB
      show ((0 : Int) == 0 && (([] : List Prd).length == 0 && (optN l && (optN r && (decide (-1099511627776 ≤ c) && decide (c < 1099511627776)))))) = true
      simp [h.2.2.1, h.2.2.2.1, of_decide_eq_true h.2.2.2.2.1, of_decide_eq_true h.2.2.2.2.2]
    · rw [if_neg h0] at h ⊢
      simp only [Bool.and_eq_true] at h
      intro x hx
      rw [List.nil_append] at hx
      have hL : formL ks = true := by
        rw [formL_iff]
        have := h.2.2.2
        simpa using this
      exact form_vatL ks hL x hx
theorem form_vatL : ∀ ks : List Prd, formL ks = true → ∀ k ∈ keysL ks, vatP (atomK k) = true
  | [], _, k, hk => by rw [keysL] at hk; cases hk
  | p :: ps, h, k, hk => by
    unfold formL at h
    rw [Bool.and_eq_true] at h
    rw [keysL, List.mem_append] at hk
    rcases hk with hk | hk
    · exact form_vat p h.1 k hk
    · exact form_vatL ps h.2 k hk
end
theorem vat_name {k : Ky} (h : vatP (atomK k) = true) : k.l.length ≤ 1000000 ∧ k.r.length ≤ 1000000 := by
  unfold vatP atomB at h
  simp only [Bool.and_eq_true] at h
  exact ⟨Nat.le_trans (optN_ok h.2.2.1).2 (by decide), Nat.le_trans (optN_ok h.2.2.2.1).2 (by decide)⟩
theorem cnt_same (f : Ky → Bool) : ∀ aa : List Prd, (∀ q ∈ aa, q = atomK (kyOf q)) → cntT f aa = cntY f aa
  | [], _ => by simp [cntT, cntY]
  | q :: aa, h => by
    have h1 := h q (by simp)
    have h2 := cnt_same f aa (fun x hx => h x (List.mem_cons_of_mem _ hx))
    have h3 : truthP f q = f (kyOf q) := by rw [h1]; unfold atomK; rw [truthP, if_pos rfl]; rfl
    unfold cntY at h2 ⊢
    rw [cntT, List.countP_cons, h3, h2]
    cases f (kyOf q) <;> simp <;> omega
theorem conB_f (M : List (List Nat × Int)) (p : Prd) : ConB (fV M) p := fun k _ hk => by
  unfold conK at hk
  have : k.l = k.r := by simpa using hk
  unfold fV
  rw [this]
  simp
theorem valid_form2 {p : Prd} (h : validP p = true) : formP p = true := by
  unfold validP at h
  rw [Bool.and_eq_true] at h
  exact h.2
/-- All choices are met iff the predicate holds. -/
theorem normal_met (p : Prd) (l : List Bnd) (hv : validP p = true) (h0 : (holdP p l).2 = 0) : metP (choP p) l = ((holdP p l).1, 0) := by
  have hf := valid_form2 hv
  unfold holdP at h0 ⊢
  rw [hv, Bool.true_and] at h0 ⊢
  cases hb : vbP l with
  | false => rw [hb, if_pos rfl] at h0; cases h0
  | true =>
    rw [hb, if_neg (by simp)] at h0
    rw [if_neg (by simp)]
    cases ha : (atomsP p).all (bdV (valM l)) with
    | false => rw [ha, if_pos rfl] at h0; cases h0
    | true =>
      rw [if_neg (by simp)]
      have hg : ∀ ch ∈ choP p, ∀ a ∈ ch.atoms, a = atomK (kyOf a) ∧ kyOf a ∈ keysP p := fun ch hc a hm => by
        have h := (cho_good p hf ch hc).2.2 a hm
        exact ⟨h.2.1, ((properP_mem p _).1 h.2.2).1⟩
      have h1 : (choP p).any badC = false := by
        rw [List.any_eq_false]
        intro ch hc
        unfold badC
        rw [Bool.not_eq_true, List.any_eq_false]
        intro a hm
        have h := hg ch hc a hm
        have h2 := form_vat p hf _ h.2
        rw [← h.1] at h2
        rw [h2]
        simp
      have h2 : (choP p).all (boundC (valM l)) = true := by
        rw [List.all_eq_true]
        intro ch hc
        unfold boundC
        rw [List.all_eq_true]
        intro a hm
        rw [List.all_eq_true] at ha
        exact ha _ ((atomsP_mem p _).2 (hg ch hc a hm).2)
      unfold metP
      rw [h1, if_neg (by simp), hb, if_neg (by simp), h2, if_neg (by simp)]
      congr 1
      have h3 := cho_truth (fV (valM l)) p (conB_f _ p)
      rw [Bool.eq_iff_iff, h3, List.all_eq_true]
      constructor
      · intro h ch hc
        have := h ch hc
        unfold needC at this
        unfold metC
        rw [cnt_same _ _ (fun q hq => (hg ch hc q hq).1)]
        exact of_decide_eq_true this
      · intro h ch hc
        have := h ch hc
        unfold metC at this
        rw [cnt_same _ _ (fun q hq => (hg ch hc q hq).1)] at this
        unfold needC
        exact decide_eq_true this
theorem fndG_pos (k : Ky) : ∀ (ks : List Prd) (i : Nat), (∃ q ∈ ks, kyOf q = k) → 0 ≤ fndG k i ks
  | [], i, h => by obtain ⟨q, hq, -⟩ := h; cases hq
  | q :: qs, i, h => by
    rw [fndG]
    by_cases hk : kyOf q = k
    · rw [if_pos (by simpa using hk)]; omega
    · rw [if_neg (by simpa using hk)]
      refine fndG_pos k qs (i + 1) ?_
      obtain ⟨x, hx, hxk⟩ := h
      rcases List.mem_cons.1 hx with rfl | hx
      · exact absurd hxk hk
      · exact ⟨x, hx, hxk⟩
theorem fnd_mem (aa : List Ky) (k : Ky) (h : k ∈ aa) : 0 ≤ fndP (aa.map atomK) k := fndG_pos k _ 0 ⟨atomK k, List.mem_map_of_mem h, rfl⟩
theorem cnt_proper (p : Prd) : (atomsP p).countP (fun k => !conK k) = (properP p).length := by
  unfold properP
  rw [List.countP_eq_length_filter]
end Go.Proofs.YtmkdfbelbcocpaaGreatDoor
namespace Go.Proofs.YtmkdfbelbcocpaaGreatDoor
def exS1 : List Nat := [113, 117, 101, 115, 116, 105, 111, 110, 32, 97, 100, 117, 108, 116, 32, 123, 32, 105, 100, 32, 46, 32, 97, 103, 101, 32, 62, 61, 32, 49, 56, 32, 125]
def exT1 : List Nat := [113, 117, 101, 115, 116, 105, 111, 110, 32, 97, 100, 117, 108, 116, 32, 123, 32, 48, 32, 60, 61, 32, 105, 100, 32, 46, 32, 97, 103, 101, 32, 45, 32, 49, 56, 32, 125]
def exS2 : List Nat := [113, 117, 101, 115, 116, 105, 111, 110, 32, 97, 32, 123, 32, 120, 46, 121, 32, 105, 110, 32, 123, 32, 51, 32, 44, 32, 53, 32, 46, 46, 32, 55, 32, 125, 32, 125]
def exT2 : List Nat := [113, 117, 101, 115, 116, 105, 111, 110, 32, 97, 32, 123, 32, 40, 32, 48, 32, 60, 61, 32, 120, 32, 46, 32, 121, 32, 45, 32, 51, 32, 97, 110, 100, 32, 120, 32, 46, 32, 121, 32, 60, 61, 32, 51, 32, 41, 32, 111, 114, 32, 40, 32, 48, 32, 60, 61, 32, 120, 32, 46, 32, 121, 32, 45, 32, 53, 32, 97, 110, 100, 32, 120, 32, 46, 32, 121, 32, 60, 61, 32, 55, 32, 41, 32, 125]
def exS3 : List Nat := [113, 117, 101, 115, 116, 105, 111, 110, 32, 97, 32, 123, 32, 110, 111, 116, 32, 40, 32, 120, 46, 121, 32, 60, 32, 51, 32, 97, 110, 100, 32, 120, 46, 122, 32, 61, 32, 49, 32, 41, 32, 125]
def exT3 : List Nat := [113, 117, 101, 115, 116, 105, 111, 110, 32, 97, 32, 123, 32, 48, 32, 60, 61, 32, 120, 32, 46, 32, 121, 32, 45, 32, 51, 32, 111, 114, 32, 40, 32, 48, 32, 60, 61, 32, 120, 32, 46, 32, 122, 32, 45, 32, 50, 32, 111, 114, 32, 120, 32, 46, 32, 122, 32, 60, 61, 32, 48, 32, 41, 32, 125]
def exS4 : List Nat := [113, 117, 101, 115, 116, 105, 111, 110, 32, 97, 32, 123, 32, 120, 46, 121, 32, 60, 32, 125]
def exS5 : List Nat := [113, 117, 101, 115, 116, 105, 111, 110, 32, 97, 32, 123, 32, 97, 116, 32, 108, 101, 97, 115, 116, 32, 51, 32, 111, 102, 32, 40, 32, 120, 46, 121, 32, 60, 32, 49, 32, 44, 32, 120, 46, 121, 32, 62, 32, 53, 32, 41, 32, 125]
def exS6 : List Nat := [120, 46, 97, 32, 60, 61, 32, 51, 32, 97, 110, 100, 32, 97, 116, 32, 108, 101, 97, 115, 116, 32, 50, 32, 111, 102, 32, 40, 32, 120, 46, 97, 32, 60, 61, 32, 49, 32, 44, 32, 120, 46, 98, 32, 60, 61, 32, 50, 32, 44, 32, 120, 46, 99, 32, 60, 61, 32, 53, 32, 41]
def exS7 : List Nat := [40, 32, 120, 46, 97, 32, 60, 61, 32, 49, 32, 97, 110, 100, 32, 120, 46, 98, 32, 60, 61, 32, 50, 32, 41, 32, 111, 114, 32, 120, 46, 99, 32, 60, 61, 32, 53]
def exP1 : Prd := .mk 0 [] [105, 100, 46, 97, 103, 101] (-18) []
def exP2 : Prd := .mk 2 [] [] 0 [.mk 1 [] [] 0 [.mk 0 [] [120, 46, 121] (-3) [], .mk 0 [120, 46, 121] [] (3) []], .mk 1 [] [] 0 [.mk 0 [] [120, 46, 121] (-5) [], .mk 0 [120, 46, 121] [] (7) []]]
def exP3 : Prd := .mk 2 [] [] 0 [.mk 0 [] [120, 46, 121] (-3) [], .mk 2 [] [] 0 [.mk 0 [] [120, 46, 122] (-2) [], .mk 0 [120, 46, 122] [] (0) []]]
def exPA : Prd := .mk 0 [120, 46, 97] [] (1) []
def exPB : Prd := .mk 0 [120, 46, 98] [] (2) []
def exPC : Prd := .mk 0 [120, 46, 99] [] (5) []
def exPD : Prd := .mk 0 [120, 46, 97] [] (3) []
def exP6 : Prd := .mk 1 [] [] 0 [exPD, .mk 3 [] [] 2 [exPA, exPB, exPC]]
def exP7 : Prd := .mk 2 [] [] 0 [.mk 1 [] [] 0 [exPA, exPB], exPC]
def exL6 : List Nat := [113, 117, 101, 115, 116, 105, 111, 110, 32, 97, 32, 123, 32] ++ exS6 ++ [32, 125]
def exL7 : List Nat := [113, 117, 101, 115, 116, 105, 111, 110, 32, 97, 32, 123, 32] ++ exS7 ++ [32, 125]
theorem ex1 : parseF exS1 = ([97, 100, 117, 108, 116], exP1, 0, 0) := by kernel_rfl
theorem ex2 : parseF exS2 = ([97], exP2, 0, 0) := by kernel_rfl
theorem ex3 : parseF exS3 = ([97], exP3, 0, 0) := by kernel_rfl
theorem ex4 : (parseF exS4).2.2.1 = 19 ∧ (parseF exS4).2.2.2 = 12 := ⟨by kernel_rfl, by kernel_rfl⟩
theorem ex5 : (parseF exS5).2.2.1 = 13 ∧ (parseF exS5).2.2.2 = 3 := ⟨by kernel_rfl, by kernel_rfl⟩
theorem ex6 : (parseF exL6).2.1 = exP6 := by kernel_rfl
theorem ex7 : (parseF exL7).2.1 = exP7 := by kernel_rfl
theorem pr1 : prnP [97, 100, 117, 108, 116] exP1 = some exT1 := by kernel_rfl
theorem pr2 : prnP [97] exP2 = some exT2 := by kernel_rfl
theorem pr3 : prnP [97] exP3 = some exT3 := by kernel_rfl
def nmB (l : List Nat) : Bool := l.all (fun y => decide (y < 256)) && decide (l.length ≤ 1000)
mutual
def bytB : Prd → Bool
  | .mk k l r c ks => nmB l && (nmB r && bytBL ks)
def bytBL : List Prd → Bool
  | [] => true
  | p :: ps => bytB p && bytBL ps
end
theorem nmB_ok {l : List Nat} (h : nmB l = true) : NmB l := by
  unfold nmB at h
  rw [Bool.and_eq_true, List.all_eq_true] at h
  exact ⟨fun y hy => of_decide_eq_true (h.1 y hy), Nat.le_trans (of_decide_eq_true h.2) (by omega)⟩
mutual
theorem bytB_ok : ∀ p : Prd, bytB p = true → BytP p
  | .mk k l r c ks, h => by
    unfold bytB at h
    rw [Bool.and_eq_true, Bool.and_eq_true] at h
    unfold BytP
    exact ⟨nmB_ok h.1, nmB_ok h.2.1, bytBL_ok ks h.2.2⟩
theorem bytBL_ok : ∀ ks : List Prd, bytBL ks = true → BytL ks
  | [], _ => by unfold BytL; trivial
  | p :: ps, h => by
    unfold bytBL at h
    rw [Bool.and_eq_true] at h
    unfold BytL
    exact ⟨bytB_ok p h.1, bytBL_ok ps h.2⟩
end
def exC6 : List Chc := [⟨1, [exPD]⟩, ⟨2, [exPA, exPB, exPC]⟩]
def exC7 : List Chc := [⟨1, [exPA, exPC]⟩, ⟨1, [exPB, exPC]⟩]
theorem cl_of (p : Prd) (L : List (List Ky)) (h : outU (fun set => truthP (inSet (properP p) set) p) (properP p) (2 ^ (properP p).length) = L) (hs : L.Pairwise (fun a b => leC a b = true)) : clausesP p = L := by
  unfold clausesP
  rw [h]
  exact List.mergeSort_of_pairwise hs
def kyA : Ky := ⟨[120, 46, 97], [], 1⟩
def kyB' : Ky := ⟨[120, 46, 98], [], 2⟩
def kyC' : Ky := ⟨[120, 46, 99], [], 5⟩
def kyD : Ky := ⟨[120, 46, 97], [], 3⟩
theorem cl_D : clausesP exPD = [[kyD]] := cl_of exPD [[kyD]] (by kernel_rfl) (List.pairwise_singleton _ _)
theorem cl_7 : clausesP exP7 = [[kyA, kyC'], [kyB', kyC']] := cl_of exP7 [[kyA, kyC'], [kyB', kyC']] (by kernel_rfl) (by decide +kernel)
theorem ch_node {k : Int} {l r : List Nat} {c : Int} {ks : List Prd} (h : plainP (.mk k l r c ks) = false) (hk : k ≠ 1) : choP (.mk k l r c ks) = (clausesP (.mk k l r c ks)).map clC := by
  rw [choP, if_neg (by rw [h]; simp), if_neg hk]
theorem ch_all {l r : List Nat} {c : Int} {ks : List Prd} (h : plainP (.mk 1 l r c ks) = false) : choP (.mk 1 l r c ks) = choL ks := by
  rw [choP, if_neg (by rw [h]; simp), if_pos rfl]
theorem ch_plain {k : Int} {l r : List Nat} {c : Int} {ks : List Prd} (h : plainP (.mk k l r c ks) = true) : choP (.mk k l r c ks) = [⟨c, ks⟩] := by
  rw [choP, if_pos h]
theorem ch_D : choP exPD = [⟨1, [exPD]⟩] := by
  have h := ch_node (k := 0) (l := [120, 46, 97]) (r := []) (c := 3) (ks := []) (by kernel_rfl) (by decide)
  exact h.trans ((congrArg (List.map clC) cl_D).trans (by kernel_rfl))
theorem ch_7 : choP exP7 = exC7 := by
  have h := ch_node (k := 2) (l := []) (r := []) (c := 0) (ks := [.mk 1 [] [] 0 [exPA, exPB], exPC]) (by kernel_rfl) (by decide)
  exact h.trans ((congrArg (List.map clC) cl_7).trans (by kernel_rfl))
theorem ch_6 : choP exP6 = exC6 := by
  have h := ch_all (l := []) (r := []) (c := 0) (ks := [exPD, .mk 3 [] [] 2 [exPA, exPB, exPC]]) (by kernel_rfl)
  refine h.trans ?_
  rw [choL, choL, choL, ch_D, ch_plain (by kernel_rfl)]
  rfl
theorem norm_of {p : Prd} {cs : List Chc} (hv : validP p = true) (h8 : (properP p).length ≤ 8) (hc : choP p = cs) (hl : cs.length ≤ 100) : normP p = .ok cs := by
  unfold normP
  rw [if_neg (by rw [hv]; simp), if_neg (by omega), hc, if_neg (by omega)]
theorem nm6 : normP exP6 = .ok exC6 := norm_of (by kernel_rfl) (of_decide_eq_true (by kernel_rfl)) ch_6 (by decide)
theorem nm7 : normP exP7 = .ok exC7 := norm_of (by kernel_rfl) (of_decide_eq_true (by kernel_rfl)) ch_7 (by decide)
end Go.Proofs.YtmkdfbelbcocpaaGreatDoor
namespace Go.Proofs.YtmkdfbelbcocpaaGreatDoor
open Go.RowKit Go.Sort
set_option maxRecDepth 100000 in
theorem arr72 (t : Array Value) (h : t.size = 72) : ∃ x0 x1 x2 x3 x4 x5 x6 x7 x8 x9 x10 x11 x12 x13 x14 x15 x16 x17 x18 x19 x20 x21 x22 x23 x24 x25 x26 x27 x28 x29 x30 x31 x32 x33 x34 x35 x36 x37 x38 x39 x40 x41 x42 x43 x44 x45 x46 x47 x48 x49 x50 x51 x52 x53 x54 x55 x56 x57 x58 x59 x60 x61 x62 x63 x64 x65 x66 x67 x68 x69 x70 x71, t = #[x0, x1, x2, x3, x4, x5, x6, x7, x8, x9, x10, x11, x12, x13, x14, x15, x16, x17, x18, x19, x20, x21, x22, x23, x24, x25, x26, x27, x28, x29, x30, x31, x32, x33, x34, x35, x36, x37, x38, x39, x40, x41, x42, x43, x44, x45, x46, x47, x48, x49, x50, x51, x52, x53, x54, x55, x56, x57, x58, x59, x60, x61, x62, x63, x64, x65, x66, x67, x68, x69, x70, x71] := by
  obtain ⟨l⟩ := t
  have hl : l.length = 72 := h
  have e : l = (List.range 72).map (fun i => l.getD i undef) := by
    apply List.ext_getElem
    · simp [hl]
    · intro i h1 h2
      simp [List.getD, h1]
  exact ⟨l.getD 0 undef, l.getD 1 undef, l.getD 2 undef, l.getD 3 undef, l.getD 4 undef, l.getD 5 undef, l.getD 6 undef, l.getD 7 undef, l.getD 8 undef, l.getD 9 undef, l.getD 10 undef, l.getD 11 undef, l.getD 12 undef, l.getD 13 undef, l.getD 14 undef, l.getD 15 undef, l.getD 16 undef, l.getD 17 undef, l.getD 18 undef, l.getD 19 undef, l.getD 20 undef, l.getD 21 undef, l.getD 22 undef, l.getD 23 undef, l.getD 24 undef, l.getD 25 undef, l.getD 26 undef, l.getD 27 undef, l.getD 28 undef, l.getD 29 undef, l.getD 30 undef, l.getD 31 undef, l.getD 32 undef, l.getD 33 undef, l.getD 34 undef, l.getD 35 undef, l.getD 36 undef, l.getD 37 undef, l.getD 38 undef, l.getD 39 undef, l.getD 40 undef, l.getD 41 undef, l.getD 42 undef, l.getD 43 undef, l.getD 44 undef, l.getD 45 undef, l.getD 46 undef, l.getD 47 undef, l.getD 48 undef, l.getD 49 undef, l.getD 50 undef, l.getD 51 undef, l.getD 52 undef, l.getD 53 undef, l.getD 54 undef, l.getD 55 undef, l.getD 56 undef, l.getD 57 undef, l.getD 58 undef, l.getD 59 undef, l.getD 60 undef, l.getD 61 undef, l.getD 62 undef, l.getD 63 undef, l.getD 64 undef, l.getD 65 undef, l.getD 66 undef, l.getD 67 undef, l.getD 68 undef, l.getD 69 undef, l.getD 70 undef, l.getD 71 undef, congrArg List.toArray e⟩
/-- An atom's value. -/
def atV (s : ByteArray) (c : Int) : Value := .agg #[.int .i64 0, .string s, .string ⟨#[]⟩, .int .i64 c, .slice none 0 0]
def sxa : ByteArray := ⟨#[120, 46, 97]⟩
def sxb : ByteArray := ⟨#[120, 46, 98]⟩
def sxc : ByteArray := ⟨#[120, 46, 99]⟩
/-- A slice of n atoms. -/
def SlK (ks : List Prd) (n : Nat) (w : World) (v : Value) : Prop := ∃ g, v = .slice (some ⟨g, 0, none⟩) n n ∧ KidR w (fun x => x < w.heap.size) ks (some ⟨g, 0, none⟩)
def AgK (nd : Int) (ks : List Prd) (n : Nat) (w : World) (v : Value) : Prop := ∃ g, v = .agg #[.int .i64 nd, .slice (some ⟨g, 0, none⟩) n n] ∧ KidR w (fun x => x < w.heap.size) ks (some ⟨g, 0, none⟩)
def SlC (cs : List Chc) (w : World) (v : Value) : Prop := ∃ g, v = .slice (some ⟨g, 0, none⟩) 2 2 ∧ ChsR w cs (some ⟨g, 0, none⟩)
def sF (v6 v8 : Value) (i : Nat) (w : World) (v : Value) : Prop :=
  match i with
  | 0 => v = v6
  | 1 => v = atV sxa 3
  | 2 => SlK [exPD] 1 w v
  | 3 => AgK 1 [exPD] 1 w v
  | 4 => v = atV sxa 1
  | 5 => v = atV sxb 2
  | 6 => v = atV sxc 5
  | 7 => SlK [exPA, exPB, exPC] 3 w v
  | 8 => AgK 2 [exPA, exPB, exPC] 3 w v
  | 9 => SlC exC6 w v
  | 10 => v = .bool true
  | 11 => v = .bool true
  | 12 => v = v8
  | 13 => v = atV sxa 1
  | 14 => v = atV sxc 5
  | 15 => SlK [exPA, exPC] 2 w v
  | 16 => AgK 1 [exPA, exPC] 2 w v
  | 17 => v = atV sxb 2
  | 18 => v = atV sxc 5
  | 19 => SlK [exPB, exPC] 2 w v
  | 20 => AgK 1 [exPB, exPC] 2 w v
  | 21 => SlC exC7 w v
  | _ => v = .bool true
theorem SlK.step {ks : List Prd} {n : Nat} {w w' : World} {v : Value} (h : SlK ks n w v) (hb : Below w.heap.size w w') : SlK ks n w' v := by
  obtain ⟨g, h1, h2⟩ := h
  exact ⟨g, h1, h2.any hb⟩
theorem AgK.step {nd : Int} {ks : List Prd} {n : Nat} {w w' : World} {v : Value} (h : AgK nd ks n w v) (hb : Below w.heap.size w w') : AgK nd ks n w' v := by
  obtain ⟨g, h1, h2⟩ := h
  exact ⟨g, h1, h2.any hb⟩
theorem SlC.step {cs : List Chc} {w w' : World} {v : Value} (h : SlC cs w v) (hb : Below w.heap.size w w') : SlC cs w' v := by
  obtain ⟨g, h1, h2⟩ := h
  exact ⟨g, h1, h2.below hb⟩
theorem sF_step (v6 v8 : Value) : ∀ (i : Nat) (w w' : World) (v : Value), sF v6 v8 i w v → Below w.heap.size w w' → sF v6 v8 i w' v := by
  intro i w w' v h hb
  unfold sF at h ⊢
  split at h <;> first | exact h | exact SlK.step h hb | exact AgK.step h hb | exact SlC.step h hb
/-- The cells of an atom. -/
def atL (s : ByteArray) (c : Int) : List Value := [.int .i64 0, .string s, .string ⟨#[]⟩, .int .i64 c, .slice none 0 0]
theorem atL_pred {w : World} {P : Nat → Prop} {p : Prd} {s : ByteArray} {c : Int} {l : List Nat} (hp : p = .mk 0 l [] c []) (hs : strN l = s) : PredC w P p (atL s c) := by
  subst hp hs
  unfold PredC
  exact ⟨none, 0, rfl, .inl rfl⟩
/-- A slice just built of atoms. -/
theorem kidR_new (w : World) (ks : List Prd) (vss : List (List Value)) (cs : Array Value) (T : TypeId) (hcs : cs = vss.flatten.toArray) (hl : vss.length = ks.length) (hp : ∀ (w' : World) (P : Nat → Prop) (i : Nat) (p : Prd) (vs : List Value), ks[i]? = some p → vss[i]? = some vs → PredC w' P p vs) :
    KidR (w.alloc (.cells cs T)) (fun x => x < (w.alloc (.cells cs T)).heap.size) ks (some ⟨w.heap.size, 0, none⟩) := by
  refine .inr ⟨w.heap.size, 0, rfl, by simp, by simp, KidsC.of ks vss w.heap.size 0 hl (hp _ _) (fun j u hj => ?_)⟩
  have := cells_new w cs T j
  rw [Addr.add_lit] at this
  rw [this, hcs]
  simpa using hj
/-- A slice just built of two choices. -/
theorem chsR_new (w : World) (c1 c2 : Chc) (g1 g2 : Nat) (T : TypeId) (h1 : KidR w (fun x => x < w.heap.size) c1.atoms (some ⟨g1, 0, none⟩)) (h2 : KidR w (fun x => x < w.heap.size) c2.atoms (some ⟨g2, 0, none⟩)) :
    ChsR (w.alloc (.cells #[.int .i64 c1.need, .slice (some ⟨g1, 0, none⟩) c1.atoms.length c1.atoms.length, .int .i64 c2.need, .slice (some ⟨g2, 0, none⟩) c2.atoms.length c2.atoms.length] T)) [c1, c2] (some ⟨w.heap.size, 0, none⟩) := by
  have hA : Below w.heap.size w (w.alloc (.cells #[.int .i64 c1.need, .slice (some ⟨g1, 0, none⟩) c1.atoms.length c1.atoms.length, .int .i64 c2.need, .slice (some ⟨g2, 0, none⟩) c2.atoms.length c2.atoms.length] T)) := (Below.refl _ _).alloc (Nat.le_refl _) _
  have hc := fun j => cells_new w #[.int .i64 c1.need, .slice (some ⟨g1, 0, none⟩) c1.atoms.length c1.atoms.length, .int .i64 c2.need, .slice (some ⟨g2, 0, none⟩) c2.atoms.length c2.atoms.length] T j
  refine .inr ⟨w.heap.size, 0, rfl, by simp, fun i c hi => ?_⟩
  match i, hi with
  | 0, hi =>
    obtain rfl : c1 = c := by simpa using hi
    refine ⟨some ⟨g1, 0, none⟩, c1.atoms.length, fun j u hj => ?_, h1.any hA⟩
    have := hc (0 + j)
    rw [Addr.add_lit] at this
    match j, hj with
    | 0, hj => rw [← hj]; exact this
    | 1, hj => rw [← hj]; exact this
    | j + 2, hj => simp at hj
  | 1, hi =>
    obtain rfl : c2 = c := by simpa using hi
    refine ⟨some ⟨g2, 0, none⟩, c2.atoms.length, fun j u hj => ?_, h2.any hA⟩
    have := hc (2 + j)
    rw [Addr.add_lit] at this
    match j, hj with
    | 0, hj => rw [← hj]; exact this
    | 1, hj => rw [← hj]; exact this
    | j + 2, hj => simp at hj
  | i + 2, hi => simp at hi
end Go.Proofs.YtmkdfbelbcocpaaGreatDoor
namespace Go.Proofs.YtmkdfbelbcocpaaGreatDoor
open Go.RowKit Go.Sort
theorem sS1 : strN exS1 = ⟨#[113, 117, 101, 115, 116, 105, 111, 110, 32, 97, 100, 117, 108, 116, 32, 123, 32, 105, 100, 32, 46, 32, 97, 103, 101, 32, 62, 61, 32, 49, 56, 32, 125]⟩ := by kernel_rfl
theorem sT1 : strN exT1 = ⟨#[113, 117, 101, 115, 116, 105, 111, 110, 32, 97, 100, 117, 108, 116, 32, 123, 32, 48, 32, 60, 61, 32, 105, 100, 32, 46, 32, 97, 103, 101, 32, 45, 32, 49, 56, 32, 125]⟩ := by kernel_rfl
theorem sS2 : strN exS2 = ⟨#[113, 117, 101, 115, 116, 105, 111, 110, 32, 97, 32, 123, 32, 120, 46, 121, 32, 105, 110, 32, 123, 32, 51, 32, 44, 32, 53, 32, 46, 46, 32, 55, 32, 125, 32, 125]⟩ := by kernel_rfl
theorem sT2 : strN exT2 = ⟨#[113, 117, 101, 115, 116, 105, 111, 110, 32, 97, 32, 123, 32, 40, 32, 48, 32, 60, 61, 32, 120, 32, 46, 32, 121, 32, 45, 32, 51, 32, 97, 110, 100, 32, 120, 32, 46, 32, 121, 32, 60, 61, 32, 51, 32, 41, 32, 111, 114, 32, 40, 32, 48, 32, 60, 61, 32, 120, 32, 46, 32, 121, 32, 45, 32, 53, 32, 97, 110, 100, 32, 120, 32, 46, 32, 121, 32, 60, 61, 32, 55, 32, 41, 32, 125]⟩ := by kernel_rfl
theorem sS3 : strN exS3 = ⟨#[113, 117, 101, 115, 116, 105, 111, 110, 32, 97, 32, 123, 32, 110, 111, 116, 32, 40, 32, 120, 46, 121, 32, 60, 32, 51, 32, 97, 110, 100, 32, 120, 46, 122, 32, 61, 32, 49, 32, 41, 32, 125]⟩ := by kernel_rfl
theorem sT3 : strN exT3 = ⟨#[113, 117, 101, 115, 116, 105, 111, 110, 32, 97, 32, 123, 32, 48, 32, 60, 61, 32, 120, 32, 46, 32, 121, 32, 45, 32, 51, 32, 111, 114, 32, 40, 32, 48, 32, 60, 61, 32, 120, 32, 46, 32, 122, 32, 45, 32, 50, 32, 111, 114, 32, 120, 32, 46, 32, 122, 32, 60, 61, 32, 48, 32, 41, 32, 125]⟩ := by kernel_rfl
theorem sS4 : strN exS4 = ⟨#[113, 117, 101, 115, 116, 105, 111, 110, 32, 97, 32, 123, 32, 120, 46, 121, 32, 60, 32, 125]⟩ := by kernel_rfl
theorem sS5 : strN exS5 = ⟨#[113, 117, 101, 115, 116, 105, 111, 110, 32, 97, 32, 123, 32, 97, 116, 32, 108, 101, 97, 115, 116, 32, 51, 32, 111, 102, 32, 40, 32, 120, 46, 121, 32, 60, 32, 49, 32, 44, 32, 120, 46, 121, 32, 62, 32, 53, 32, 41, 32, 125]⟩ := by kernel_rfl
theorem sS6 : strN exS6 = ⟨#[120, 46, 97, 32, 60, 61, 32, 51, 32, 97, 110, 100, 32, 97, 116, 32, 108, 101, 97, 115, 116, 32, 50, 32, 111, 102, 32, 40, 32, 120, 46, 97, 32, 60, 61, 32, 49, 32, 44, 32, 120, 46, 98, 32, 60, 61, 32, 50, 32, 44, 32, 120, 46, 99, 32, 60, 61, 32, 53, 32, 41]⟩ := by kernel_rfl
theorem sS7 : strN exS7 = ⟨#[40, 32, 120, 46, 97, 32, 60, 61, 32, 49, 32, 97, 110, 100, 32, 120, 46, 98, 32, 60, 61, 32, 50, 32, 41, 32, 111, 114, 32, 120, 46, 99, 32, 60, 61, 32, 53]⟩ := by kernel_rfl
theorem byte_of {l : List Nat} (h : nmB l = true) : ∀ y ∈ l, y < 256 := (nmB_ok h).1
set_option maxHeartbeats 8000000 in
set_option maxRecDepth 100000 in
theorem sane5_any (w : World) (B : Nat) (hG : Good w B) : Calls Tryz.prog 16 #[] w fun e w' => e = .returned (.bool true) ∧ Below w.heap.size w w' := by
  have H1 := mkHid (fun W (hW : Below w.heap.size w W) => prints_true exS1 exT1 W B (hG.step hW) (of_decide_eq_true (by kernel_rfl)) (byte_of (by kernel_rfl)) _ _ ex1 pr1 (of_decide_eq_true (by kernel_rfl)) (byte_of (by kernel_rfl)) (bytB_ok _ (by kernel_rfl)) (of_decide_eq_true (by kernel_rfl)))
  have H2 := mkHid (fun W (hW : Below w.heap.size w W) => prints_true exS2 exT2 W B (hG.step hW) (of_decide_eq_true (by kernel_rfl)) (byte_of (by kernel_rfl)) _ _ ex2 pr2 (of_decide_eq_true (by kernel_rfl)) (byte_of (by kernel_rfl)) (bytB_ok _ (by kernel_rfl)) (of_decide_eq_true (by kernel_rfl)))
  have H3 := mkHid (fun W (hW : Below w.heap.size w W) => prints_true exS3 exT3 W B (hG.step hW) (of_decide_eq_true (by kernel_rfl)) (byte_of (by kernel_rfl)) _ _ ex3 pr3 (of_decide_eq_true (by kernel_rfl)) (byte_of (by kernel_rfl)) (bytB_ok _ (by kernel_rfl)) (of_decide_eq_true (by kernel_rfl)))
  have H4 := mkHid (fun W (hW : Below w.heap.size w W) => fails_true exS4 W B (hG.step hW) (of_decide_eq_true (by kernel_rfl)) (byte_of (by kernel_rfl)) 19 12 ex4)
  have H5 := mkHid (fun W (hW : Below w.heap.size w W) => fails_true exS5 W B (hG.step hW) (of_decide_eq_true (by kernel_rfl)) (byte_of (by kernel_rfl)) 13 3 ex5)
  have H6 := mkHid (fun W (hW : Below w.heap.size w W) => quest_any exS6 W B (hG.step hW) (of_decide_eq_true (by kernel_rfl)) (byte_of (by kernel_rfl)) exL6 rfl)
  have H7 := mkHid (fun W (hW : Below w.heap.size w W) => quest_any exS7 W B (hG.step hW) (of_decide_eq_true (by kernel_rfl)) (byte_of (by kernel_rfl)) exL7 rfl)
  have HN6 := mkHid (fun W vs (hW : Below w.heap.size w W) (h : PredC W (fun g => g < W.heap.size) exP6 vs) => normal_any exP6 W _ vs B (of_decide_eq_true (by kernel_rfl)) (bytB_ok _ (by kernel_rfl)) h (fun g hg => hg) (hG.step hW).tab)
  have HN7 := mkHid (fun W vs (hW : Below w.heap.size w W) (h : PredC W (fun g => g < W.heap.size) exP7 vs) => normal_any exP7 W _ vs B (of_decide_eq_true (by kernel_rfl)) (bytB_ok _ (by kernel_rfl)) h (fun g hg => hg) (hG.step hW).tab)
  rw [sS1, sT1] at H1
  rw [sS2, sT2] at H2
  rw [sS3, sT3] at H3
  rw [sS4] at H4
  rw [sS5] at H5
  rw [sS6, ex6] at H6
  rw [sS7, ex7] at H7
  rw [nm6] at HN6
  rw [nm7] at HN7
  have B0 := mkHid (Below.refl w.heap.size w)
  clear hG
  go_enter Tryz.func16, Tryz.ntmps16
  go_wp2_with fail
  refine (H1.out w B0.out).mono ?_
  rintro e w1 ⟨rfl, b1⟩
  have B1 := mkHid b1
  clear b1 B0 H1
  go_wp2_with fail
  refine (H2.out w1 B1.out).mono ?_
  rintro e w2 ⟨rfl, b2⟩
  have B2 := mkHid (B1.out.trans (b2.mono B1.out.size))
  clear b2 B1 H2
  go_wp2_with fail
  refine (H3.out w2 B2.out).mono ?_
  rintro e w3 ⟨rfl, b3⟩
  have B3 := mkHid (B2.out.trans (b3.mono B2.out.size))
  clear b3 B2 H3
  go_wp2_with fail
  refine (H4.out w3 B3.out).mono ?_
  rintro e w4 ⟨rfl, b4⟩
  have B4 := mkHid (B3.out.trans (b4.mono B3.out.size))
  clear b4 B3 H4
  go_wp2_with fail
  refine (H5.out w4 B4.out).mono ?_
  rintro e w5 ⟨rfl, b5⟩
  have B5 := mkHid (B4.out.trans (b5.mono B4.out.size))
  clear b5 B4 H5
  go_wp2_with fail
  refine (catom_any _ _ _ w5).mono ?_
  rintro e w6 ⟨rfl, b6⟩
  have B6 := mkHid (B5.out.trans (b6.mono B5.out.size))
  clear b6 B5
  have bx := (Below.refl w6.heap.size w6).alloc (Nat.le_refl _) (.cells #[.int .i64 0, .string ⟨#[120, 46, 97]⟩, .string ⟨#[]⟩, .int .i64 1, .slice none 0 0] 25)
  have XA : Hid (HasV (w6.alloc (.cells #[.int .i64 0, .string ⟨#[120, 46, 97]⟩, .string ⟨#[]⟩, .int .i64 1, .slice none 0 0] 25)) w6.heap.size 25 [.int .i64 0, .string ⟨#[120, 46, 97]⟩, .string ⟨#[]⟩, .int .i64 1, .slice none 0 0]) := mkHid (heap_alloc_new w6 _)
  have B7 := mkHid (B6.out.trans (bx.mono B6.out.size))
  clear bx B6
  go_upto_region 4 with (fail)
  generalize hA : w6.heap.size = A at *
  clear hA
  generalize w6.alloc (.cells #[.int .i64 0, .string ⟨#[120, 46, 97]⟩, .string ⟨#[]⟩, .int .i64 1, .slice none 0 0] 25) = w7 at *
  go_wp2_with fail
  refine (catom_any _ _ _ w7).mono ?_
  rintro e w8 ⟨rfl, b8⟩
  have XA8 := mkHid (XA.out.step b8)
  have B8 := mkHid (B7.out.trans (b8.mono B7.out.size))
  clear b8 B7 XA
  have bx := (Below.refl w8.heap.size w8).alloc (Nat.le_refl _) (.cells #[.int .i64 0, .string ⟨#[120, 46, 98]⟩, .string ⟨#[]⟩, .int .i64 2, .slice none 0 0] 25)
  have XB : Hid (HasV (w8.alloc (.cells #[.int .i64 0, .string ⟨#[120, 46, 98]⟩, .string ⟨#[]⟩, .int .i64 2, .slice none 0 0] 25)) w8.heap.size 25 [.int .i64 0, .string ⟨#[120, 46, 98]⟩, .string ⟨#[]⟩, .int .i64 2, .slice none 0 0]) := mkHid (heap_alloc_new w8 _)
  have XA9 := mkHid (XA8.out.step bx)
  have B9 := mkHid (B8.out.trans (bx.mono B8.out.size))
  clear bx B8 XA8
  go_upto_region 5 with (fail)
  generalize hA : w8.heap.size = AB at *
  clear hA
  generalize w8.alloc (.cells #[.int .i64 0, .string ⟨#[120, 46, 98]⟩, .string ⟨#[]⟩, .int .i64 2, .slice none 0 0] 25) = w9 at *
  go_wp2_with fail
  refine (catom_any _ _ _ w9).mono ?_
  rintro e w10 ⟨rfl, b10⟩
  have XA10 := mkHid (XA9.out.step b10)
  have XB10 := mkHid (XB.out.step b10)
  have B10 := mkHid (B9.out.trans (b10.mono B9.out.size))
  clear b10 B9 XA9 XB
  have bx := (Below.refl w10.heap.size w10).alloc (Nat.le_refl _) (.cells #[.int .i64 0, .string ⟨#[120, 46, 99]⟩, .string ⟨#[]⟩, .int .i64 5, .slice none 0 0] 25)
  have XC : Hid (HasV (w10.alloc (.cells #[.int .i64 0, .string ⟨#[120, 46, 99]⟩, .string ⟨#[]⟩, .int .i64 5, .slice none 0 0] 25)) w10.heap.size 25 [.int .i64 0, .string ⟨#[120, 46, 99]⟩, .string ⟨#[]⟩, .int .i64 5, .slice none 0 0]) := mkHid (heap_alloc_new w10 _)
  have XA11 := mkHid (XA10.out.step bx)
  have XB11 := mkHid (XB10.out.step bx)
  have B11 := mkHid (B10.out.trans (bx.mono B10.out.size))
  clear bx B10 XA10 XB10
  go_upto_region 6 with (fail)
  generalize hA : w10.heap.size = AC at *
  clear hA
  generalize w10.alloc (.cells #[.int .i64 0, .string ⟨#[120, 46, 99]⟩, .string ⟨#[]⟩, .int .i64 5, .slice none 0 0] 25) = w11 at *
  go_wp2_with fail
  refine (H6.out w11 B11.out).mono ?_
  rintro e w12 ⟨v, rfl, hv, b12⟩
  have XA12 := mkHid (XA11.out.step b12)
  have XB12 := mkHid (XB11.out.step b12)
  have XC12 := mkHid (XC.out.step b12)
  have B12 := mkHid (B11.out.trans (b12.mono B11.out.size))
  obtain ⟨ka, kn, kc, rfl, hc⟩ := hv.open
  have hnm := mkHid (HN6.out w12 _ B12.out (hc.mono (fun g h _ => h.2)))
  clear b12 B11 H6 XA11 XB11 XC hv hc HN6
  go_wp2_with fail
  refine hnm.out.mono ?_
  rintro e w13 ⟨b13, a13, c13, v13, rfl, r13⟩
  have XA13 := mkHid (XA12.out.step b13)
  have XB13 := mkHid (XB12.out.step b13)
  have XC13 := mkHid (XC12.out.step b13)
  have B13 := mkHid (B12.out.trans (b13.mono B12.out.size))
  have C6 := mkHid (ChsR.of_row r13)
  clear b13 r13 B12 XA12 XB12 XC12 hnm
  go_wp2_with fail
  refine (H7.out w13 B13.out).mono ?_
  rintro e w14 ⟨v, rfl, hv, b14⟩
  have XA14 := mkHid (XA13.out.step b14)
  have XB14 := mkHid (XB13.out.step b14)
  have XC14 := mkHid (XC13.out.step b14)
  have B14 := mkHid (B13.out.trans (b14.mono B13.out.size))
  have C614 := mkHid (C6.out.below b14)
  obtain ⟨ka, kn, kc, rfl, hc⟩ := hv.open
  have hnm := mkHid (HN7.out w14 _ B14.out (hc.mono (fun g h _ => h.2)))
  clear b14 B13 H7 XA13 XB13 XC13 C6 hv hc HN7
  go_wp2_with fail
  refine hnm.out.mono ?_
  rintro e w15 ⟨b15, a15, c15, v15, rfl, r15⟩
  have XA15 := mkHid (XA14.out.step b15)
  have XB15 := mkHid (XB14.out.step b15)
  have XC15 := mkHid (XC14.out.step b15)
  have B15 := mkHid (B14.out.trans (b15.mono B14.out.size))
  have C615 := mkHid (C614.out.below b15)
  have C7 := mkHid (ChsR.of_row r15)
  clear b15 r15 B14 XA14 XB14 XC14 C614 hnm
  go_upto_region 10 with (fail)
  have HLA : Hid (∀ q ∈ [exPA, exPB, exPC, exPD], q.ks = [] ∧ BytP q) := mkHid (by
    intro q hq
    simp only [List.mem_cons, List.not_mem_nil, or_false] at hq
    rcases hq with rfl | rfl | rfl | rfl <;> exact ⟨rfl, bytB_ok _ (by kernel_rfl)⟩)
  have HC6 : Hid (∀ c ∈ exC6, c.atoms.length ≤ 1000000 ∧ ∀ q ∈ c.atoms, q.ks = [] ∧ BytP q) := mkHid (by
    intro c hc
    simp only [exC6, List.mem_cons, List.not_mem_nil, or_false] at hc
    rcases hc with rfl | rfl
    · exact ⟨by decide, fun q hq => HLA.out q (by simp at hq ⊢; simp [hq])⟩
    · exact ⟨by decide, fun q hq => HLA.out q (by simp at hq ⊢; rcases hq with h | h | h <;> simp [h])⟩)
  have HC7 : Hid (∀ c ∈ exC7, c.atoms.length ≤ 1000000 ∧ ∀ q ∈ c.atoms, q.ks = [] ∧ BytP q) := mkHid (by
    intro c hc
    simp only [exC7, List.mem_cons, List.not_mem_nil, or_false] at hc
    rcases hc with rfl | rfl
    · exact ⟨by decide, fun q hq => HLA.out q (by simp at hq ⊢; rcases hq with h | h <;> simp [h])⟩
    · exact ⟨by decide, fun q hq => HLA.out q (by simp at hq ⊢; rcases hq with h | h <;> simp [h])⟩)
  refine wp_region_mid (sF (.slice a13 2 c13) (.slice a15 2 c15)) (by kernel_rfl) (sF_step _ _) (hdst_of (by kernel_rfl)) (hin_of (by kernel_rfl)) (hacyc_of (by kernel_rfl)) ?hs ?he
  case he =>
    intro listed a' w' H hall
    have hdn := H.done 24 _ 0 rfl (hall 24 (by decide)) rfl
    have hb := mkHid H.below
    have hdf := H.defers
    have hts := H.tsize
    clear H
    obtain ⟨t, df⟩ := a'
    obtain ⟨x0, x1, x2, x3, x4, x5, x6, x7, x8, x9, x10, x11, x12, x13, x14, x15, x16, x17, x18, x19, x20, x21, x22, x23, x24, x25, x26, x27, x28, x29, x30, x31, x32, x33, x34, x35, x36, x37, x38, x39, x40, x41, x42, x43, x44, x45, x46, x47, x48, x49, x50, x51, x52, x53, x54, x55, x56, x57, x58, x59, x60, x61, x62, x63, x64, x65, x66, x67, x68, x69, x70, x71, rfl⟩ := arr72 t hts
    have hdf' : df = [] := hdf
    subst hdf'
    have h0 : x0 = .bool true := hdn
    subst h0
    clear hdn hdf hts
    have BF := mkHid (B15.out.trans (hb.out.mono B15.out.size))
    go_wp2
    go_ret
    exact ⟨rfl, BF.out⟩
  case hs =>
    intro i o hi listed a' w' H hl
    have hl2 := after_listed hl
    have hb := mkHid H.below
    have e3 := H.same 3 (nodst_of (by kernel_rfl))
    have e4 := H.same 4 (nodst_of (by kernel_rfl))
    have e5 := H.same 5 (nodst_of (by kernel_rfl))
    have e6 := H.same 6 (nodst_of (by kernel_rfl))
    have e8 := H.same 8 (nodst_of (by kernel_rfl))
    have hdn := H.done
    have hdf := H.defers
    have hts := H.tsize
    clear hl
    obtain ⟨t, df⟩ := a'
    obtain ⟨x0, x1, x2, x3, x4, x5, x6, x7, x8, x9, x10, x11, x12, x13, x14, x15, x16, x17, x18, x19, x20, x21, x22, x23, x24, x25, x26, x27, x28, x29, x30, x31, x32, x33, x34, x35, x36, x37, x38, x39, x40, x41, x42, x43, x44, x45, x46, x47, x48, x49, x50, x51, x52, x53, x54, x55, x56, x57, x58, x59, x60, x61, x62, x63, x64, x65, x66, x67, x68, x69, x70, x71, rfl⟩ := arr72 t hts
    have hdf' : df = [] := hdf
    subst hdf'
    have e3' : x3 = .pointer (some ⟨A, 0, none⟩) := e3
    have e4' : x4 = .pointer (some ⟨AB, 0, none⟩) := e4
    have e5' : x5 = .pointer (some ⟨AC, 0, none⟩) := e5
    have e6' : x6 = .slice a13 2 c13 := e6
    have e8' : x8 = .slice a15 2 c15 := e8
    clear e3 e4 e5 e6 e8 hdf hts H
    subst e3' e4' e5' e6' e8'
    match i, hi with
    | 0, hi =>
      obtain rfl := Option.some.inj hi
      refine wpOp_list rfl ?_
      go_wp2_with fail
      exact postOf_normal ⟨_, rfl, Below.refl _ _, rfl⟩
    | 1, hi =>
      obtain rfl := Option.some.inj hi
      refine wpOp_list rfl ?_
      go_wp2_with fail
      refine (catom_any _ _ _ w').mono ?_
      rintro e w2 ⟨rfl, b2⟩
      go_wp2_with fail
      exact postOf_normal ⟨_, rfl, b2, rfl⟩
    | 2, hi =>
      obtain rfl := Option.some.inj hi
      have d1 : sF (.slice a13 2 c13) (.slice a15 2 c15) 1 w' x49 := hdn 1 _ 49 rfl (hl2 1 (by rfl)) rfl
      have y1 : x49 = atV sxa 3 := d1
      subst y1
      unfold atV
      refine wpOp_list rfl ?_
      go_wp2_with fail
      exact postOf_normal ⟨_, rfl, (Below.refl _ _).alloc (Nat.le_refl _) _, ⟨_, rfl, kidR_new w' [exPD] [atL sxa 3] _ _ rfl rfl (fun w' P i p vs h1 h2 => by
        match i, h1, h2 with
        | 0, h1, h2 =>
          obtain rfl := Option.some.inj h1
          obtain rfl := Option.some.inj h2
          exact atL_pred rfl (by kernel_rfl)
        | i + 1, h1, h2 => simp at h1)⟩⟩
    | 3, hi =>
      obtain rfl := Option.some.inj hi
      have d2 : sF (.slice a13 2 c13) (.slice a15 2 c15) 2 w' x50 := hdn 2 _ 50 rfl (hl2 2 (by rfl)) rfl
      obtain ⟨g2, hg2, k2⟩ := d2
      subst hg2
      refine wpOp_list rfl ?_
      go_wp2_with fail
      exact postOf_normal ⟨_, rfl, Below.refl _ _, ⟨g2, rfl, k2⟩⟩
    | 4, hi =>
      obtain rfl := Option.some.inj hi
      have XW := mkHid (XA15.out.step hb.out)
      refine wpOp_list rfl ?_
      go_wp2_with (refine wpList_load_wanted (by rfl) 25 (.tmp 3) rfl A (by rfl) 25 #[.int .i64 0, .string ⟨#[120, 46, 97]⟩, .string ⟨#[]⟩, .int .i64 1, .slice none 0 0] (0, 0) _ XW.out Tryz.underlying25 rfl (inf_pred _ rfl) ?_)
      exact postOf_normal ⟨_, rfl, Below.refl _ _, rfl⟩
    | 5, hi =>
      obtain rfl := Option.some.inj hi
      have XW := mkHid (XB15.out.step hb.out)
      refine wpOp_list rfl ?_
      go_wp2_with (refine wpList_load_wanted (by rfl) 25 (.tmp 4) rfl AB (by rfl) 25 #[.int .i64 0, .string ⟨#[120, 46, 98]⟩, .string ⟨#[]⟩, .int .i64 2, .slice none 0 0] (0, 0) _ XW.out Tryz.underlying25 rfl (inf_pred _ rfl) ?_)
      exact postOf_normal ⟨_, rfl, Below.refl _ _, rfl⟩
    | 6, hi =>
      obtain rfl := Option.some.inj hi
      have XW := mkHid (XC15.out.step hb.out)
      refine wpOp_list rfl ?_
      go_wp2_with (refine wpList_load_wanted (by rfl) 25 (.tmp 5) rfl AC (by rfl) 25 #[.int .i64 0, .string ⟨#[120, 46, 99]⟩, .string ⟨#[]⟩, .int .i64 5, .slice none 0 0] (0, 0) _ XW.out Tryz.underlying25 rfl (inf_pred _ rfl) ?_)
      exact postOf_normal ⟨_, rfl, Below.refl _ _, rfl⟩
    | 7, hi =>
      obtain rfl := Option.some.inj hi
      have d4 : sF (.slice a13 2 c13) (.slice a15 2 c15) 4 w' x52 := hdn 4 _ 52 rfl (hl2 4 (by rfl)) rfl
      have d5 : sF (.slice a13 2 c13) (.slice a15 2 c15) 5 w' x53 := hdn 5 _ 53 rfl (hl2 5 (by rfl)) rfl
      have d6 : sF (.slice a13 2 c13) (.slice a15 2 c15) 6 w' x54 := hdn 6 _ 54 rfl (hl2 6 (by rfl)) rfl
      have y4 : x52 = atV sxa 1 := d4
      subst y4
      have y5 : x53 = atV sxb 2 := d5
      subst y5
      have y6 : x54 = atV sxc 5 := d6
      subst y6
      unfold atV
      refine wpOp_list rfl ?_
      go_wp2_with fail
      exact postOf_normal ⟨_, rfl, (Below.refl _ _).alloc (Nat.le_refl _) _, ⟨_, rfl, kidR_new w' [exPA, exPB, exPC] [atL sxa 1, atL sxb 2, atL sxc 5] _ _ rfl rfl (fun w' P i p vs h1 h2 => by
        match i, h1, h2 with
        | 0, h1, h2 =>
          obtain rfl := Option.some.inj h1
          obtain rfl := Option.some.inj h2
          exact atL_pred rfl (by kernel_rfl)
        | 1, h1, h2 =>
          obtain rfl := Option.some.inj h1
          obtain rfl := Option.some.inj h2
          exact atL_pred rfl (by kernel_rfl)
        | 2, h1, h2 =>
          obtain rfl := Option.some.inj h1
          obtain rfl := Option.some.inj h2
          exact atL_pred rfl (by kernel_rfl)
        | i + 3, h1, h2 => simp at h1)⟩⟩
    | 8, hi =>
      obtain rfl := Option.some.inj hi
      have d7 : sF (.slice a13 2 c13) (.slice a15 2 c15) 7 w' x55 := hdn 7 _ 55 rfl (hl2 7 (by rfl)) rfl
      obtain ⟨g7, hg7, k7⟩ := d7
      subst hg7
      refine wpOp_list rfl ?_
      go_wp2_with fail
      exact postOf_normal ⟨_, rfl, Below.refl _ _, ⟨g7, rfl, k7⟩⟩
    | 9, hi =>
      obtain rfl := Option.some.inj hi
      have d3 : sF (.slice a13 2 c13) (.slice a15 2 c15) 3 w' x51 := hdn 3 _ 51 rfl (hl2 3 (by rfl)) rfl
      have d8 : sF (.slice a13 2 c13) (.slice a15 2 c15) 8 w' x56 := hdn 8 _ 56 rfl (hl2 8 (by rfl)) rfl
      obtain ⟨g3, hg3, k3⟩ := d3
      subst hg3
      obtain ⟨g8, hg8, k8⟩ := d8
      subst hg8
      refine wpOp_list rfl ?_
      go_wp2_with fail
      exact postOf_normal ⟨_, rfl, (Below.refl _ _).alloc (Nat.le_refl _) _, ⟨_, rfl, chsR_new w' ⟨1, [exPD]⟩ ⟨2, [exPA, exPB, exPC]⟩ g3 g8 _ k3 k8⟩⟩
    | 10, hi =>
      obtain rfl := Option.some.inj hi
      have d0 : sF (.slice a13 2 c13) (.slice a15 2 c15) 0 w' x48 := hdn 0 _ 48 rfl (hl2 0 (by rfl)) rfl
      have d9 : sF (.slice a13 2 c13) (.slice a15 2 c15) 9 w' x57 := hdn 9 _ 57 rfl (hl2 9 (by rfl)) rfl
      have y0 : x48 = .slice a13 2 c13 := d0
      subst y0
      obtain ⟨g9, hg9, k9⟩ := d9
      subst hg9
      have hc := mkHid (schoices_true w' exC6 a13 (some ⟨g9, 0, none⟩) 2 c13 2 rfl (by omega) HC6.out (C615.out.below hb.out) k9)
      refine wpOp_list rfl ?_
      go_wp2_with fail
      refine hc.out.mono ?_
      rintro e w2 ⟨rfl, b2⟩
      go_wp2_with fail
      exact postOf_normal ⟨_, rfl, b2, rfl⟩
    | 11, hi =>
      obtain rfl := Option.some.inj hi
      have d10 : sF (.slice a13 2 c13) (.slice a15 2 c15) 10 w' x58 := hdn 10 _ 58 rfl (hl2 10 (by rfl)) rfl
      have y10 : x58 = .bool true := d10
      subst y10
      refine wpOp_list rfl ?_
      go_wp2_with fail
      exact postOf_normal ⟨_, rfl, Below.refl _ _, rfl⟩
    | 12, hi =>
      obtain rfl := Option.some.inj hi
      have d11 : sF (.slice a13 2 c13) (.slice a15 2 c15) 11 w' x59 := hdn 11 _ 59 rfl (hl2 11 (by rfl)) rfl
      have y11 : x59 = .bool true := d11
      subst y11
      refine wpOp_list rfl ?_
      go_wp2_with fail
      exact postOf_normal ⟨_, rfl, Below.refl _ _, rfl⟩
    | 13, hi =>
      obtain rfl := Option.some.inj hi
      have d11 : sF (.slice a13 2 c13) (.slice a15 2 c15) 11 w' x59 := hdn 11 _ 59 rfl (hl2 11 (by rfl)) rfl
      have y11 : x59 = .bool true := d11
      subst y11
      have XW := mkHid (XA15.out.step hb.out)
      refine wpOp_list rfl ?_
      go_wp2_with (refine wpList_load_wanted (by rfl) 25 (.tmp 3) rfl A (by rfl) 25 #[.int .i64 0, .string ⟨#[120, 46, 97]⟩, .string ⟨#[]⟩, .int .i64 1, .slice none 0 0] (0, 0) _ XW.out Tryz.underlying25 rfl (inf_pred _ rfl) ?_)
      exact postOf_normal ⟨_, rfl, Below.refl _ _, rfl⟩
    | 14, hi =>
      obtain rfl := Option.some.inj hi
      have d11 : sF (.slice a13 2 c13) (.slice a15 2 c15) 11 w' x59 := hdn 11 _ 59 rfl (hl2 11 (by rfl)) rfl
      have y11 : x59 = .bool true := d11
      subst y11
      have XW := mkHid (XC15.out.step hb.out)
      refine wpOp_list rfl ?_
      go_wp2_with (refine wpList_load_wanted (by rfl) 25 (.tmp 5) rfl AC (by rfl) 25 #[.int .i64 0, .string ⟨#[120, 46, 99]⟩, .string ⟨#[]⟩, .int .i64 5, .slice none 0 0] (0, 0) _ XW.out Tryz.underlying25 rfl (inf_pred _ rfl) ?_)
      exact postOf_normal ⟨_, rfl, Below.refl _ _, rfl⟩
    | 15, hi =>
      obtain rfl := Option.some.inj hi
      have d11 : sF (.slice a13 2 c13) (.slice a15 2 c15) 11 w' x59 := hdn 11 _ 59 rfl (hl2 11 (by rfl)) rfl
      have d13 : sF (.slice a13 2 c13) (.slice a15 2 c15) 13 w' x61 := hdn 13 _ 61 rfl (hl2 13 (by rfl)) rfl
      have d14 : sF (.slice a13 2 c13) (.slice a15 2 c15) 14 w' x62 := hdn 14 _ 62 rfl (hl2 14 (by rfl)) rfl
      have y11 : x59 = .bool true := d11
      subst y11
      have y13 : x61 = atV sxa 1 := d13
      subst y13
      have y14 : x62 = atV sxc 5 := d14
      subst y14
      unfold atV
      refine wpOp_list rfl ?_
      go_wp2_with fail
      exact postOf_normal ⟨_, rfl, (Below.refl _ _).alloc (Nat.le_refl _) _, ⟨_, rfl, kidR_new w' [exPA, exPC] [atL sxa 1, atL sxc 5] _ _ rfl rfl (fun w' P i p vs h1 h2 => by
        match i, h1, h2 with
        | 0, h1, h2 =>
          obtain rfl := Option.some.inj h1
          obtain rfl := Option.some.inj h2
          exact atL_pred rfl (by kernel_rfl)
        | 1, h1, h2 =>
          obtain rfl := Option.some.inj h1
          obtain rfl := Option.some.inj h2
          exact atL_pred rfl (by kernel_rfl)
        | i + 2, h1, h2 => simp at h1)⟩⟩
    | 16, hi =>
      obtain rfl := Option.some.inj hi
      have d11 : sF (.slice a13 2 c13) (.slice a15 2 c15) 11 w' x59 := hdn 11 _ 59 rfl (hl2 11 (by rfl)) rfl
      have d15 : sF (.slice a13 2 c13) (.slice a15 2 c15) 15 w' x63 := hdn 15 _ 63 rfl (hl2 15 (by rfl)) rfl
      have y11 : x59 = .bool true := d11
      subst y11
      obtain ⟨g15, hg15, k15⟩ := d15
      subst hg15
      refine wpOp_list rfl ?_
      go_wp2_with fail
      exact postOf_normal ⟨_, rfl, Below.refl _ _, ⟨g15, rfl, k15⟩⟩
    | 17, hi =>
      obtain rfl := Option.some.inj hi
      have d11 : sF (.slice a13 2 c13) (.slice a15 2 c15) 11 w' x59 := hdn 11 _ 59 rfl (hl2 11 (by rfl)) rfl
      have y11 : x59 = .bool true := d11
      subst y11
      have XW := mkHid (XB15.out.step hb.out)
      refine wpOp_list rfl ?_
      go_wp2_with (refine wpList_load_wanted (by rfl) 25 (.tmp 4) rfl AB (by rfl) 25 #[.int .i64 0, .string ⟨#[120, 46, 98]⟩, .string ⟨#[]⟩, .int .i64 2, .slice none 0 0] (0, 0) _ XW.out Tryz.underlying25 rfl (inf_pred _ rfl) ?_)
      exact postOf_normal ⟨_, rfl, Below.refl _ _, rfl⟩
    | 18, hi =>
      obtain rfl := Option.some.inj hi
      have d11 : sF (.slice a13 2 c13) (.slice a15 2 c15) 11 w' x59 := hdn 11 _ 59 rfl (hl2 11 (by rfl)) rfl
      have y11 : x59 = .bool true := d11
      subst y11
      have XW := mkHid (XC15.out.step hb.out)
      refine wpOp_list rfl ?_
      go_wp2_with (refine wpList_load_wanted (by rfl) 25 (.tmp 5) rfl AC (by rfl) 25 #[.int .i64 0, .string ⟨#[120, 46, 99]⟩, .string ⟨#[]⟩, .int .i64 5, .slice none 0 0] (0, 0) _ XW.out Tryz.underlying25 rfl (inf_pred _ rfl) ?_)
      exact postOf_normal ⟨_, rfl, Below.refl _ _, rfl⟩
    | 19, hi =>
      obtain rfl := Option.some.inj hi
      have d11 : sF (.slice a13 2 c13) (.slice a15 2 c15) 11 w' x59 := hdn 11 _ 59 rfl (hl2 11 (by rfl)) rfl
      have d17 : sF (.slice a13 2 c13) (.slice a15 2 c15) 17 w' x65 := hdn 17 _ 65 rfl (hl2 17 (by rfl)) rfl
      have d18 : sF (.slice a13 2 c13) (.slice a15 2 c15) 18 w' x66 := hdn 18 _ 66 rfl (hl2 18 (by rfl)) rfl
      have y11 : x59 = .bool true := d11
      subst y11
      have y17 : x65 = atV sxb 2 := d17
      subst y17
      have y18 : x66 = atV sxc 5 := d18
      subst y18
      unfold atV
      refine wpOp_list rfl ?_
      go_wp2_with fail
      exact postOf_normal ⟨_, rfl, (Below.refl _ _).alloc (Nat.le_refl _) _, ⟨_, rfl, kidR_new w' [exPB, exPC] [atL sxb 2, atL sxc 5] _ _ rfl rfl (fun w' P i p vs h1 h2 => by
        match i, h1, h2 with
        | 0, h1, h2 =>
          obtain rfl := Option.some.inj h1
          obtain rfl := Option.some.inj h2
          exact atL_pred rfl (by kernel_rfl)
        | 1, h1, h2 =>
          obtain rfl := Option.some.inj h1
          obtain rfl := Option.some.inj h2
          exact atL_pred rfl (by kernel_rfl)
        | i + 2, h1, h2 => simp at h1)⟩⟩
    | 20, hi =>
      obtain rfl := Option.some.inj hi
      have d11 : sF (.slice a13 2 c13) (.slice a15 2 c15) 11 w' x59 := hdn 11 _ 59 rfl (hl2 11 (by rfl)) rfl
      have d19 : sF (.slice a13 2 c13) (.slice a15 2 c15) 19 w' x67 := hdn 19 _ 67 rfl (hl2 19 (by rfl)) rfl
      have y11 : x59 = .bool true := d11
      subst y11
      obtain ⟨g19, hg19, k19⟩ := d19
      subst hg19
      refine wpOp_list rfl ?_
      go_wp2_with fail
      exact postOf_normal ⟨_, rfl, Below.refl _ _, ⟨g19, rfl, k19⟩⟩
    | 21, hi =>
      obtain rfl := Option.some.inj hi
      have d11 : sF (.slice a13 2 c13) (.slice a15 2 c15) 11 w' x59 := hdn 11 _ 59 rfl (hl2 11 (by rfl)) rfl
      have d16 : sF (.slice a13 2 c13) (.slice a15 2 c15) 16 w' x64 := hdn 16 _ 64 rfl (hl2 16 (by rfl)) rfl
      have d20 : sF (.slice a13 2 c13) (.slice a15 2 c15) 20 w' x68 := hdn 20 _ 68 rfl (hl2 20 (by rfl)) rfl
      have y11 : x59 = .bool true := d11
      subst y11
      obtain ⟨g16, hg16, k16⟩ := d16
      subst hg16
      obtain ⟨g20, hg20, k20⟩ := d20
      subst hg20
      refine wpOp_list rfl ?_
      go_wp2_with fail
      exact postOf_normal ⟨_, rfl, (Below.refl _ _).alloc (Nat.le_refl _) _, ⟨_, rfl, chsR_new w' ⟨1, [exPA, exPC]⟩ ⟨1, [exPB, exPC]⟩ g16 g20 _ k16 k20⟩⟩
    | 22, hi =>
      obtain rfl := Option.some.inj hi
      have d11 : sF (.slice a13 2 c13) (.slice a15 2 c15) 11 w' x59 := hdn 11 _ 59 rfl (hl2 11 (by rfl)) rfl
      have d12 : sF (.slice a13 2 c13) (.slice a15 2 c15) 12 w' x60 := hdn 12 _ 60 rfl (hl2 12 (by rfl)) rfl
      have d21 : sF (.slice a13 2 c13) (.slice a15 2 c15) 21 w' x69 := hdn 21 _ 69 rfl (hl2 21 (by rfl)) rfl
      have y11 : x59 = .bool true := d11
      subst y11
      have y12 : x60 = .slice a15 2 c15 := d12
      subst y12
      obtain ⟨g21, hg21, k21⟩ := d21
      subst hg21
      have hc := mkHid (schoices_true w' exC7 a15 (some ⟨g21, 0, none⟩) 2 c15 2 rfl (by omega) HC7.out (C7.out.below hb.out) k21)
      refine wpOp_list rfl ?_
      go_wp2_with fail
      refine hc.out.mono ?_
      rintro e w2 ⟨rfl, b2⟩
      go_wp2_with fail
      exact postOf_normal ⟨_, rfl, b2, rfl⟩
    | 23, hi =>
      obtain rfl := Option.some.inj hi
      have d11 : sF (.slice a13 2 c13) (.slice a15 2 c15) 11 w' x59 := hdn 11 _ 59 rfl (hl2 11 (by rfl)) rfl
      have d22 : sF (.slice a13 2 c13) (.slice a15 2 c15) 22 w' x70 := hdn 22 _ 70 rfl (hl2 22 (by rfl)) rfl
      have y11 : x59 = .bool true := d11
      subst y11
      have y22 : x70 = .bool true := d22
      subst y22
      refine wpOp_list rfl ?_
      go_wp2_with fail
      exact postOf_normal ⟨_, rfl, Below.refl _ _, rfl⟩
    | 24, hi =>
      obtain rfl := Option.some.inj hi
      have d23 : sF (.slice a13 2 c13) (.slice a15 2 c15) 23 w' x71 := hdn 23 _ 71 rfl (hl2 23 (by rfl)) rfl
      have y23 : x71 = .bool true := d23
      subst y23
      refine wpOp_list rfl ?_
      go_wp2_with fail
      exact postOf_normal ⟨_, rfl, Below.refl _ _, rfl⟩
    | i + 25, hi => simp at hi
end Go.Proofs.YtmkdfbelbcocpaaGreatDoor
