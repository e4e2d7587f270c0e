/- The names of predicates (walk of ask.names). The exported Names and Negate; names compared; the law's bound on binds (walks). Predicates that came in and are short; the count of nodes (plain). No program in sight. The walk of AskNegates (printed by wip/tools/genneg.py). -/
import Derived.Test.YtmkdfbelbcocpaaGreatDoorS26
import Derived.Test.YtmkdfbelbcocpaaGreatDoorIter
import Derived.Test.YtmkdfbelbcocpaaGreatDoorS25
set_option linter.unusedVariables false
set_option linter.unusedSimpArgs false
namespace Go.Proofs.YtmkdfbelbcocpaaGreatDoor
open Go.RowKit Go.Sort Go.Maps
/-- Predicates that lie one behind the other. -/
def PrdsR (w : World) (P : Nat → Prop) (l : List Prd) (ao : Option Addr) : Prop := l = [] ∨ ∃ g off, ao = some ⟨g, off, none⟩ ∧ P g ∧ g < w.heap.size ∧ KidsC w P l g off
def nmsOf (ks : List Ky) : List (List Nat) := ks.flatMap nmsK
theorem nmsOf_take (ks : List Ky) (j : Nat) (k : Ky) (h : ks[j]? = some k) : nmsOf (ks.take (j + 1)) = nmsOf (ks.take j) ++ [k.l] ++ [k.r] := by
  unfold nmsOf
  rw [List.take_add_one, h, List.flatMap_append]
  simp [nmsK]
theorem atoms_take (l : List Prd) (i : Nat) (q : Prd) (h : l[i]? = some q) : nmsOf ((l.take (i + 1)).flatMap atomsP) = nmsOf ((l.take i).flatMap atomsP) ++ nmsOf (atomsP q) := by
  unfold nmsOf
  rw [List.take_add_one, h, List.flatMap_append, List.flatMap_append]
  simp
theorem nmsOf_len (ks : List Ky) : (nmsOf ks).length = 2 * ks.length := by
  unfold nmsOf
  induction ks with
  | nil => rfl
  | cons k ks ih => rw [List.flatMap_cons, List.length_append, ih]; simp [nmsK]; omega
theorem nmsL_eq (ks : List Ky) (x : List Nat) : x ∈ nmsL ks ↔ x ∈ (nmsOf ks).filter (fun s => s != []) := by
  rw [nmsL_mem, List.mem_filter]
  simp [nmsOf, nmsK, List.mem_flatMap, and_comm]
def strV (s : List Nat) : Value := .string (strN s)
set_option maxHeartbeats 16000000 in
set_option maxRecDepth 100000 in
theorem asknames_any (l : List Prd) (w : World) (P : Nat → Prop) (ao : Option Addr) (n cap : Nat) (hn : n = l.length) (hl : PrdsR w P l ao) (hf : ∀ q ∈ l, formP q = true) (hc : ∀ q ∈ l, cntP q ≤ 1000000) (hbig : (l.flatMap atomsP).length ≤ 1000000) (hnb : n ≤ 1000000) :
    Calls Tryz.prog 120 #[.slice ao n cap] w fun e w' => ∃ (ro : Option Addr) (rc : Nat), e = .returned (.slice ro (nmsL (l.flatMap atomsP)).length rc) ∧ OwnK w' w.heap.size 1 (nmsL (l.flatMap atomsP)).length rc ((nmsL (l.flatMap atomsP)).map strV) ro ∧ RowKit.Below w.heap.size w w' := by
  have HL := mkHid hl
  have HN := mkHid hn
  have HF := mkHid hf
  have HC := mkHid hc
  have HBG := mkHid hbig
  have HFK := mkHid (fun (q : Prd) (hq : q ∈ l) (k : Ky) (hk : k ∈ atomsP q) => form_keys q (hf q hq) k ((atomsP_mem q k).1 hk))
  have HSO : Hid (∀ s ∈ nmsOf (l.flatMap atomsP), NmOk s) := mkHid (fun s hs => by
    unfold nmsOf at hs
    obtain ⟨k, hk, hs⟩ := List.mem_flatMap.1 hs
    obtain ⟨q, hq, hk⟩ := List.mem_flatMap.1 hk
    have hko := HFK.out q hq k hk
    simp only [nmsK, List.mem_cons, List.not_mem_nil, or_false] at hs
    rcases hs with rfl | rfl
    · exact nmOk_l hko
    · exact nmOk_r hko)
  have bx := (RowKit.Below.refl w.heap.size w).alloc (Nat.le_refl _) (.map #[] 0)
  have BX := mkHid bx
  have QX : Hid (SetN (w.alloc (.map #[] 0)) w.heap.size []) := mkHid (SetN.nil w)
  clear hl hn hf hc hbig bx
  have hmm := @run_makeMap Tryz.prog
  go_enter Tryz.func120, Tryz.ntmps120
  go_upto_region 2 with (fail)
  clear hmm
  generalize hwx : w.alloc (.map #[] 0) = wx at *
  clear hwx
  go_wp2_with fail
  have S0 : Hid (SetN wx w.heap.size (nmsOf ((l.take 0).flatMap atomsP))) := mkHid QX.out
  have O0 : Hid (Only wx wx (· = w.heap.size)) := mkHid (Only.refl _ _)
  clear QX
  have HXX := mkHid (fun (W : World) (hW : Only wx W (· = w.heap.size)) => Only.later (RowKit.Below.refl w.heap.size w) (Only.trans (Only.of_below (p := fun g => w.heap.size ≤ g) BX.out) (hW.mono (fun g _ hg => by rw [hg]; exact Nat.le_refl _))) (fun g hg => hg))
  have HLB : Hid (l = [] ∨ ∃ g off, ao = some ⟨g, off, none⟩ ∧ g < w.heap.size ∧ ∀ W, Only wx W (· = w.heap.size) → KidsC W (fun g => g < w.heap.size) l g off ∧ w.heap.size < W.heap.size) := mkHid (by
    rcases HL.out with h | ⟨g, off, h1, h2, h3, h4⟩
    · exact .inl h
    · refine .inr ⟨g, off, h1, h3, fun W hW => ⟨?_, ?_⟩⟩
      · have hbx := BX.out
        have hall : ∀ x, x < w.heap.size → W.heap[x]? = w.heap[x]? := fun x hx => (hW.block x (Nat.lt_of_lt_of_le hx hbx.size) (by omega)).trans (hbx.block x hx)
        exact KidsC.keep (fun x _ hx => hall x hx) (Nat.le_trans hbx.size hW.size) (fun x _ hx => hx) l g off h2 h3 h4
      · have := S0.out.lt
        exact Nat.lt_of_lt_of_le this hW.size)
  clear HL
  generalize hb : w.heap.size = b at *
  go_loopw [11] (fun cc wr => ∃ (i : Nat), cc = .int .i64 i ∧ i ≤ n ∧ Hid (SetN wr b (nmsOf ((l.take i).flatMap atomsP))) ∧ Hid (Only wx wr (· = b))) (fun c _ => (n - intOf c).toNat)
  case atStart => exact ⟨0, rfl, by omega, S0, O0⟩
  case round =>
    clear S0 O0
    obtain ⟨i, rfl, hi, hq, ho⟩ := hrel
    have e2 : IntKind.i64.wrap ((i : Int) + 1) = ((i + 1 : Nat) : Int) := IntWalk.i64_in _ (by omega)
    by_cases hlt : i < n
    · have ii : (i : Int) < n := by omega
      have HQ : Hid (∃ q, l[i]? = some q ∧ ∃ g off, ao = some ⟨g, off, none⟩ ∧ ∃ vs, PredC wr (fun g => g < b) q vs ∧ Reads wr g (off + i * 5) vs) := mkHid (by
        have hll : i < l.length := by rw [← HN.out]; exact hlt
        refine ⟨l[i], List.getElem?_eq_getElem hll, ?_⟩
        rcases HLB.out with h | ⟨g, off, h1, h3, h4⟩
        · rw [h] at hll; exact absurd hll (Nat.not_lt_zero _)
        · obtain ⟨vs, hv1, hv2⟩ := KidsC.at l g off i _ (List.getElem?_eq_getElem hll) (h4 wr ho.out).1
          exact ⟨g, off, h1, vs, hv1, hv2⟩)
      obtain ⟨q, hqi, gk, off, hao, vs, hpc, hrd⟩ := HQ.out
      clear HQ
      have HQM := mkHid (List.mem_of_getElem? hqi)
      have HTK := mkHid (atoms_take l i q hqi)
      obtain ⟨xa, xn, xc, hvf, -⟩ := hpc.form
      rw [hvf] at hrd hpc
      have PC := mkHid hpc
      have s0 := hrd 0 _ rfl
      have s1 := hrd 1 _ rfl
      have s2 := hrd 2 _ rfl
      have s3 := hrd 3 _ rfl
      have s4 := hrd 4 _ rfl
      rw [Nat.add_zero] at s0
      have HAO := mkHid hao
      have HAT := mkHid (fun W (hW : PredC W (fun g => g < b) q [.int .i64 q.k, .string (strN q.l), .string (strN q.r), .int .i64 q.c, .slice xa xn xc]) => atoms_any W (fun g => g < b) q _ hW (HF.out q HQM.out) (HC.out q HQM.out))
      have HKF := mkHid (HFK.out q HQM.out)
      have HLN : Hid ((nmsOf ((l.take i).flatMap atomsP)).length + 2 * (atomsP q).length ≤ 2000000) := mkHid (by
        have e1 := congrArg List.length HTK.out
        rw [List.length_append, nmsOf_len (atomsP q)] at e1
        rw [← e1, nmsOf_len]
        have : ((l.take (i + 1)).flatMap atomsP).length ≤ (l.flatMap atomsP).length := by
          conv => rhs; rw [← List.take_append_drop (i + 1) l, List.flatMap_append, List.length_append]
          omega
        have := HBG.out
        omega)
      have HSS : Hid (∀ s ∈ nmsOf ((l.take i).flatMap atomsP), NmOk s) := mkHid (fun s hs => HSO.out s (by
        unfold nmsOf at hs ⊢
        obtain ⟨k, hk, hs⟩ := List.mem_flatMap.1 hs
        obtain ⟨p, hp, hk⟩ := List.mem_flatMap.1 hk
        exact List.mem_flatMap.2 ⟨k, List.mem_flatMap.2 ⟨p, List.mem_of_mem_take hp, hk⟩, hs⟩))
      clear hrd hpc hvf vs hqi
      subst hao
      generalize q.k = q0 at *
      generalize strN q.l = q1 at *
      generalize strN q.r = q2 at *
      generalize q.c = q3 at *
      obtain ⟨S, hS⟩ : ∃ S, nmsOf ((l.take i).flatMap atomsP) = S := ⟨_, rfl⟩
      rw [hS] at HTK HLN HSS hq
      clear hS
      have bx := (RowKit.Below.refl wr.heap.size wr).alloc (Nat.le_refl _) (.cells #[.int .i64 q0, .string q1, .string q2, .int .i64 q3, .slice xa xn xc] 25)
      have Y1 : Hid (HasV (wr.alloc (.cells #[.int .i64 q0, .string q1, .string q2, .int .i64 q3, .slice xa xn xc] 25)) wr.heap.size 25 [.int .i64 q0, .string q1, .string q2, .int .i64 q3, .slice xa xn xc]) := mkHid (heap_alloc_new _ _)
      have PX := mkHid (PC.out.below bx)
      have hq1 := mkHid (hq.out.step bx)
      have ho1 := mkHid (ho.out.step bx)
      have hbl : Hid (b < wr.heap.size) := mkHid hq.out.lt
      clear bx PC hq ho
      go_upto_region 5 with (fail)
      clear s0 s1 s2 s3 s4
      generalize wr.alloc (.cells #[.int .i64 q0, .string q1, .string q2, .int .i64 q3, .slice xa xn xc] 25) = wy at *
      go_wp2_with (refine wpList_load_row rfl 25 (.tmp 5) rfl wr.heap.size ?x1 25 #[.int .i64 q0, .string q1, .string q2, .int .i64 q3, .slice xa xn xc] (0, 0) _ Y1.out Tryz.underlying25 rfl (inf_pred _ rfl) ?_; (case x1 => rfl))
      refine (HAT.out wy PX.out).mono ?_
      rintro e w3 ⟨ak, ck, rfl, hok, b3⟩
      have hq3 := mkHid (hq1.out.step b3)
      have ho3 := mkHid (ho1.out.step b3)
      have K3 := mkHid (hok.keysR rfl)
      have KB3 : Hid (∀ g, blk ak = some g → b < g) := mkHid (fun g hg => Nat.lt_of_lt_of_le (Nat.lt_of_lt_of_le hbl.out (Nat.le_of_lt Y1.out.lt)) (hok.blk_lt hg).1)
      clear b3 hok HAT PX hq1 ho1 Y1
      obtain ⟨ks, hks⟩ : ∃ ks, atomsP q = ks := ⟨_, rfl⟩
      rw [hks] at HTK HLN K3 HKF
      rw [hks]
      clear hks
      obtain ⟨m, hm⟩ : ∃ m, ks.length = m := ⟨_, rfl⟩
      have HM := mkHid hm
      rw [hm] at HLN
      rw [hm]
      clear hm
      have hlen := HLN.out
      have Z0 : Hid (SetN w3 b (S ++ nmsOf (ks.take 0))) := mkHid (by have := hq3.out; rwa [show nmsOf (ks.take 0) = [] from rfl, List.append_nil])
      have Z1 : Hid (Only w3 w3 (· = b)) := mkHid (Only.refl _ _)
      go_wp2_with fail
      go_loopw [18] (fun cc wr => ∃ (j : Nat), cc = .int .i64 j ∧ j ≤ m ∧ Hid (SetN wr b (S ++ nmsOf (ks.take j))) ∧ Hid (Only w3 wr (· = b))) (fun c _ => (m - intOf c).toNat)
      case atStart => exact ⟨0, rfl, by omega, Z0, Z1⟩
      case round =>
        clear Z0 Z1
        obtain ⟨j, rfl, hj, hz, hy⟩ := hrel
        have e3 : IntKind.i64.wrap ((j : Int) + 1) = ((j + 1 : Nat) : Int) := IntWalk.i64_in _ (by omega)
        by_cases hjl : j < m
        · have jj : (j : Int) < m := by omega
          have HQ : Hid (∃ k, ks[j]? = some k) := mkHid (by
            have hl : j < ks.length := by rw [HM.out]; exact hjl
            exact ⟨ks[j], List.getElem?_eq_getElem hl⟩)
          obtain ⟨k, hki⟩ := HQ.out
          clear HQ
          have HTJ := mkHid (nmsOf_take ks j k hki)
          have HKO := mkHid (HKF.out k (List.mem_of_getElem? hki))
          have HKR : Hid (KeysR wr ak ks) := mkHid (by
            rcases K3.out with h | ⟨g, o, h1, h2, h3⟩
            · exact .inl h
            · have := KB3.out g (by rw [h1]; rfl)
              exact .inr ⟨g, o, h1, Nat.lt_of_lt_of_le h2 hy.out.size, h3.of_block (hy.out.block g h2 (by omega))⟩)
          obtain ⟨g, o, hak, hg, s0, s1, s2⟩ := HKR.out.at j k hki
          have HAK := mkHid hak
          have HSJ : Hid (∀ s ∈ S ++ nmsOf (ks.take j), NmOk s) := mkHid (fun s hs => by
            rcases List.mem_append.1 hs with hs | hs
            · exact HSS.out s hs
            · unfold nmsOf at hs
              obtain ⟨x, hx, hs⟩ := List.mem_flatMap.1 hs
              have hko := HKF.out x (List.mem_of_mem_take hx)
              simp only [nmsK, List.mem_cons, List.not_mem_nil, or_false] at hs
              rcases hs with rfl | rfl
              · exact nmOk_l hko
              · exact nmOk_r hko)
          have HL1 : Hid ((S ++ nmsOf (ks.take j)).length < maxLen) := mkHid (by
            rw [List.length_append, nmsOf_len, List.length_take]
            have : min j ks.length ≤ m := by rw [HM.out]; exact Nat.min_le_right _ _
            exact Nat.lt_of_le_of_lt (show _ ≤ 2000000 by omega) (by decide))
          have HL2 : Hid ((S ++ nmsOf (ks.take j) ++ [k.l]).length < maxLen) := mkHid (by
            rw [List.length_append, List.length_append, nmsOf_len, List.length_take]
            have : min j ks.length ≤ m := by rw [HM.out]; exact Nat.min_le_right _ _
            exact Nat.lt_of_le_of_lt (show _ ≤ 2000001 by simp; omega) (by decide))
          have HKL := mkHid (keyOf_nm k.l (nmOk_l HKO.out))
          have HKR2 := mkHid (keyOf_nm k.r (nmOk_r HKO.out))
          clear hki HKR hg
          subst hak
          generalize hyl : strN k.l = y1 at *
          generalize hyr : strN k.r = y2 at *
          generalize k.c = y3 at *
          have bx := (RowKit.Below.refl wr.heap.size wr).alloc (Nat.le_refl _) (.cells #[.string y1, .string y2, .int .i64 y3] 123)
          have Y1 : Hid (HasV (wr.alloc (.cells #[.string y1, .string y2, .int .i64 y3] 123)) wr.heap.size 123 [.string y1, .string y2, .int .i64 y3]) := mkHid (heap_alloc_new _ _)
          have hz1 := mkHid (hz.out.step bx)
          have hy1 := mkHid (hy.out.step bx)
          have hbn : Hid (b < wr.heap.size) := mkHid hz.out.lt
          clear bx hz hy hyl hyr
          go_upto_region 8 with (fail)
          clear s0 s1 s2
          generalize wr.alloc (.cells #[.string y1, .string y2, .int .i64 y3] 123) = wk at *
          refine wp_region_pickS [0, 1, 2, 3, 4, 5] [6, 7] (fun w' => HasV w' wr.heap.size 123 [.string y1, .string y2, .int .i64 y3]) (by kernel_rfl) (by kernel_rfl) (by kernel_rfl) (fun _ _ d _ _ h => by cases d <;> exact h) Y1.out ?_
          simp only [pickI, List.filterMap_cons, List.filterMap_nil, List.getElem?_cons_zero, List.getElem?_cons_succ, Option.map_some, List.map_cons, List.map_nil]
          apply Exists.intro
          refine ⟨?hh, ?ht⟩
          case hh =>
            intro w' hw'
            have c0 := hw'.cell 0 _ rfl
            have c1 := hw'.cell 1 _ rfl
            clear hw'
            repeat still_step
            exact wpStill_nil rfl
          case ht =>
            have BD := (RowKit.Below.refl wk.heap.size wk).drew
            have Y2 := mkHid (Y1.out.step BD)
            have hz2 := mkHid (hz1.out.step BD)
            have hy2 := mkHid (hy1.out.step BD)
            clear BD Y1 hz1 hy1
            generalize wk.drew = wd at *
            refine wpTailS_cons ?_
            obtain ⟨D, hown, hh, ha⟩ := hz2.out
            have HH := mkHid hh
            have HA := mkHid ha
            have HO := mkHid hown
            clear hh ha hown
            go_wp2_with (at_mapUpdate; refine wpList_mapUpdate_own _ rfl (.tmp 22) (.tmp 24) _ 195 rfl 9 4 nmLaw Tryz.underlying195 (plainElem Tryz.prog 4) b (S ++ nmsOf (ks.take j)).length D rfl HO.out HL1.out (.string y1) (.bool true) (litN k.l) rfl rfl HKL.out (.lit (.bool true)) [] (plainElem_bool Tryz.underlying4 true) ?_; intro w6 hown6 hgrow6; have hz6 := mkHid (SetN.put k.l (nmOk_l HKO.out) HO.out HH.out HA.out hown6); have hy6 := mkHid (hy2.out.trans (only_of_grown hgrow6)); have Y6 := mkHid (Y2.out.grownBy hgrow6 (by intro e; have := hbn.out; have := Option.some.inj e; omega)); clear hown6 hgrow6)
            clear HO HH HA hz2 hy2 Y2
            refine postOf_normal ⟨Y6.out, ?_⟩
            refine wpTailS_cons ?_
            obtain ⟨D, hown, hh, ha⟩ := hz6.out
            have HH := mkHid hh
            have HA := mkHid ha
            have HO := mkHid hown
            clear hh ha hown
            go_wp2_with (at_mapUpdate; refine wpList_mapUpdate_own _ rfl (.tmp 25) (.tmp 27) _ 195 rfl 9 4 nmLaw Tryz.underlying195 (plainElem Tryz.prog 4) b (S ++ nmsOf (ks.take j) ++ [k.l]).length D rfl HO.out HL2.out (.string y2) (.bool true) (litN k.r) rfl rfl HKR2.out (.lit (.bool true)) [] (plainElem_bool Tryz.underlying4 true) ?_; intro w7 hown7 hgrow7; have hz7 := mkHid (SetN.put k.r (nmOk_r HKO.out) HO.out HH.out HA.out hown7); have hy7 := mkHid (hy6.out.trans (only_of_grown hgrow7)); have Y7 := mkHid (Y6.out.grownBy hgrow7 (by intro e; have := hbn.out; have := Option.some.inj e; omega)); clear hown7 hgrow7)
            clear HO HH HA hz6 hy6 Y6
            refine postOf_normal ⟨Y7.out, ?_⟩
            unfold wpTailS
            have hz8 : Hid (SetN w7 b (S ++ nmsOf (ks.take (j + 1)))) := mkHid (by have := hz7.out; rwa [HTJ.out, ← List.append_assoc, ← List.append_assoc])
            clear hz7 Y7
            go_wp2
            go_roundw
            case rel => exact ⟨j + 1, by go_num, by omega, hz8, hy7⟩
            case measure => simp only [intOf]; omega
        · have jj : ¬ ((j : Int) < m) := by omega
          have hz9 : Hid (SetN wr b (nmsOf ((l.take (i + 1)).flatMap atomsP))) := mkHid (by
            have := hz.out
            rwa [HTK.out, ← show ks.take j = ks from List.take_of_length_le (by rw [HM.out]; omega)])
          have hy9 := mkHid (ho3.out.trans hy.out)
          clear hz hy hq3 ho3 K3
          go_wp2
          go_roundw
          case rel => exact ⟨i + 1, by go_num, by omega, hz9, hy9⟩
          case measure => simp only [intOf]; omega
    · have ii : ¬ ((i : Int) < n) := by omega
      have HQE : Hid (SetN wr b (nmsOf (l.flatMap atomsP))) := mkHid (by
        have := hq.out
        rwa [show l.take i = l from List.take_of_length_le (by rw [← HN.out]; omega)] at this)
      clear hq
      have HZE := mkHid (keyOf_nm [] nmOk_nil)
      obtain ⟨D, hown, hh, ha⟩ := HQE.out
      have HH := mkHid hh
      have HO := mkHid hown
      clear hh ha hown
      go_wp2_with (at_delete; refine wpList_delete_own _ rfl _ _ 195 9 rfl 4 nmLaw Tryz.underlying195 (plainElem Tryz.prog 4) b (nmsOf (l.flatMap atomsP)).length D rfl HO.out (.string ⟨#[]⟩) (litN []) rfl HZE.out ?_; intro w6 hown6 hturn6; have HO6 := mkHid hown6; have ho6 := mkHid (ho.out.trans (only_of_grown hturn6.grown)); clear hown6 hturn6)
      have HNS := mkHid (fun (ss : List (List UInt8)) (hp : ss.Perm (strKeys (D.del (litN [])))) => sorted_names HO6.out (nmsL (l.flatMap atomsP)) (fun s hs => HSO.out s (List.mem_filter.1 ((nmsL_eq _ s).1 hs)).1) (nmsL_asc _) (fun z => by
        rw [SetN.del [] HH.out HSO.out nmOk_nil z]
        constructor
        · rintro ⟨x, hx, hl⟩; exact ⟨x, (nmsL_eq _ x).2 hx, hl⟩
        · rintro ⟨x, hx, hl⟩; exact ⟨x, (nmsL_eq _ x).1 hx, hl⟩) ss hp)
      have HSZ : Hid (Maps.size (D.del (litN [])) ≤ 2000000) := mkHid (by
        have h1 := HO6.out.size_le
        rw [nmsOf_len] at h1
        have := HBG.out
        omega)
      have HMX : Hid (2000000 ≤ maxLen) := mkHid (by decide)
      have B6 := mkHid (hb ▸ HXX.out w6 ho6.out)
      clear HO HH ho
      go_wp2_with fail
      refine (callsIn_wide.1 (Tryz.maps_Keys_180 (some b) w6)).mono ?_
      rintro e w7 ⟨rfl, hw7⟩
      have HW7 := mkHid hw7
      clear hw7
      go_wp2_with fail
      have HS := mkHid (callsIn_wide.1 (Tryz.slices_Sorted_keys_179_180 b _ _ _ w6 HO6.out (Nat.le_trans HSZ.out HMX.out) (by have := HSZ.out; omega)))
      rw [← HW7.out] at HS
      refine HS.out.mono ?_
      rintro e w8 ⟨v, ss, rfl, hp, hrow, hnil, hb8⟩
      have h7 : RowKit.Below w6.heap.size w6 w7 := by rw [HW7.out]; exact (RowKit.Below.refl _ _).alloc (Nat.le_refl _) _
      have B7 := mkHid (B6.out.trans (h7.mono B6.out.size))
      have B8 := mkHid (B7.out.trans (hb8.mono B7.out.size))
      have HE := mkHid (HNS.out ss hp)
      have HR : Hid (∃ (ro : Option Addr) (rc : Nat), v = .slice ro (nmsL (l.flatMap atomsP)).length rc ∧ OwnK w8 w.heap.size 1 (nmsL (l.flatMap atomsP)).length rc ((nmsL (l.flatMap atomsP)).map strV) ro) := mkHid (by
        obtain ⟨e1, e2⟩ := HE.out
        rw [e1, e2] at hrow
        have e3 : ((nmsL (l.flatMap atomsP)).map byL).map encStr = (nmsL (l.flatMap atomsP)).map strV := by rw [List.map_map]; rfl
        rw [e3] at hrow
        by_cases h0 : (nmsL (l.flatMap atomsP)).length = 0
        · have hss : ss = [] := List.eq_nil_of_length_eq_zero (by rw [e2]; exact h0)
          have hn0 := List.eq_nil_of_length_eq_zero h0
          rw [hn0]
          exact ⟨none, 0, hnil.2 hss, .nil rfl rfl rfl⟩
        · obtain ⟨g, c, hv, ho, hl, hc1, hc2⟩ := OwnK.of_row hrow (by omega)
          exact ⟨some ⟨g, 0, none⟩, c, hv, (OwnK.at g 0 ho hl hc1 hc2).lower B7.out.size⟩)
      obtain ⟨ro, rc, hv, hO⟩ := HR.out
      have HOO := mkHid hO
      clear hrow hnil hb8 h7 hp hO HR
      subst hv
      go_wp2
      go_ret
      exact ⟨ro, rc, rfl, HOO.out, B8.out⟩
end Go.Proofs.YtmkdfbelbcocpaaGreatDoor
namespace Go.Proofs.YtmkdfbelbcocpaaGreatDoor
open Go.RowKit Go.Sort Go.Maps
def nmsV (p : Prd) : List (List Nat) := if validP p = true then namesP p else []
set_option maxHeartbeats 8000000 in
set_option maxRecDepth 100000 in
theorem pnames_any (p : Prd) (w : World) (P : Nat → Prop) (vs : List Value) (B : Nat) (hN : cntP p ≤ 1000000) (hb : BytP p) (h : PredC w P p vs) (hT : Tab w B) :
    Calls Tryz.prog 54 #[.agg vs.toArray] w fun e w' => ∃ (ao : Option Addr) (cp : Nat), e = .returned (.slice ao (nmsV p).length cp) ∧ OwnK w' w.heap.size 1 (nmsV p).length cp ((nmsV p).map strV) ao ∧ RowKit.Below w.heap.size w w' := by
  obtain ⟨xa, xn, xc, rfl, -⟩ := h.form
  have bx := (RowKit.Below.refl w.heap.size w).alloc (Nat.le_refl _) (.cells #[.int .i64 p.k, .string (strN p.l), .string (strN p.r), .int .i64 p.c, .slice xa xn xc] 25)
  have B1 := mkHid bx
  have X1 : Hid (HasV (w.alloc (.cells #[.int .i64 p.k, .string (strN p.l), .string (strN p.r), .int .i64 p.c, .slice xa xn xc] 25)) w.heap.size 25 [.int .i64 p.k, .string (strN p.l), .string (strN p.r), .int .i64 p.c, .slice xa xn xc]) := mkHid (heap_alloc_new w _)
  have HVP := mkHid (fun W (hW : RowKit.Below w.heap.size w W) => vpred_any p W P _ B hN hb (h.below hW) (TabIn.step (w := w) hT hW))
  have HLK : Hid ((atomsP p).length ≤ 1000000) := mkHid (by
    refine Nat.le_trans (nodup_len_le _ (keysP p) (asc_nodup (atomsP_asc p)) (fun x hx => (atomsP_mem p x).1 hx)) ?_
    exact Nat.le_trans (keysP_len p) hN)
  have HNM := mkHid (fun (hv : validP p = true) W (hW : RowKit.Below w.heap.size w W) =>
    (show Calls Tryz.prog 120 #[.slice (some ⟨W.heap.size, 0, none⟩) 1 1] (W.alloc (.cells #[.int .i64 p.k, .string (strN p.l), .string (strN p.r), .int .i64 p.c, .slice xa xn xc] 25)) fun e w' => ∃ (ro : Option Addr) (rc : Nat), e = .returned (.slice ro (namesP p).length rc) ∧ OwnK w' (W.heap.size + 1) 1 (namesP p).length rc ((namesP p).map strV) ro ∧ RowKit.Below (W.heap.size + 1) (W.alloc (.cells #[.int .i64 p.k, .string (strN p.l), .string (strN p.r), .int .i64 p.c, .slice xa xn xc] 25)) w' by
      have by1 := (RowKit.Below.refl W.heap.size W).alloc (Nat.le_refl _) (.cells #[.int .i64 p.k, .string (strN p.l), .string (strN p.r), .int .i64 p.c, .slice xa xn xc] 25)
      have hp := ((h.below hW).below by1).mono (P' := fun g => g < W.heap.size + 1) (fun g _ hg => by simpa using hg)
      have hv5 : HasV (W.alloc (.cells #[.int .i64 p.k, .string (strN p.l), .string (strN p.r), .int .i64 p.c, .slice xa xn xc] 25)) W.heap.size 25 [.int .i64 p.k, .string (strN p.l), .string (strN p.r), .int .i64 p.c, .slice xa xn xc] := heap_alloc_new _ _
      have := asknames_any [p] (W.alloc (.cells #[.int .i64 p.k, .string (strN p.l), .string (strN p.r), .int .i64 p.c, .slice xa xn xc] 25)) (fun g => g < W.heap.size + 1) (some ⟨W.heap.size, 0, none⟩) 1 1 rfl
        (.inr ⟨W.heap.size, 0, rfl, Nat.lt_succ_self _, by simp, by
          unfold KidsC
          exact ⟨⟨_, hp, fun j u hj => by rw [Nat.zero_add]; exact hv5.cell j u hj⟩, by unfold KidsC; trivial⟩⟩)
        (fun q hq => by rw [List.mem_singleton] at hq; subst hq; exact valid_form hv) (fun q hq => by rw [List.mem_singleton] at hq; subst hq; exact hN) (by simpa using HLK.out) (by omega)
      have e1 : [p].flatMap atomsP = atomsP p := by simp
      rw [e1, World.size_alloc] at this
      exact this))
  have HV : Hid (nmsV p = if validP p = true then namesP p else []) := mkHid rfl
  obtain ⟨V, hV⟩ : ∃ V, nmsV p = V := ⟨_, rfl⟩
  rw [hV] at HV ⊢
  clear bx h hT hb hN hV
  generalize validP p = s at *
  generalize namesP p = ns at *
  generalize p.k = q0 at *
  generalize strN p.l = q1 at *
  generalize strN p.r = q2 at *
  generalize p.c = q3 at *
  go_enter Tryz.func54, Tryz.ntmps54
  go_upto_region 1 with (fail)
  generalize w.alloc (.cells #[.int .i64 q0, .string q1, .string q2, .int .i64 q3, .slice xa xn xc] 25) = w1 at *
  go_wp2_with (refine wpList_load_row rfl 25 (.tmp 1) rfl w.heap.size ?x1 25 #[.int .i64 q0, .string q1, .string q2, .int .i64 q3, .slice xa xn xc] (0, 0) _ X1.out Tryz.underlying25 rfl (inf_pred _ rfl) ?_; (case x1 => rfl))
  refine (HVP.out w1 B1.out).mono ?_
  rintro e w2 ⟨rfl, b2⟩
  have B2 := mkHid (B1.out.trans (b2.mono B1.out.size))
  have X2 := mkHid (X1.out.step b2)
  clear b2 HVP B1 X1
  cases s with
  | false =>
    have HX : Hid (V = []) := mkHid (by rw [HV.out]; rfl)
    go_wp2
    go_ret
    exact ⟨none, 0, by rw [HX.out]; rfl, by rw [HX.out]; exact .nil rfl rfl rfl, B2.out⟩
  | true =>
    have HX : Hid (V = ns) := mkHid (by rw [HV.out]; rfl)
    have HC := mkHid (HNM.out (by trivial) w2 B2.out)
    have bx := (RowKit.Below.refl w2.heap.size w2).alloc (Nat.le_refl _) (.cells #[.int .i64 q0, .string q1, .string q2, .int .i64 q3, .slice xa xn xc] 25)
    have B3 := mkHid (B2.out.trans (bx.mono B2.out.size))
    have S3 : Hid ((w2.alloc (.cells #[.int .i64 q0, .string q1, .string q2, .int .i64 q3, .slice xa xn xc] 25)).heap.size = w2.heap.size + 1) := mkHid (by simp)
    clear bx
    go_wp2_with (refine wpList_load_row rfl 25 (.tmp 1) rfl w.heap.size ?x2 25 #[.int .i64 q0, .string q1, .string q2, .int .i64 q3, .slice xa xn xc] (0, 0) _ X2.out Tryz.underlying25 rfl (inf_pred _ rfl) ?_; (case x2 => rfl))
    refine HC.out.mono ?_
    rintro e w4 ⟨ro, rc, rfl, ho, hb4⟩
    have B4 := mkHid (B3.out.trans (hb4.mono (by rw [← S3.out]; exact B3.out.size)))
    have O4 := mkHid (ho.lower (B' := w.heap.size) (by rw [← S3.out]; exact B3.out.size))
    clear ho hb4
    go_wp2
    go_ret
    exact ⟨ro, rc, by rw [HX.out]; rfl, by rw [HX.out]; exact O4.out, B4.out⟩
def negV (p : Prd) : Prd := if validP p = true then negP p else prd0
set_option maxHeartbeats 8000000 in
set_option maxRecDepth 100000 in
theorem pnegate_any (p : Prd) (w : World) (P : Nat → Prop) (vs : List Value) (B : Nat) (hN : cntP p ≤ 1000000) (hb : BytP p) (h : PredC w P p vs) (hT : Tab w B) :
    Calls Tryz.prog 28 #[.agg vs.toArray] w fun e w' => NegR w (negV p) e w' := by
  obtain ⟨xa, xn, xc, rfl, -⟩ := h.form
  have bx := ((RowKit.Below.refl w.heap.size w).alloc (Nat.le_refl _) (.cells #[.int .i64 p.k, .string (strN p.l), .string (strN p.r), .int .i64 p.c, .slice xa xn xc] 25)).alloc (by simp) (.cells #[.int .i64 0, .string ⟨#[]⟩, .string ⟨#[]⟩, .int .i64 0, .slice none 0 0] 25)
  have B1 := mkHid bx
  have X1 : Hid (HasV ((w.alloc (.cells #[.int .i64 p.k, .string (strN p.l), .string (strN p.r), .int .i64 p.c, .slice xa xn xc] 25)).alloc (.cells #[.int .i64 0, .string ⟨#[]⟩, .string ⟨#[]⟩, .int .i64 0, .slice none 0 0] 25)) w.heap.size 25 [.int .i64 p.k, .string (strN p.l), .string (strN p.r), .int .i64 p.c, .slice xa xn xc]) := mkHid (heap_alloc2_old _ _ _)
  have Z1 : Hid (HasV ((w.alloc (.cells #[.int .i64 p.k, .string (strN p.l), .string (strN p.r), .int .i64 p.c, .slice xa xn xc] 25)).alloc (.cells #[.int .i64 0, .string ⟨#[]⟩, .string ⟨#[]⟩, .int .i64 0, .slice none 0 0] 25)) (w.heap.size + 1) 25 pred0) := mkHid (heap_alloc2_new w _ _)
  have HVP := mkHid (fun W (hW : RowKit.Below w.heap.size w W) => vpred_any p W P _ B hN hb (h.below hW) (TabIn.step (w := w) hT hW))
  have HNG := mkHid (fun W (hW : RowKit.Below w.heap.size w W) => negate_any (cntP p) p W P _ (Nat.le_refl _) hN (h.below hW))
  have HV : Hid (negV p = if validP p = true then negP p else prd0) := mkHid rfl
  obtain ⟨V, hV⟩ : ∃ V, negV p = V := ⟨_, rfl⟩
  rw [hV] at HV ⊢
  clear bx h hT hb hN hV
  generalize validP p = s at *
  generalize negP p = np at *
  generalize p.k = q0 at *
  generalize strN p.l = q1 at *
  generalize strN p.r = q2 at *
  generalize p.c = q3 at *
  go_enter Tryz.func28, Tryz.ntmps28
  go_upto_region 1 with (fail)
  generalize (w.alloc (.cells #[.int .i64 q0, .string q1, .string q2, .int .i64 q3, .slice xa xn xc] 25)).alloc (.cells #[.int .i64 0, .string ⟨#[]⟩, .string ⟨#[]⟩, .int .i64 0, .slice none 0 0] 25) = w1 at *
  go_wp2_with (refine wpList_load_row rfl 25 (.tmp 1) rfl w.heap.size ?x1 25 #[.int .i64 q0, .string q1, .string q2, .int .i64 q3, .slice xa xn xc] (0, 0) _ X1.out Tryz.underlying25 rfl (inf_pred _ rfl) ?_; (case x1 => rfl))
  refine (HVP.out w1 B1.out).mono ?_
  rintro e w2 ⟨rfl, b2⟩
  have B2 := mkHid (B1.out.trans (b2.mono B1.out.size))
  have X2 := mkHid (X1.out.step b2)
  have Z2 := mkHid (Z1.out.step b2)
  clear b2 HVP B1 X1 Z1
  cases s with
  | false =>
    have HX : Hid (V = prd0) := mkHid (by rw [HV.out]; rfl)
    go_wp2_with (refine wpList_store_abs rfl 25 (.tmp 2) (.tmp 6) rfl (w.heap.size + 1) pred0.toArray ?s1 ?s2 25 _ Z2.out (inf_pred _ rfl) rfl (by simp [pred0, Value.oneCell']) ?_; (case s1 => rfl); (case s2 => rfl); intro w9 s9 u9; have S9 := mkHid s9; have U9 := mkHid u9; clear s9 u9)
    exact bodyPost_ret (results_cell_row (p := 2) (by kernel_rfl) _ _ (w.heap.size + 1) 25 pred0.toArray (0, 0) _ rfl S9.out Tryz.underlying25 rfl (inf_pred _ rfl)) rfl ⟨⟨_, rfl, by rw [HX.out]; exact predV0 _ _⟩, U9.out.below B2.out (Nat.le_succ _)⟩
  | true =>
    have HX : Hid (V = np) := mkHid (by rw [HV.out]; rfl)
    go_wp2_with (refine wpList_load_row rfl 25 (.tmp 1) rfl w.heap.size ?x2 25 #[.int .i64 q0, .string q1, .string q2, .int .i64 q3, .slice xa xn xc] (0, 0) _ X2.out Tryz.underlying25 rfl (inf_pred _ rfl) ?_; (case x2 => rfl))
    refine (HNG.out w2 B2.out).mono ?_
    rintro e w3 ⟨⟨v, rfl, vs, rfl, hpc⟩, b3⟩
    have Z3 := mkHid (Z2.out.step b3)
    have B3 := mkHid (B2.out.trans (b3.mono B2.out.size))
    have PC := mkHid hpc
    have LT2 : Hid (w.heap.size + 1 < w2.heap.size) := mkHid Z2.out.lt
    have hl5 : vs.length = 5 := PC.out.len
    have hsz : vs.toArray.size = 5 := by rw [List.size_toArray]; exact hl5
    clear b3 hpc Z2 B2 X2
    go_wp2_with (refine wpList_store_abs rfl 25 (.tmp 2) (.tmp 8) rfl (w.heap.size + 1) vs.toArray ?s3 ?s4 25 _ Z3.out (inf_pred _ hl5) hsz.symm PC.out.one ?_; (case s3 => rfl); (case s4 => rfl); intro w9 s9 u9; have S9 := mkHid s9; have U9 := mkHid u9; clear s9 u9)
    exact bodyPost_ret (results_cell_row (p := 2) (by kernel_rfl) _ _ (w.heap.size + 1) 25 vs.toArray (0, 0) _ rfl S9.out Tryz.underlying25 rfl (inf_pred _ hl5)) rfl ⟨⟨_, rfl, _, rfl, by rw [HX.out]; exact (PC.out.upd U9.out (by show ¬ w2.heap.size ≤ w.heap.size + 1; have := LT2.out; omega)).mono (fun g hg _ => by show w.heap.size ≤ g; have : w2.heap.size ≤ g := hg; have := LT2.out; omega)⟩, U9.out.below B3.out (Nat.le_succ _)⟩
/-- A slice of strings that is read. -/
def StrsR (w : World) (ao : Option Addr) (l : List (List Nat)) : Prop := l = [] ∨ ∃ g off, ao = some ⟨g, off, none⟩ ∧ g < w.heap.size ∧ Reads w g off (l.map strV)
theorem StrsR.below {w w' : World} {ao : Option Addr} {l : List (List Nat)} (h : StrsR w ao l) (hb : RowKit.Below w.heap.size w w') : StrsR w' ao l := by
  rcases h with h | ⟨g, off, h1, h2, h3⟩
  · exact .inl h
  · exact .inr ⟨g, off, h1, Nat.lt_of_lt_of_le h2 hb.size, h3.of_block (hb.block g h2)⟩
theorem OwnK.strsR {w : World} {B n cap : Nat} {ao : Option Addr} {l : List (List Nat)} (h : OwnK w B 1 n cap (l.map strV) ao) (hn : n = l.length) : StrsR w ao l := by
  cases h with
  | nil h h1 h2 => exact .inl (List.eq_nil_of_length_eq_zero (by omega))
  | «at» g off h h1 h2 h3 => exact .inr ⟨g, off, rfl, h.lt, h.cells⟩
theorem StrsR.at {w : World} {ao : Option Addr} {l : List (List Nat)} (h : StrsR w ao l) (i : Nat) (s : List Nat) (hs : l[i]? = some s) : ∃ g off, ao = some ⟨g, off, none⟩ ∧ g < w.heap.size ∧ w.cell? ⟨g, off + i, none⟩ = some (.string (strN s)) := by
  rcases h with h | ⟨g, off, h1, h2, h3⟩
  · rw [h] at hs; simp at hs
  · exact ⟨g, off, h1, h2, h3 i _ (by rw [List.getElem?_map, hs]; rfl)⟩
set_option maxHeartbeats 8000000 in
set_option maxRecDepth 100000 in
/-- Equal names: found equal. -/
theorem snames_same (w : World) (l : List (List Nat)) (ao bo : Option Addr) (n c1 c2 : Nat) (hn : n = l.length) (hbig : n ≤ 1000000000) (ha : StrsR w ao l) (hb : StrsR w bo l) :
    Calls Tryz.prog 65 #[.slice ao n c1, .slice bo n c2] w fun e w' => e = .returned (.bool true) ∧ RowKit.Below w.heap.size w w' := by
  have HA := mkHid ha
  have HB := mkHid hb
  have HN := mkHid hn
  have B0 := mkHid (RowKit.Below.refl w.heap.size w)
  clear ha hb hn
  go_enter Tryz.func65, Tryz.ntmps65
  go_wp2_with fail
  go_loopw [5] (fun cc wr => ∃ (i : Nat), cc = .int .i64 i ∧ i ≤ n ∧ Hid (RowKit.Below w.heap.size w wr)) (fun c _ => (n - intOf c).toNat)
  case atStart => exact ⟨0, rfl, by omega, B0⟩
  case round =>
    clear B0
    obtain ⟨i, rfl, hi, hw⟩ := hrel
    have e2 : IntKind.i64.wrap ((i : Int) + 1) = ((i + 1 : Nat) : Int) := IntWalk.i64_in _ (by omega)
    by_cases hlt : i < n
    · have ii : (i : Int) < n := by omega
      have HQ : Hid (∃ s, l[i]? = some s) := mkHid (by
        have hl : i < l.length := by rw [← HN.out]; exact hlt
        exact ⟨l[i], List.getElem?_eq_getElem hl⟩)
      obtain ⟨s, hs⟩ := HQ.out
      obtain ⟨g1, o1, h1, hg1, c1'⟩ := (HA.out.below hw.out).at i s hs
      obtain ⟨g2, o2, h2, hg2, c2'⟩ := (HB.out.below hw.out).at i s hs
      have HH1 := mkHid h1
      have HH2 := mkHid h2
      clear hs HQ HA HB hg1 hg2
      subst h1
      subst h2
      generalize strN s = y at *
      go_upto_region 6 with (fail)
      have a0 := cell_regrown c1'
      have b0 := cell_regrown c2'
      clear c1' c2'
      refine wp_region_quiet_below (by kernel_rfl) (by kernel_rfl) ?_
      repeat (quiet_step (fail))
      refine wpQuiet_nil ?_
      intro _ hw'
      obtain ⟨⟨dq, osq⟩, hw''⟩ := hw'
      subst hw''
      have BB := below_regrown wr dq osq
      have B3 := mkHid (hw.out.trans (BB.mono hw.out.size))
      clear a0 b0 BB hw
      generalize grow (redrawn wr dq) osq = wy at *
      go_wp2
      go_roundw
      case rel => exact ⟨i + 1, by go_num, by omega, B3⟩
      case measure => simp only [intOf]; omega
    · have ii : ¬ ((i : Int) < n) := by omega
      go_wp2
      go_ret
      exact ⟨rfl, hw.out⟩
/-- At most ten binds, with names of at most 60 bytes. -/
def fbP (l : List Bnd) : Bool := decide (l.length ≤ 10) && l.all (fun b => decide (b.n.length ≤ 60))
set_option maxHeartbeats 8000000 in
set_option maxRecDepth 100000 in
theorem fewb_any (w : World) (P : Nat → Prop) (l : List Bnd) (ao : Option Addr) (n cap : Nat) (hn : n = l.length) (hbig : n ≤ 9223372036854775807) (hk : BndR w P l ao) :
    Calls Tryz.prog 37 #[.slice ao n cap] w fun e w' => e = .returned (.bool (fbP l)) ∧ RowKit.Below w.heap.size w w' := by
  have HK := mkHid hk
  have HN := mkHid hn
  have B0 := mkHid (RowKit.Below.refl w.heap.size w)
  obtain ⟨V, hV⟩ : ∃ V, fbP l = V := ⟨_, rfl⟩
  have HV : Hid (V = (decide (l.length ≤ 10) && l.all (fun b => decide (b.n.length ≤ 60)))) := mkHid hV.symm
  rw [hV]
  clear hk hn hV
  go_enter Tryz.func37, Tryz.ntmps37
  go_wp2_with fail
  go_loopw [3] (fun cc wr => ∃ (i : Nat), cc = .int .i64 i ∧ i ≤ n ∧ i ≤ 11 ∧ Hid (∀ b ∈ l.take i, b.n.length ≤ 60) ∧ Hid (RowKit.Below w.heap.size w wr)) (fun c _ => (11 - intOf c).toNat)
  case atStart => exact ⟨0, rfl, by omega, by omega, mkHid (by simp), B0⟩
  case round =>
    clear B0
    obtain ⟨i, rfl, hi, hi11, ha, hw⟩ := hrel
    have e2 : IntKind.i64.wrap ((i : Int) + 1) = ((i + 1 : Nat) : Int) := IntWalk.i64_in _ (by omega)
    by_cases hlt : i < n
    · have ii : (i : Int) < n := by omega
      by_cases h11 : i < 11
      · have i11 : (i : Int) < 11 := by omega
        have HQ : Hid (∃ q, l[i]? = some q ∧ ∃ g off, ao = some ⟨g, off, none⟩ ∧ wr.cell? ⟨g, off + i * 2, none⟩ = some (.string (strN q.n))) := mkHid (by
          have hl : i < l.length := by rw [← HN.out]; exact hlt
          refine ⟨l[i], List.getElem?_eq_getElem hl, ?_⟩
          rcases (HK.out.below hw.out) with h | ⟨g, off, h1, h2, h3, h4⟩
          · rw [h] at hl; exact absurd hl (Nat.not_lt_zero _)
          · exact ⟨g, off, h1, by simpa using (bnd_cells h4 i _ (List.getElem?_eq_getElem hl)) 0 _ rfl⟩)
        obtain ⟨q, hqi, g, off, hao, s0⟩ := HQ.out
        have HAO := mkHid hao
        have HQI := mkHid hqi
        clear HQ hqi HK
        subst hao
        have hz := strN_size q.n
        obtain ⟨z, hzz⟩ : ∃ z, q.n.length = z := ⟨_, rfl⟩
        have HZ := mkHid hzz
        rw [hzz] at hz
        clear hzz
        generalize strN q.n = y at *
        by_cases h60 : 60 < z
        · have h60' : (60 : Int) < (z : Int) := by omega
          have HF : Hid (V = false) := mkHid (by
            rw [HV.out]
            have : l.all (fun b => decide (b.n.length ≤ 60)) = false := by
              rw [List.all_eq_false]
              exact ⟨q, List.mem_of_getElem? HQI.out, by rw [HZ.out]; simpa using h60⟩
            rw [this, Bool.and_false])
          clear h60
          go_wp2
          go_ret
          exact ⟨ret_bool HF.out.symm, hw.out⟩
        · have h60' : ¬ (60 : Int) < (z : Int) := by omega
          have HA2 : Hid (∀ b ∈ l.take (i + 1), b.n.length ≤ 60) := mkHid (fun b hb => by
            rw [List.take_add_one, HQI.out] at hb
            rcases List.mem_append.1 hb with hb | hb
            · exact ha.out b hb
            · have : b = q := by simpa using hb
              rw [this, HZ.out]; omega)
          clear h60
          go_wp2
          go_roundw
          case rel => exact ⟨i + 1, by go_num, by omega, by omega, HA2, hw⟩
          case measure => simp only [intOf]; omega
      · have i11 : ¬ (i : Int) < 11 := by omega
        have hn10 : ¬ (n : Int) ≤ 10 := by omega
        have HF : Hid (V = false) := mkHid (by rw [HV.out, decide_eq_false (by rw [← HN.out]; omega), Bool.false_and])
        go_wp2
        go_ret
        exact ⟨ret_bool HF.out.symm, hw.out⟩
    · have ii : ¬ ((i : Int) < n) := by omega
      have HA2 : Hid (V = decide (n ≤ 10)) := mkHid (by
        rw [HV.out, ← HN.out]
        have : l.all (fun b => decide (b.n.length ≤ 60)) = true := by
          rw [List.all_eq_true]
          intro b hb
          exact decide_eq_true (ha.out b (by rwa [List.take_of_length_le (by rw [← HN.out]; omega)]))
        rw [this, Bool.and_true])
      by_cases h10 : n ≤ 10
      · have h10' : (n : Int) ≤ 10 := by omega
        have HF : Hid (V = true) := mkHid (by rw [HA2.out, decide_eq_true h10])
        clear h10
        go_wp2
        go_ret
        exact ⟨ret_bool HF.out.symm, hw.out⟩
      · have h10' : ¬ (n : Int) ≤ 10 := by omega
        have HF : Hid (V = false) := mkHid (by rw [HA2.out, decide_eq_false h10])
        clear h10
        go_wp2
        go_ret
        exact ⟨ret_bool HF.out.symm, hw.out⟩
end Go.Proofs.YtmkdfbelbcocpaaGreatDoor
namespace Go.Proofs.YtmkdfbelbcocpaaGreatDoor
mutual
/-- All names are of bytes. -/
def RawP : Prd → Prop
  | .mk _ l r _ ks => (∀ y ∈ l, y < 256) ∧ (∀ y ∈ r, y < 256) ∧ RawL ks
def RawL : List Prd → Prop
  | [] => True
  | p :: ps => RawP p ∧ RawL ps
end
theorem RawL_iff : ∀ ks : List Prd, RawL ks ↔ ∀ q ∈ ks, RawP q
  | [] => by simp [RawL]
  | p :: ps => by simp [RawL, RawL_iff ps]
mutual
theorem byt_of : ∀ p, RawP p → namP p = true → BytP p
  | .mk k l r c ks, h, hn => by
    unfold RawP at h
    unfold namP at hn
    simp only [Bool.and_eq_true, decide_eq_true_eq] at hn
    unfold BytP
    exact ⟨⟨h.1, by omega⟩, ⟨h.2.1, by omega⟩, byt_ofL ks h.2.2 hn.1⟩
theorem byt_ofL : ∀ ks, RawL ks → namL ks = true → BytL ks
  | [], _, _ => by unfold BytL; trivial
  | p :: ps, h, hn => by
    unfold RawL at h
    unfold namL at hn
    rw [Bool.and_eq_true] at hn
    unfold BytL
    exact ⟨byt_of p h.1 hn.1, byt_ofL ps h.2 hn.2⟩
end
theorem couL_ge (M L : Nat) : ∀ (ks : List Prd) (n : Nat), n ≤ couL M L n ks
  | [], n => by rw [couL]; exact Nat.le_refl _
  | q :: qs, n => by
    rw [couL]
    split
    · exact Nat.le_trans (Nat.le_add_right _ _) (couL_ge M L qs _)
    · exact Nat.le_refl _
theorem couL_cnt (M L : Nat) (h : ∀ q, couP M L q ≤ M → cntP q ≤ couP M L q) : ∀ (ks : List Prd) (n : Nat), couL M L n ks ≤ M → n + cntL ks ≤ couL M L n ks
  | [], n, _ => by rw [couL, cntL]; exact Nat.le_refl _
  | q :: qs, n, hn => by
    rw [couL] at hn ⊢
    rw [cntL]
    by_cases hm : n ≤ M
    · rw [if_pos hm] at hn ⊢
      have h1 := couL_ge M L qs (n + couP M L q)
      have h2 := h q (by omega)
      have h3 := couL_cnt M L h qs _ hn
      omega
    · rw [if_neg hm] at hn
      exact absurd hn hm
theorem couP_cnt (M : Nat) : ∀ (L : Nat) (p : Prd), couP M L p ≤ M → cntP p ≤ couP M L p
  | 0, p, h => by rw [couP] at h; omega
  | L + 1, .mk k l r c ks, h => by
    rw [couP] at h ⊢
    rw [cntP]
    exact couL_cnt M L (couP_cnt M L) ks 1 h
theorem few_cnt {p : Prd} {M L : Nat} (h : fewP p M L = true) : cntP p ≤ M := by
  have h1 := of_decide_eq_true h
  exact Nat.le_trans (couP_cnt M L p h1) h1
theorem couL_eq (M L : Nat) (h : ∀ q, cntP q ≤ M → depP q ≤ L → couP M L q = cntP q) : ∀ (ks : List Prd) (n : Nat), n + cntL ks ≤ M → depL ks ≤ L → couL M L n ks = n + cntL ks
  | [], n, _, _ => by rw [couL, cntL]; rfl
  | q :: qs, n, hn, hd => by
    rw [cntL] at hn ⊢
    rw [depL] at hd
    rw [couL, if_pos (by omega), h q (by omega) (by omega), couL_eq M L h qs _ (by omega) (by omega)]
    omega
theorem couP_eq (M : Nat) : ∀ (L : Nat) (p : Prd), cntP p ≤ M → depP p ≤ L → couP M L p = cntP p
  | 0, .mk k l r c ks, _, hd => by rw [depP] at hd; omega
  | L + 1, .mk k l r c ks, hn, hd => by
    rw [couP]
    rw [cntP] at hn ⊢
    rw [depP] at hd
    exact couL_eq M L (couP_eq M L) ks 1 hn (by omega)
theorem few_of {p : Prd} {M L : Nat} (hc : cntP p ≤ M) (hd : depP p ≤ L) : fewP p M L = true := by
  unfold fewP
  rw [couP_eq M L p hc hd]
  exact decide_eq_true hc
theorem sub_lenN : ∀ (l m : List (List Nat)), l.Nodup → (∀ x ∈ l, x ∈ m) → l.length ≤ m.length
  | [], m, _, _ => Nat.zero_le _
  | x :: l, m, h, hs => by
    rw [List.nodup_cons] at h
    have hx := hs x (List.mem_cons_self ..)
    have := sub_lenN l (m.erase x) h.2 (fun y hy => (List.mem_erase_of_ne (by rintro rfl; exact h.1 hy)).2 (hs y (List.mem_cons_of_mem _ hy)))
    rw [List.length_erase_of_mem hx] at this
    have hp : 0 < m.length := List.length_pos_of_mem hx
    rw [List.length_cons]
    omega
mutual
theorem len_of : ∀ p, cntP p ≤ 1000000 → LenP p
  | .mk k l r c ks, h => by
    rw [cntP] at h
    unfold LenP
    have := len_cntL ks
    exact ⟨by omega, len_ofL ks (by omega)⟩
theorem len_ofL : ∀ ks, cntL ks ≤ 1000000 → LenL ks
  | [], _ => by unfold LenL; trivial
  | p :: ps, h => by
    rw [cntL] at h
    unfold LenL
    exact ⟨len_of p (by omega), len_ofL ps (by omega)⟩
end
theorem optN_byt {l : List Nat} (h : optN l = true) : NmB l := ⟨(optN_ok h).1, by have := (optN_ok h).2; omega⟩
mutual
theorem byt_form : ∀ p, formP p = true → BytP p
  | .mk k l r c ks, h => by
    unfold formP at h
    unfold BytP
    by_cases hk : k = 0
    · rw [if_pos hk] at h
      simp only [Bool.and_eq_true] at h
      obtain ⟨⟨⟨h1, h2⟩, h3⟩, h4⟩ := h
      have hkn : ks = [] := by simpa using h1
      subst hkn
      exact ⟨optN_byt h2, optN_byt h3, by unfold BytL; trivial⟩
    · rw [if_neg hk] at h
      simp only [Bool.and_eq_true, beq_iff_eq] at h
      obtain ⟨⟨⟨h1, rfl⟩, rfl⟩, h2⟩ := h
      exact ⟨⟨by simp, by simp⟩, ⟨by simp, by simp⟩, byt_formL ks h2⟩
theorem byt_formL : ∀ ks, formL ks = true → BytL ks
  | [], _ => by unfold BytL; trivial
  | p :: ps, h => by
    unfold formL at h
    rw [Bool.and_eq_true] at h
    unfold BytL
    exact ⟨byt_form p h.1, byt_formL ps h.2⟩
end
/-- What the statement asks of the two answers of Holds. -/
theorem neg_hold (p : Prd) (l : List Bnd) (hv : validP p = true) :
    (holdP p l = (false, 1) ∧ holdP (negP p) l = (false, 1)) ∨ (holdP p l = (false, 4) ∧ holdP (negP p) l = (false, 4)) ∨ (holdP p l = (true, 0) ∧ holdP (negP p) l = (false, 0)) ∨ (holdP p l = (false, 0) ∧ holdP (negP p) l = (true, 0)) := by
  have hn := neg_valid p hv
  have hf := valid_form hv
  have hs := small_of hv
  cases hb : vbP l with
  | false =>
    left
    unfold holdP
    rw [hb]
    simp
  | true =>
    have hall : (atomsP (negP p)).all (bdV (valM l)) = (atomsP p).all (bdV (valM l)) := by
      rw [Bool.eq_iff_iff, List.all_eq_true, List.all_eq_true]
      constructor
      · intro h k hk
        have := h (oppK k) ((neg_mem p hf _).2 (by rw [oppK_opp]; exact hk))
        rwa [bdV_opp] at this
      · intro h k hk
        have := h (oppK k) ((neg_mem p hf k).1 hk)
        rwa [bdV_opp] at this
    have ht := neg_truth (fV (valM l)) (fV (valM l)) p hf (by omega) (fun k _ => fV_opp _ k)
    unfold holdP
    rw [hv, hn, hb, hall, ht]
    cases (atomsP p).all (bdV (valM l)) with
    | false => right; left; simp
    | true =>
      cases truthP (fV (valM l)) p with
      | false => right; right; right; simp
      | true => right; right; left; simp
end Go.Proofs.YtmkdfbelbcocpaaGreatDoor
namespace Go.Proofs.YtmkdfbelbcocpaaGreatDoor
open Go.RowKit Go.Sort Go.Maps
set_option maxRecDepth 100000 in
theorem arr126 (t : Array Value) (h : t.size = 126) : ∃ f : Nat → Value, t = #[f 0, f 1, f 2, f 3, f 4, f 5, f 6, f 7, f 8, f 9, f 10, f 11, f 12, f 13, f 14, f 15, f 16, f 17, f 18, f 19, f 20, f 21, f 22, f 23, f 24, f 25, f 26, f 27, f 28, f 29, f 30, f 31, f 32, f 33, f 34, f 35, f 36, f 37, f 38, f 39, f 40, f 41, f 42, f 43, f 44, f 45, f 46, f 47, f 48, f 49, f 50, f 51, f 52, f 53, f 54, f 55, f 56, f 57, f 58, f 59, f 60, f 61, f 62, f 63, f 64, f 65, f 66, f 67, f 68, f 69, f 70, f 71, f 72, f 73, f 74, f 75, f 76, f 77, f 78, f 79, f 80, f 81, f 82, f 83, f 84, f 85, f 86, f 87, f 88, f 89, f 90, f 91, f 92, f 93, f 94, f 95, f 96, f 97, f 98, f 99, f 100, f 101, f 102, f 103, f 104, f 105, f 106, f 107, f 108, f 109, f 110, f 111, f 112, f 113, f 114, f 115, f 116, f 117, f 118, f 119, f 120, f 121, f 122, f 123, f 124, f 125] := by
  obtain ⟨l⟩ := t
  have hl : l.length = 126 := h
  have e : l = (List.range 126).map (fun i => l.getD i undef) := by
    apply List.ext_getElem
    · simp [hl]
    · intro i h1 h2
      simp [List.getD, h1]
  exact ⟨fun i => l.getD i undef, congrArg List.toArray e⟩
def nF (Pv Nv Bv : Value) (ns : List (List Nat)) (K : Nat) (i : Nat) (w : World) (v : Value) : Prop :=
  match i with
  | 0 => v = Nv
  | 1 => v = .bool true
  | 2 => v = .bool false
  | 3 => v = .bool false
  | 4 => v = Bv
  | 5 => v = .bool true
  | 6 => v = .bool false
  | 7 => v = .bool false
  | 8 => v = .bool false
  | 9 => v = Bv
  | 10 => v = Pv
  | 11 => v = .bool true
  | 12 => v = .bool false
  | 13 => v = .bool false
  | 14 => v = .bool false
  | 15 => v = Pv
  | 16 => ∃ ao cp, v = .slice ao ns.length cp ∧ StrsR w ao ns
  | 17 => v = Nv
  | 18 => ∃ ao cp, v = .slice ao ns.length cp ∧ StrsR w ao ns
  | 19 => v = .bool true
  | 20 => v = .bool false
  | 21 => v = .bool false
  | 22 => v = .bool false
  | 23 => v = Pv
  | 24 => ∃ ao cp, v = .slice ao K cp
  | 25 => v = .int .i64 (K : Int)
  | 26 => v = Nv
  | 27 => ∃ ao cp, v = .slice ao K cp
  | 28 => v = .int .i64 (K : Int)
  | 29 => v = .bool false
  | 30 => v = .bool false
  | _ => v = .bool true
theorem nF_step (Pv Nv Bv : Value) (ns : List (List Nat)) (K : Nat) : ∀ (i : Nat) (w w' : World) (v : Value), nF Pv Nv Bv ns K i w v → RowKit.Below w.heap.size w w' → nF Pv Nv Bv ns K i w' v := by
  intro i w w' v h hb
  unfold nF at h ⊢
  split at h <;> first | exact h | (obtain ⟨ao, cp, h1, h2⟩ := h; exact ⟨ao, cp, h1, h2.below hb⟩)
set_option maxHeartbeats 16000000 in
set_option maxRecDepth 100000 in
theorem askneg_walk (p : Prd) (vs : List Value) (l : List Bnd) (w : World) (P Pb : Nat → Prop) (bo : Option Addr) (m bc B : Nat) (hG : Good w B) (h : PredC w P p vs) (hr : RawP p) (hlen : LenP p) (hm : m = l.length) (hbig : m ≤ 9223372036854775807)
    (hok : ∀ b ∈ l, ∀ y ∈ b.n, y < 256) (hk : BndR w Pb l bo) :
    Calls Tryz.prog 15 #[.agg vs.toArray, .slice bo m bc] w fun e w' => e = .returned (.bool true) ∧ RowKit.Below w.heap.size w w' := by
  obtain ⟨xa, xn, xc, rfl, -⟩ := h.form
  have bx := (RowKit.Below.refl w.heap.size w).alloc (Nat.le_refl _) (.cells #[.int .i64 p.k, .string (strN p.l), .string (strN p.r), .int .i64 p.c, .slice xa xn xc] 25)
  have B1 := mkHid bx
  have X1 : Hid (HasV (w.alloc (.cells #[.int .i64 p.k, .string (strN p.l), .string (strN p.r), .int .i64 p.c, .slice xa xn xc] 25)) w.heap.size 25 [.int .i64 p.k, .string (strN p.l), .string (strN p.r), .int .i64 p.c, .slice xa xn xc]) := mkHid (heap_alloc_new w _)
  have HSA := mkHid (fun W (hW : RowKit.Below w.heap.size w W) => sane5_any W B (hG.step hW))
  have HSH := mkHid (fun W (hW : RowKit.Below w.heap.size w W) => short_any p W P _ hlen (h.below hW))
  have HFB := mkHid (fun W (hW : RowKit.Below w.heap.size w W) => fewb_any W Pb l bo m bc hm hbig (hk.below hW))
  have HSP := mkHid (fun (hs : shoP p = true) => (show cntP p ≤ 110 ∧ BytP p from by
    unfold shoP at hs
    rw [Bool.and_eq_true] at hs
    exact ⟨few_cnt hs.1, byt_of p hr hs.2⟩))
  have HBP := mkHid (fun (hs : fbP l = true) => (show m ≤ 10 ∧ BndOk l from by
    unfold fbP at hs
    rw [Bool.and_eq_true, decide_eq_true_eq, List.all_eq_true] at hs
    exact ⟨by omega, ⟨fun b hb => ⟨hok b hb, by have := of_decide_eq_true (hs.2 b hb); omega⟩⟩⟩))
  have HPC := mkHid (fun W (hW : RowKit.Below w.heap.size w W) => h.below hW)
  have HKB := mkHid (fun W (hW : RowKit.Below w.heap.size w W) => hk.below hW)
  have HM := mkHid hm
  have HT := mkHid (fun W (hW : RowKit.Below w.heap.size w W) => (hG.step hW).tab)
  clear bx h hr hlen hok hk hG hm hbig
  obtain ⟨s, hs⟩ : ∃ s, shoP p = s := ⟨_, rfl⟩
  obtain ⟨t, ht⟩ : ∃ t, fbP l = t := ⟨_, rfl⟩
  rw [hs] at HSH HSP
  rw [ht] at HFB HBP
  clear hs ht
  generalize hq0 : p.k = q0 at *
  generalize hq1 : strN p.l = q1 at *
  generalize hq2 : strN p.r = q2 at *
  generalize hq3 : p.c = q3 at *
  clear hq0 hq1 hq2 hq3
  generalize xa = qa at *
  generalize xn = qn at *
  generalize xc = qc at *
  go_enter Tryz.func15, Tryz.ntmps15
  go_upto_region 1 with (fail)
  generalize w.alloc (.cells #[.int .i64 q0, .string q1, .string q2, .int .i64 q3, .slice qa qn qc] 25) = w1 at *
  go_wp2_with fail
  refine (HSA.out w1 B1.out).mono ?_
  rintro e w2 ⟨rfl, b2⟩
  have B2 := mkHid (B1.out.trans (b2.mono B1.out.size))
  have X2 := mkHid (X1.out.step b2)
  clear b2 HSA B1 X1
  go_upto_region 2 with (fail)
  go_wp2_with (refine wpList_load_row rfl 25 (.tmp 2) rfl w.heap.size ?a1 25 #[.int .i64 q0, .string q1, .string q2, .int .i64 q3, .slice qa qn qc] (0, 0) _ X2.out Tryz.underlying25 rfl (inf_pred _ rfl) ?_; (case a1 => rfl))
  refine (HSH.out w2 B2.out).mono ?_
  rintro e w3 ⟨rfl, b3⟩
  have B3 := mkHid (B2.out.trans (b3.mono B2.out.size))
  have X3 := mkHid (X2.out.step b3)
  clear b3 HSH B2 X2
  cases s with
  | false =>
    go_wp2
    go_ret
    exact ⟨rfl, B3.out⟩
  | true =>
    go_wp2_with fail
    refine (HFB.out w3 B3.out).mono ?_
    rintro e w4 ⟨rfl, b4⟩
    have B4 := mkHid (B3.out.trans (b4.mono B3.out.size))
    have X4 := mkHid (X3.out.step b4)
    clear b4 HFB B3 X3
    cases t with
    | false =>
      go_wp2
      go_ret
      exact ⟨rfl, B4.out⟩
    | true =>
      obtain ⟨hc110, hby⟩ := HSP.out (by trivial)
      obtain ⟨hm10, hbo⟩ := HBP.out (by trivial)
      have HBO := mkHid hbo
      have HBY := mkHid hby
      have HCN : Hid (cntP p ≤ 1000000) := mkHid (by omega)
      clear hby hbo hc110 HSP HBP
      have HNG := mkHid (fun W (hW : RowKit.Below w.heap.size w W) => pnegate_any p W P _ B HCN.out HBY.out (HPC.out W hW) (show Tab W B from HT.out W hW))
      have HVP := mkHid (fun W (hW : RowKit.Below w.heap.size w W) => vpred_any p W P _ B HCN.out HBY.out (HPC.out W hW) (show Tab W B from HT.out W hW))
      go_upto_region 4 with (fail)
      go_wp2_with (refine wpList_load_row rfl 25 (.tmp 2) rfl w.heap.size ?a2 25 #[.int .i64 q0, .string q1, .string q2, .int .i64 q3, .slice qa qn qc] (0, 0) _ X4.out Tryz.underlying25 rfl (inf_pred _ rfl) ?_; (case a2 => rfl))
      refine (HNG.out w4 B4.out).mono ?_
      rintro e w5 ⟨⟨v5, rfl, hv5⟩, b5⟩
      have B5 := mkHid (B4.out.trans (b5.mono B4.out.size))
      have X5 := mkHid (X4.out.step b5)
      clear b5 HNG B4 X4
      obtain ⟨na, nn, nc, rfl, hpn⟩ := PredV.open hv5
      clear hv5
      have bx := (RowKit.Below.refl w5.heap.size w5).alloc (Nat.le_refl _) (.cells #[.int .i64 (negV p).k, .string (strN (negV p).l), .string (strN (negV p).r), .int .i64 (negV p).c, .slice na nn nc] 25)
      have N6 : Hid (HasV (w5.alloc (.cells #[.int .i64 (negV p).k, .string (strN (negV p).l), .string (strN (negV p).r), .int .i64 (negV p).c, .slice na nn nc] 25)) w5.heap.size 25 [.int .i64 (negV p).k, .string (strN (negV p).l), .string (strN (negV p).r), .int .i64 (negV p).c, .slice na nn nc]) := mkHid (heap_alloc_new _ _)
      have X6 := mkHid (X5.out.step bx)
      have B6 := mkHid (B5.out.trans (bx.mono B5.out.size))
      have PN6 := mkHid (hpn.below bx)
      clear bx hpn X5 B5
      have HVF : Hid (negV p = if validP p = true then negP p else prd0) := mkHid rfl
      have HN0 : Hid (nn = (negV p).ks.length) := mkHid (by
        obtain ⟨a', n', c', e', hn'⟩ := PN6.out.form
        injection e' with _ e'
        injection e' with _ e'
        injection e' with _ e'
        injection e' with _ e'
        injection e' with e' _
        injection e' with _ e' _
        rw [e', hn'])
      obtain ⟨np, hnp⟩ : ∃ np, negV p = np := ⟨_, rfl⟩
      rw [hnp] at HVF PN6 N6 X6 B6 HN0 ⊢
      clear hnp
      have HCX : Hid (cntP np ≤ 100 ∧ depP np ≤ 12 ∧ BytP np) := mkHid (by
        rw [HVF.out]
        cases hv : validP p with
        | true =>
          rw [if_pos rfl]
          have hnv := neg_valid p hv
          exact ⟨(small_of hnv).1, (small_of hnv).2, byt_form _ (valid_form hnv)⟩
        | false =>
          rw [if_neg (by decide)]
          exact ⟨by decide, by decide, by unfold prd0 BytP BytL; exact ⟨⟨by simp, by simp⟩, ⟨by simp, by simp⟩, trivial⟩⟩)
      generalize np.k = n0 at *
      generalize strN np.l = n1 at *
      generalize strN np.r = n2 at *
      generalize np.c = n3 at *
      go_upto_region 5 with (fail)
      generalize w5.heap.size = AN at *
      generalize w5.alloc (.cells #[.int .i64 n0, .string n1, .string n2, .int .i64 n3, .slice na nn nc] 25) = w6 at *
      have HFN := mkHid (fun W (hW : RowKit.Below w6.heap.size w6 W) => few_any np 110 14 (by omega) (by omega) W _ _ (len_of np (by have := HCX.out.1; omega)) (PN6.out.below hW))
      have HFT : Hid (fewP np 110 14 = true) := mkHid (few_of (by have := HCX.out.1; omega) (by have := HCX.out.2.1; omega))
      rw [HFT.out] at HFN
      clear HFT
      have Z6 : Hid (RowKit.Below w6.heap.size w6 w6) := mkHid (RowKit.Below.refl _ _)
      go_wp2_with (refine wpList_load_row rfl 25 (.tmp 6) rfl AN ?a3 25 #[.int .i64 n0, .string n1, .string n2, .int .i64 n3, .slice na nn nc] (0, 0) _ N6.out Tryz.underlying25 rfl (inf_pred _ rfl) ?_; (case a3 => rfl))
      refine (HFN.out w6 Z6.out).mono ?_
      rintro e w7 ⟨rfl, b7⟩
      have Z7 := mkHid b7
      have X7 := mkHid (X6.out.step b7)
      have N7 := mkHid (N6.out.step b7)
      have B7 := mkHid (B6.out.trans (b7.mono B6.out.size))
      clear b7 HFN X6 N6 Z6
      go_upto_region 7 with (fail)
      go_wp2_with (refine wpList_load_row rfl 25 (.tmp 2) rfl w.heap.size ?a4 25 #[.int .i64 q0, .string q1, .string q2, .int .i64 q3, .slice qa qn qc] (0, 0) _ X7.out Tryz.underlying25 rfl (inf_pred _ rfl) ?_; (case a4 => rfl))
      refine (HVP.out w7 B7.out).mono ?_
      rintro e w8 ⟨rfl, b8⟩
      have Z8 := mkHid (Z7.out.trans (b8.mono Z7.out.size))
      have X8 := mkHid (X7.out.step b8)
      have N8 := mkHid (N7.out.step b8)
      have B8 := mkHid (B7.out.trans (b8.mono B7.out.size))
      clear b8 HVP X7 N7 Z7 B7
      obtain ⟨v, hv⟩ : ∃ v, validP p = v := ⟨_, rfl⟩
      rw [hv]
      have HV := mkHid hv
      clear hv
      cases v with
      | false =>
        have hnp0 : np = prd0 := by rw [HVF.out, if_neg (by rw [HV.out]; decide)]
        have hn00 : nn = 0 := by rw [HN0.out, hnp0]; rfl
        have HS8 := mkHid (fun W (hW : RowKit.Below w6.heap.size w6 W) => (show Calls Tryz.prog 20 #[.agg #[.int .i64 n0, .string n1, .string n2, .int .i64 n3, .slice na nn nc], .agg #[.int .i64 0, .string ⟨#[]⟩, .string ⟨#[]⟩, .int .i64 0, .slice none 0 0]] W fun e w' => e = .returned (.bool true) ∧ RowKit.Below W.heap.size W w' from by
          have h8 := same_any 1000000 np prd0 W _ (fun _ => True) _ pred0 (by have := HCX.out.1; omega) (Nat.le_refl _) (by decide) HCX.out.2.2 (by unfold prd0 BytP BytL; exact ⟨⟨by simp, by simp⟩, ⟨by simp, by simp⟩, trivial⟩) (PN6.out.below hW) (by unfold prd0 PredC; exact ⟨none, 0, rfl, .inl rfl⟩)
          rw [show sameP np prd0 = true from by rw [hnp0]; exact (sameP_iff _ _).2 rfl] at h8
          exact h8))
        have HNM := mkHid (fun W (hW : RowKit.Below w.heap.size w W) => pnames_any p W P _ B HCN.out HBY.out (HPC.out W hW) (show Tab W B from HT.out W hW))
        have HAM := mkHid (fun W (hW : RowKit.Below w.heap.size w W) => patoms_any p W P _ B HCN.out HBY.out (HPC.out W hW) (show Tab W B from HT.out W hW))
        rw [show nmsV p = [] from by unfold nmsV; rw [HV.out]; rfl] at HNM
        rw [show atmsP p = [] from by unfold atmsP; rw [HV.out]; rfl] at HAM
        subst hn00
        clear hnp0
        have c4 := N8.out.cell 4 _ rfl
        go_upto_region 8 with (fail)
        go_wp2_with (refine wpList_load_wanted (by rfl) 25 (.tmp 6) rfl AN (by rfl) 25 #[.int .i64 n0, .string n1, .string n2, .int .i64 n3, .slice na 0 nc] (0, 0) _ N8.out Tryz.underlying25 rfl (inf_pred _ rfl) ?_)
        refine (HS8.out w8 Z8.out).mono ?_
        rintro e w9 ⟨rfl, b9⟩
        have X9 := mkHid (X8.out.step b9)
        have B9 := mkHid (B8.out.trans (b9.mono B8.out.size))
        clear b9 c4 X8 B8 N8
        go_wp2_with (refine wpList_load_wanted (by rfl) 25 (.tmp 2) rfl w.heap.size (by rfl) 25 #[.int .i64 q0, .string q1, .string q2, .int .i64 q3, .slice qa qn qc] (0, 0) _ X9.out Tryz.underlying25 rfl (inf_pred _ rfl) ?_)
        refine (HNM.out w9 B9.out).mono ?_
        rintro e w10 ⟨a10, c10, rfl, -, b10⟩
        have X10 := mkHid (X9.out.step b10)
        have B10 := mkHid (B9.out.trans (b10.mono B9.out.size))
        clear b10 X9 B9
        go_wp2_with (refine wpList_load_wanted (by rfl) 25 (.tmp 2) rfl w.heap.size (by rfl) 25 #[.int .i64 q0, .string q1, .string q2, .int .i64 q3, .slice qa qn qc] (0, 0) _ X10.out Tryz.underlying25 rfl (inf_pred _ rfl) ?_)
        refine (HAM.out w10 B10.out).mono ?_
        rintro e w11 ⟨a11, c11, rfl, -, b11⟩
        have B11 := mkHid (B10.out.trans (b11.mono B10.out.size))
        clear b11 X10 B10
        go_wp2
        go_ret
        exact ⟨rfl, B11.out⟩
      | true =>
        have hnp0 : np = negP p := by rw [HVF.out, if_pos HV.out]
        have hnv : validP np = true := by rw [hnp0]; exact neg_valid p HV.out
        have hbk : negV np = p := by unfold negV; rw [if_pos hnv, hnp0, neg_neg p HV.out]
        have HHD := mkHid (neg_hold p l HV.out)
        rw [← hnp0] at HHD
        have HNN : Hid (nmsV np = nmsV p ∧ (atmsP np).length = (atmsP p).length) := mkHid (by
          refine ⟨?_, ?_⟩
          · unfold nmsV; rw [if_pos hnv, if_pos HV.out, hnp0]; exact neg_names p HV.out
          · unfold atmsP; rw [if_pos hnv, if_pos HV.out, hnp0]; exact neg_atoms p HV.out)
        have HNL : Hid ((nmsV p).length ≤ 1000000000) := mkHid (by
          have h1 := nodupN (nmsL_asc (atomsP p))
          have h2 : (nmsV p).length ≤ (nmsOf (atomsP p)).length := by
            unfold nmsV
            rw [if_pos HV.out]
            exact sub_lenN (namesP p) _ h1 (fun x hx => (List.mem_filter.1 ((nmsL_eq _ x).1 hx)).1)
          have h3 : (atomsP p).length ≤ 1000000 := by
            refine Nat.le_trans (nodup_len_le _ (keysP p) (asc_nodup (atomsP_asc p)) (fun x hx => (atomsP_mem p x).1 hx)) ?_
            exact Nat.le_trans (keysP_len p) HCN.out
          rw [nmsOf_len] at h2
          omega)
        have HAL : Hid ((atmsP p).length ≤ 1000000) := mkHid (by
          unfold atmsP
          rw [if_pos HV.out]
          refine Nat.le_trans (nodup_len_le _ (keysP p) (asc_nodup (atomsP_asc p)) (fun x hx => (atomsP_mem p x).1 hx)) ?_
          exact Nat.le_trans (keysP_len p) HCN.out)
        have HNC : Hid (cntP np ≤ 1000000) := mkHid (by have := HCX.out.1; omega)
        have HNB := mkHid (fun W (hW : RowKit.Below w6.heap.size w6 W) => pnegate_any np W _ _ B HNC.out HCX.out.2.2 (PN6.out.below hW) (show Tab W B from HT.out W (B6.out.trans (hW.mono B6.out.size))))
        rw [hbk] at HNB
        have HH1 := mkHid (fun W (hW : RowKit.Below w.heap.size w W) => holds_any p W P Pb _ B l bo m bc HCN.out HBY.out (HPC.out W hW) (show Tab W B from HT.out W hW) HM.out (by omega) HBO.out (HKB.out W hW))
        have HH2 := mkHid (fun W (hW : RowKit.Below w6.heap.size w6 W) => holds_any np W _ Pb _ B l bo m bc HNC.out HCX.out.2.2 (PN6.out.below hW) (show Tab W B from HT.out W (B6.out.trans (hW.mono B6.out.size))) HM.out (by omega) HBO.out (HKB.out W (B6.out.trans (hW.mono B6.out.size))))
        have HC1 := mkHid (fun W (hW : RowKit.Below w6.heap.size w6 W) => vpred_any np W _ _ B HNC.out HCX.out.2.2 (PN6.out.below hW) (show Tab W B from HT.out W (B6.out.trans (hW.mono B6.out.size))))
        rw [hnv] at HC1
        have HC16 := mkHid (fun W (hW : RowKit.Below w.heap.size w W) => pnames_any p W P _ B HCN.out HBY.out (HPC.out W hW) (show Tab W B from HT.out W hW))
        have HC18 := mkHid (fun W (hW : RowKit.Below w6.heap.size w6 W) => pnames_any np W _ _ B HNC.out HCX.out.2.2 (PN6.out.below hW) (show Tab W B from HT.out W (B6.out.trans (hW.mono B6.out.size))))
        have HC24 := mkHid (fun W (hW : RowKit.Below w.heap.size w W) => patoms_any p W P _ B HCN.out HBY.out (HPC.out W hW) (show Tab W B from HT.out W hW))
        have HC27 := mkHid (fun W (hW : RowKit.Below w6.heap.size w6 W) => patoms_any np W _ _ B HNC.out HCX.out.2.2 (PN6.out.below hW) (show Tab W B from HT.out W (B6.out.trans (hW.mono B6.out.size))))
        rw [HNN.out.1] at HC18
        rw [HNN.out.2] at HC27
        have HSM : Hid (validP p = true ∧ sameP p p = true ∧ fewP p 110 14 = true) := mkHid ⟨HV.out, (sameP_iff _ _).2 rfl, by have := small_of HV.out; exact few_of (by omega) (by omega)⟩
        clear hnp0 hnv hbk HCX HVF HNN
        go_upto_region 9 with (fail)
        go_wp2_with (refine wpList_load_row rfl 25 (.tmp 6) rfl AN ?a5 25 #[.int .i64 n0, .string n1, .string n2, .int .i64 n3, .slice na nn nc] (0, 0) _ N8.out Tryz.underlying25 rfl (inf_pred _ rfl) ?_; (case a5 => rfl))
        refine (HNB.out w8 Z8.out).mono ?_
        rintro e w9 ⟨⟨v9, rfl, hv9⟩, b9⟩
        have Z9 := mkHid (Z8.out.trans (b9.mono Z8.out.size))
        have X9 := mkHid (X8.out.step b9)
        have N9 := mkHid (N8.out.step b9)
        have B9 := mkHid (B8.out.trans (b9.mono B8.out.size))
        clear b9 HNB X8 N8 Z8 B8
        obtain ⟨ra, rn, rc, rfl, hpb⟩ := PredV.open hv9
        clear hv9
        have bx := (RowKit.Below.refl w9.heap.size w9).alloc (Nat.le_refl _) (.cells #[.int .i64 p.k, .string (strN p.l), .string (strN p.r), .int .i64 p.c, .slice ra rn rc] 25)
        have R10 : Hid (HasV (w9.alloc (.cells #[.int .i64 p.k, .string (strN p.l), .string (strN p.r), .int .i64 p.c, .slice ra rn rc] 25)) w9.heap.size 25 [.int .i64 p.k, .string (strN p.l), .string (strN p.r), .int .i64 p.c, .slice ra rn rc]) := mkHid (heap_alloc_new _ _)
        have Z10 := mkHid (Z9.out.trans (bx.mono Z9.out.size))
        have X10 := mkHid (X9.out.step bx)
        have N10 := mkHid (N9.out.step bx)
        have B10 := mkHid (B9.out.trans (bx.mono B9.out.size))
        have PB10 := mkHid (hpb.below bx)
        clear bx hpb X9 N9 Z9 B9
        have HC5 := mkHid (fun W (hW : RowKit.Below (w9.alloc (.cells #[.int .i64 p.k, .string (strN p.l), .string (strN p.r), .int .i64 p.c, .slice ra rn rc] 25)).heap.size (w9.alloc (.cells #[.int .i64 p.k, .string (strN p.l), .string (strN p.r), .int .i64 p.c, .slice ra rn rc] 25)) W) => few_any p 110 14 (by omega) (by omega) W _ _ (len_of p HCN.out) (PB10.out.below hW))
        have HC11 := mkHid (fun W (hW : RowKit.Below (w9.alloc (.cells #[.int .i64 p.k, .string (strN p.l), .string (strN p.r), .int .i64 p.c, .slice ra rn rc] 25)).heap.size (w9.alloc (.cells #[.int .i64 p.k, .string (strN p.l), .string (strN p.r), .int .i64 p.c, .slice ra rn rc] 25)) W) (hW0 : RowKit.Below w.heap.size w W) => same_any 1000000 p p W _ P _ _ HCN.out (Nat.le_refl _) HCN.out HBY.out HBY.out (PB10.out.below hW) (HPC.out W hW0))
        rw [HSM.out.2.2] at HC5
        rw [HSM.out.2.1] at HC11
        clear PB10 HSM HPC
        generalize p.k = r0 at *
        generalize strN p.l = r1 at *
        generalize strN p.r = r2 at *
        generalize p.c = r3 at *
        go_upto_region 10 with (fail)
        generalize w9.heap.size = AR at *
        generalize w9.alloc (.cells #[.int .i64 r0, .string r1, .string r2, .int .i64 r3, .slice ra rn rc] 25) = wa at *
        obtain ⟨ns, hns⟩ : ∃ ns, nmsV p = ns := ⟨_, rfl⟩
        rw [hns] at HC16 HC18 HNL
        clear hns
        obtain ⟨K, hK⟩ : ∃ K, (atmsP p).length = K := ⟨_, rfl⟩
        rw [hK] at HC24 HC27 HAL
        clear hK
        have hKb := HAL.out
        obtain ⟨a1, e1, hae⟩ : ∃ a1 e1, holdP p l = (a1, e1) := ⟨_, _, rfl⟩
        obtain ⟨a2, e2, hae2⟩ : ∃ a2 e2, holdP np l = (a2, e2) := ⟨_, _, rfl⟩
        rw [hae] at HH1 HHD
        rw [hae2] at HH2 HHD
        clear hae hae2
        go_wp2_with (refine wpList_load_row rfl 25 (.tmp 2) rfl w.heap.size ?a6 25 #[.int .i64 q0, .string q1, .string q2, .int .i64 q3, .slice qa qn qc] (0, 0) _ X10.out Tryz.underlying25 rfl (inf_pred _ rfl) ?_; (case a6 => rfl))
        refine (HH1.out wa B10.out).mono ?_
        rintro e wb ⟨rfl, b11⟩
        have Z11 := mkHid (Z10.out.trans (b11.mono Z10.out.size))
        have X11 := mkHid (X10.out.step b11)
        have N11 := mkHid (N10.out.step b11)
        have R11 := mkHid (R10.out.step b11)
        have A11 := mkHid b11
        have B11 := mkHid (B10.out.trans (b11.mono B10.out.size))
        clear b11 HH1 X10 N10 R10 Z10
        go_upto_region 11 with (fail)
        go_wp2_with (refine wpList_load_row rfl 25 (.tmp 6) rfl AN ?a7 25 #[.int .i64 n0, .string n1, .string n2, .int .i64 n3, .slice na nn nc] (0, 0) _ N11.out Tryz.underlying25 rfl (inf_pred _ rfl) ?_; (case a7 => rfl))
        refine (HH2.out wb Z11.out).mono ?_
        rintro e wc ⟨rfl, b12⟩
        have Z12 := mkHid (Z11.out.trans (b12.mono Z11.out.size))
        have X12 := mkHid (X11.out.step b12)
        have N12 := mkHid (N11.out.step b12)
        have R12 := mkHid (R11.out.step b12)
        have A12 := mkHid (A11.out.trans (b12.mono A11.out.size))
        have B12 := mkHid (B11.out.trans (b12.mono B11.out.size))
        clear b12 HH2 X11 N11 R11 Z11 A11 B11
        go_upto_region 12 with (fail)
        refine wp_region_mid (nF (.agg #[.int .i64 q0, .string q1, .string q2, .int .i64 q3, .slice qa qn qc]) (.agg #[.int .i64 n0, .string n1, .string n2, .int .i64 n3, .slice na nn nc]) (.agg #[.int .i64 r0, .string r1, .string r2, .int .i64 r3, .slice ra rn rc]) ns K) (by kernel_rfl) (nF_step _ _ _ _ _) (hdst_of (by kernel_rfl)) (hin_of (by kernel_rfl)) (hacyc_of (by kernel_rfl)) ?hs ?he
        case he =>
          intro listed a' w' H hall
          have hdn := H.done 30 _ 98 rfl (hall 30 (by decide)) rfl
          have f5 := H.same 5 (nodst_of (by kernel_rfl))
          have f8 := H.same 8 (nodst_of (by kernel_rfl))
          have f9 := H.same 9 (nodst_of (by kernel_rfl))
          have f10 := H.same 10 (nodst_of (by kernel_rfl))
          have f11 := H.same 11 (nodst_of (by kernel_rfl))
          have hb := mkHid H.below
          have hdf := H.defers
          have hts := H.tsize
          clear H
          obtain ⟨t, df⟩ := a'
          obtain ⟨f, rfl⟩ := arr126 t hts
          have hdf' : df = [] := hdf
          subst hdf'
          have h0 : f 98 = .bool false := hdn
          have g5 : f 5 = .bool true := f5
          have g8 : f 8 = .bool a1 := f8
          have g9 : f 9 = .int .i64 e1 := f9
          have g10 : f 10 = .bool a2 := f10
          have g11 : f 11 = .int .i64 e2 := f11
          rw [h0, g5, g8, g9, g10, g11]
          clear h0 g5 g8 g9 g10 g11
          clear hdn hdf hts f5 f8 f9 f10 f11
          have BF := mkHid (B12.out.trans (hb.out.mono B12.out.size))
          have hh := HHD.out
          simp only [Prod.mk.injEq] at hh
          rcases hh with ⟨⟨rfl, rfl⟩, ⟨rfl, rfl⟩⟩ | ⟨⟨rfl, rfl⟩, ⟨rfl, rfl⟩⟩ | ⟨⟨rfl, rfl⟩, ⟨rfl, rfl⟩⟩ | ⟨⟨rfl, rfl⟩, ⟨rfl, rfl⟩⟩
          · go_wp2
            go_ret
            exact ⟨rfl, BF.out⟩
          · go_wp2
            go_ret
            exact ⟨rfl, BF.out⟩
          · go_wp2
            go_ret
            exact ⟨rfl, BF.out⟩
          · go_wp2
            go_ret
            exact ⟨rfl, BF.out⟩
        case hs =>
          intro i o hi listed a' w' H hl
          have hl2 := after_listed hl
          have hb := mkHid H.below
          have f2 := H.same 2 (nodst_of (by kernel_rfl))
          have f6 := H.same 6 (nodst_of (by kernel_rfl))
          have f7 := H.same 7 (nodst_of (by kernel_rfl))
          have hdn := H.done
          have hdf := H.defers
          have hts := H.tsize
          clear hl
          obtain ⟨t, df⟩ := a'
          obtain ⟨f, rfl⟩ := arr126 t hts
          have hdf' : df = [] := hdf
          subst hdf'
          have g2 : f 2 = .pointer (some ⟨w.heap.size, 0, none⟩) := f2
          have g6 : f 6 = .pointer (some ⟨AN, 0, none⟩) := f6
          have g7 : f 7 = .pointer (some ⟨AR, 0, none⟩) := f7
          clear f2 f6 f7 hdf hts H
          rw [g2, g6, g7] at hdn ⊢
          have ZW := mkHid (Z12.out.trans (hb.out.mono Z12.out.size))
          have BW := mkHid (B12.out.trans (hb.out.mono B12.out.size))
          have AW := mkHid (A12.out.trans (hb.out.mono A12.out.size))
          match i, hi with
          | 0, hi =>
            obtain rfl := Option.some.inj hi
            clear hdn
            have XW := mkHid (N12.out.step hb.out)
            refine wpOp_list rfl ?_
            go_wp2_with (refine wpList_load_wanted (by rfl) 25 (.tmp 6) rfl AN (by rfl) 25 #[.int .i64 n0, .string n1, .string n2, .int .i64 n3, .slice na nn nc] (0, 0) _ XW.out Tryz.underlying25 rfl (inf_pred _ rfl) ?_)
            exact postOf_normal ⟨_, rfl, RowKit.Below.refl _ _, rfl⟩
          | 1, hi =>
            obtain rfl := Option.some.inj hi
            have d0 : nF (.agg #[.int .i64 q0, .string q1, .string q2, .int .i64 q3, .slice qa qn qc]) (.agg #[.int .i64 n0, .string n1, .string n2, .int .i64 n3, .slice na nn nc]) (.agg #[.int .i64 r0, .string r1, .string r2, .int .i64 r3, .slice ra rn rc]) ns K 0 w' (f 68) := hdn 0 _ 68 rfl (hl2 0 (by rfl)) rfl
            have y0 : f 68 = .agg #[.int .i64 n0, .string n1, .string n2, .int .i64 n3, .slice na nn nc] := d0
            clear hdn
            rw [y0]
            refine wpOp_list rfl ?_
            go_wp2_with fail
            refine (HC1.out w' ZW.out).mono ?_
            rintro e w2 ⟨rfl, b2⟩
            go_wp2_with fail
            exact postOf_normal ⟨_, rfl, b2, rfl⟩
          | 2, hi =>
            obtain rfl := Option.some.inj hi
            have d1 : nF (.agg #[.int .i64 q0, .string q1, .string q2, .int .i64 q3, .slice qa qn qc]) (.agg #[.int .i64 n0, .string n1, .string n2, .int .i64 n3, .slice na nn nc]) (.agg #[.int .i64 r0, .string r1, .string r2, .int .i64 r3, .slice ra rn rc]) ns K 1 w' (f 69) := hdn 1 _ 69 rfl (hl2 1 (by rfl)) rfl
            have y1 : f 69 = .bool true := d1
            clear hdn
            rw [y1]
            refine wpOp_list rfl ?_
            go_wp2_with fail
            exact postOf_normal ⟨_, rfl, RowKit.Below.refl _ _, rfl⟩
          | 3, hi =>
            obtain rfl := Option.some.inj hi
            have d2 : nF (.agg #[.int .i64 q0, .string q1, .string q2, .int .i64 q3, .slice qa qn qc]) (.agg #[.int .i64 n0, .string n1, .string n2, .int .i64 n3, .slice na nn nc]) (.agg #[.int .i64 r0, .string r1, .string r2, .int .i64 r3, .slice ra rn rc]) ns K 2 w' (f 70) := hdn 2 _ 70 rfl (hl2 2 (by rfl)) rfl
            have y2 : f 70 = .bool false := d2
            clear hdn
            rw [y2]
            refine wpOp_list rfl ?_
            go_wp2_with fail
            exact postOf_normal ⟨_, rfl, RowKit.Below.refl _ _, rfl⟩
          | 4, hi =>
            obtain rfl := Option.some.inj hi
            have d3 : nF (.agg #[.int .i64 q0, .string q1, .string q2, .int .i64 q3, .slice qa qn qc]) (.agg #[.int .i64 n0, .string n1, .string n2, .int .i64 n3, .slice na nn nc]) (.agg #[.int .i64 r0, .string r1, .string r2, .int .i64 r3, .slice ra rn rc]) ns K 3 w' (f 71) := hdn 3 _ 71 rfl (hl2 3 (by rfl)) rfl
            have y3 : f 71 = .bool false := d3
            clear hdn
            rw [y3]
            have XW := mkHid (R12.out.step hb.out)
            refine wpOp_list rfl ?_
            go_wp2_with (refine wpList_load_wanted (by rfl) 25 (.tmp 7) rfl AR (by rfl) 25 #[.int .i64 r0, .string r1, .string r2, .int .i64 r3, .slice ra rn rc] (0, 0) _ XW.out Tryz.underlying25 rfl (inf_pred _ rfl) ?_)
            exact postOf_normal ⟨_, rfl, RowKit.Below.refl _ _, rfl⟩
          | 5, hi =>
            obtain rfl := Option.some.inj hi
            have d3 : nF (.agg #[.int .i64 q0, .string q1, .string q2, .int .i64 q3, .slice qa qn qc]) (.agg #[.int .i64 n0, .string n1, .string n2, .int .i64 n3, .slice na nn nc]) (.agg #[.int .i64 r0, .string r1, .string r2, .int .i64 r3, .slice ra rn rc]) ns K 3 w' (f 71) := hdn 3 _ 71 rfl (hl2 3 (by rfl)) rfl
            have y3 : f 71 = .bool false := d3
            have d4 : nF (.agg #[.int .i64 q0, .string q1, .string q2, .int .i64 q3, .slice qa qn qc]) (.agg #[.int .i64 n0, .string n1, .string n2, .int .i64 n3, .slice na nn nc]) (.agg #[.int .i64 r0, .string r1, .string r2, .int .i64 r3, .slice ra rn rc]) ns K 4 w' (f 72) := hdn 4 _ 72 rfl (hl2 4 (by rfl)) rfl
            have y4 : f 72 = .agg #[.int .i64 r0, .string r1, .string r2, .int .i64 r3, .slice ra rn rc] := d4
            clear hdn
            rw [y3, y4]
            refine wpOp_list rfl ?_
            go_wp2_with fail
            refine (HC5.out w' AW.out).mono ?_
            rintro e w2 ⟨rfl, b2⟩
            go_wp2_with fail
            exact postOf_normal ⟨_, rfl, b2, rfl⟩
          | 6, hi =>
            obtain rfl := Option.some.inj hi
            have d3 : nF (.agg #[.int .i64 q0, .string q1, .string q2, .int .i64 q3, .slice qa qn qc]) (.agg #[.int .i64 n0, .string n1, .string n2, .int .i64 n3, .slice na nn nc]) (.agg #[.int .i64 r0, .string r1, .string r2, .int .i64 r3, .slice ra rn rc]) ns K 3 w' (f 71) := hdn 3 _ 71 rfl (hl2 3 (by rfl)) rfl
            have y3 : f 71 = .bool false := d3
            have d5 : nF (.agg #[.int .i64 q0, .string q1, .string q2, .int .i64 q3, .slice qa qn qc]) (.agg #[.int .i64 n0, .string n1, .string n2, .int .i64 n3, .slice na nn nc]) (.agg #[.int .i64 r0, .string r1, .string r2, .int .i64 r3, .slice ra rn rc]) ns K 5 w' (f 73) := hdn 5 _ 73 rfl (hl2 5 (by rfl)) rfl
            have y5 : f 73 = .bool true := d5
            clear hdn
            rw [y3, y5]
            refine wpOp_list rfl ?_
            go_wp2_with fail
            exact postOf_normal ⟨_, rfl, RowKit.Below.refl _ _, rfl⟩
          | 7, hi =>
            obtain rfl := Option.some.inj hi
            have d3 : nF (.agg #[.int .i64 q0, .string q1, .string q2, .int .i64 q3, .slice qa qn qc]) (.agg #[.int .i64 n0, .string n1, .string n2, .int .i64 n3, .slice na nn nc]) (.agg #[.int .i64 r0, .string r1, .string r2, .int .i64 r3, .slice ra rn rc]) ns K 3 w' (f 71) := hdn 3 _ 71 rfl (hl2 3 (by rfl)) rfl
            have y3 : f 71 = .bool false := d3
            have d6 : nF (.agg #[.int .i64 q0, .string q1, .string q2, .int .i64 q3, .slice qa qn qc]) (.agg #[.int .i64 n0, .string n1, .string n2, .int .i64 n3, .slice na nn nc]) (.agg #[.int .i64 r0, .string r1, .string r2, .int .i64 r3, .slice ra rn rc]) ns K 6 w' (f 74) := hdn 6 _ 74 rfl (hl2 6 (by rfl)) rfl
            have y6 : f 74 = .bool false := d6
            clear hdn
            rw [y3, y6]
            refine wpOp_list rfl ?_
            go_wp2_with fail
            exact postOf_normal ⟨_, rfl, RowKit.Below.refl _ _, rfl⟩
          | 8, hi =>
            obtain rfl := Option.some.inj hi
            have d7 : nF (.agg #[.int .i64 q0, .string q1, .string q2, .int .i64 q3, .slice qa qn qc]) (.agg #[.int .i64 n0, .string n1, .string n2, .int .i64 n3, .slice na nn nc]) (.agg #[.int .i64 r0, .string r1, .string r2, .int .i64 r3, .slice ra rn rc]) ns K 7 w' (f 75) := hdn 7 _ 75 rfl (hl2 7 (by rfl)) rfl
            have y7 : f 75 = .bool false := d7
            clear hdn
            rw [y7]
            refine wpOp_list rfl ?_
            go_wp2_with fail
            exact postOf_normal ⟨_, rfl, RowKit.Below.refl _ _, rfl⟩
          | 9, hi =>
            obtain rfl := Option.some.inj hi
            have d8 : nF (.agg #[.int .i64 q0, .string q1, .string q2, .int .i64 q3, .slice qa qn qc]) (.agg #[.int .i64 n0, .string n1, .string n2, .int .i64 n3, .slice na nn nc]) (.agg #[.int .i64 r0, .string r1, .string r2, .int .i64 r3, .slice ra rn rc]) ns K 8 w' (f 76) := hdn 8 _ 76 rfl (hl2 8 (by rfl)) rfl
            have y8 : f 76 = .bool false := d8
            clear hdn
            rw [y8]
            have XW := mkHid (R12.out.step hb.out)
            refine wpOp_list rfl ?_
            go_wp2_with (refine wpList_load_wanted (by rfl) 25 (.tmp 7) rfl AR (by rfl) 25 #[.int .i64 r0, .string r1, .string r2, .int .i64 r3, .slice ra rn rc] (0, 0) _ XW.out Tryz.underlying25 rfl (inf_pred _ rfl) ?_)
            exact postOf_normal ⟨_, rfl, RowKit.Below.refl _ _, rfl⟩
          | 10, hi =>
            obtain rfl := Option.some.inj hi
            have d8 : nF (.agg #[.int .i64 q0, .string q1, .string q2, .int .i64 q3, .slice qa qn qc]) (.agg #[.int .i64 n0, .string n1, .string n2, .int .i64 n3, .slice na nn nc]) (.agg #[.int .i64 r0, .string r1, .string r2, .int .i64 r3, .slice ra rn rc]) ns K 8 w' (f 76) := hdn 8 _ 76 rfl (hl2 8 (by rfl)) rfl
            have y8 : f 76 = .bool false := d8
            clear hdn
            rw [y8]
            have XW := mkHid (X12.out.step hb.out)
            refine wpOp_list rfl ?_
            go_wp2_with (refine wpList_load_wanted (by rfl) 25 (.tmp 2) rfl w.heap.size (by rfl) 25 #[.int .i64 q0, .string q1, .string q2, .int .i64 q3, .slice qa qn qc] (0, 0) _ XW.out Tryz.underlying25 rfl (inf_pred _ rfl) ?_)
            exact postOf_normal ⟨_, rfl, RowKit.Below.refl _ _, rfl⟩
          | 11, hi =>
            obtain rfl := Option.some.inj hi
            have d8 : nF (.agg #[.int .i64 q0, .string q1, .string q2, .int .i64 q3, .slice qa qn qc]) (.agg #[.int .i64 n0, .string n1, .string n2, .int .i64 n3, .slice na nn nc]) (.agg #[.int .i64 r0, .string r1, .string r2, .int .i64 r3, .slice ra rn rc]) ns K 8 w' (f 76) := hdn 8 _ 76 rfl (hl2 8 (by rfl)) rfl
            have y8 : f 76 = .bool false := d8
            have d9 : nF (.agg #[.int .i64 q0, .string q1, .string q2, .int .i64 q3, .slice qa qn qc]) (.agg #[.int .i64 n0, .string n1, .string n2, .int .i64 n3, .slice na nn nc]) (.agg #[.int .i64 r0, .string r1, .string r2, .int .i64 r3, .slice ra rn rc]) ns K 9 w' (f 77) := hdn 9 _ 77 rfl (hl2 9 (by rfl)) rfl
            have y9 : f 77 = .agg #[.int .i64 r0, .string r1, .string r2, .int .i64 r3, .slice ra rn rc] := d9
            have d10 : nF (.agg #[.int .i64 q0, .string q1, .string q2, .int .i64 q3, .slice qa qn qc]) (.agg #[.int .i64 n0, .string n1, .string n2, .int .i64 n3, .slice na nn nc]) (.agg #[.int .i64 r0, .string r1, .string r2, .int .i64 r3, .slice ra rn rc]) ns K 10 w' (f 78) := hdn 10 _ 78 rfl (hl2 10 (by rfl)) rfl
            have y10 : f 78 = .agg #[.int .i64 q0, .string q1, .string q2, .int .i64 q3, .slice qa qn qc] := d10
            clear hdn
            rw [y8, y9, y10]
            refine wpOp_list rfl ?_
            go_wp2_with fail
            refine (HC11.out w' AW.out BW.out).mono ?_
            rintro e w2 ⟨rfl, b2⟩
            go_wp2_with fail
            exact postOf_normal ⟨_, rfl, b2, rfl⟩
          | 12, hi =>
            obtain rfl := Option.some.inj hi
            have d8 : nF (.agg #[.int .i64 q0, .string q1, .string q2, .int .i64 q3, .slice qa qn qc]) (.agg #[.int .i64 n0, .string n1, .string n2, .int .i64 n3, .slice na nn nc]) (.agg #[.int .i64 r0, .string r1, .string r2, .int .i64 r3, .slice ra rn rc]) ns K 8 w' (f 76) := hdn 8 _ 76 rfl (hl2 8 (by rfl)) rfl
            have y8 : f 76 = .bool false := d8
            have d11 : nF (.agg #[.int .i64 q0, .string q1, .string q2, .int .i64 q3, .slice qa qn qc]) (.agg #[.int .i64 n0, .string n1, .string n2, .int .i64 n3, .slice na nn nc]) (.agg #[.int .i64 r0, .string r1, .string r2, .int .i64 r3, .slice ra rn rc]) ns K 11 w' (f 79) := hdn 11 _ 79 rfl (hl2 11 (by rfl)) rfl
            have y11 : f 79 = .bool true := d11
            clear hdn
            rw [y8, y11]
            refine wpOp_list rfl ?_
            go_wp2_with fail
            exact postOf_normal ⟨_, rfl, RowKit.Below.refl _ _, rfl⟩
          | 13, hi =>
            obtain rfl := Option.some.inj hi
            have d8 : nF (.agg #[.int .i64 q0, .string q1, .string q2, .int .i64 q3, .slice qa qn qc]) (.agg #[.int .i64 n0, .string n1, .string n2, .int .i64 n3, .slice na nn nc]) (.agg #[.int .i64 r0, .string r1, .string r2, .int .i64 r3, .slice ra rn rc]) ns K 8 w' (f 76) := hdn 8 _ 76 rfl (hl2 8 (by rfl)) rfl
            have y8 : f 76 = .bool false := d8
            have d12 : nF (.agg #[.int .i64 q0, .string q1, .string q2, .int .i64 q3, .slice qa qn qc]) (.agg #[.int .i64 n0, .string n1, .string n2, .int .i64 n3, .slice na nn nc]) (.agg #[.int .i64 r0, .string r1, .string r2, .int .i64 r3, .slice ra rn rc]) ns K 12 w' (f 80) := hdn 12 _ 80 rfl (hl2 12 (by rfl)) rfl
            have y12 : f 80 = .bool false := d12
            clear hdn
            rw [y8, y12]
            refine wpOp_list rfl ?_
            go_wp2_with fail
            exact postOf_normal ⟨_, rfl, RowKit.Below.refl _ _, rfl⟩
          | 14, hi =>
            obtain rfl := Option.some.inj hi
            have d13 : nF (.agg #[.int .i64 q0, .string q1, .string q2, .int .i64 q3, .slice qa qn qc]) (.agg #[.int .i64 n0, .string n1, .string n2, .int .i64 n3, .slice na nn nc]) (.agg #[.int .i64 r0, .string r1, .string r2, .int .i64 r3, .slice ra rn rc]) ns K 13 w' (f 81) := hdn 13 _ 81 rfl (hl2 13 (by rfl)) rfl
            have y13 : f 81 = .bool false := d13
            clear hdn
            rw [y13]
            refine wpOp_list rfl ?_
            go_wp2_with fail
            exact postOf_normal ⟨_, rfl, RowKit.Below.refl _ _, rfl⟩
          | 15, hi =>
            obtain rfl := Option.some.inj hi
            have d14 : nF (.agg #[.int .i64 q0, .string q1, .string q2, .int .i64 q3, .slice qa qn qc]) (.agg #[.int .i64 n0, .string n1, .string n2, .int .i64 n3, .slice na nn nc]) (.agg #[.int .i64 r0, .string r1, .string r2, .int .i64 r3, .slice ra rn rc]) ns K 14 w' (f 82) := hdn 14 _ 82 rfl (hl2 14 (by rfl)) rfl
            have y14 : f 82 = .bool false := d14
            clear hdn
            rw [y14]
            have XW := mkHid (X12.out.step hb.out)
            refine wpOp_list rfl ?_
            go_wp2_with (refine wpList_load_wanted (by rfl) 25 (.tmp 2) rfl w.heap.size (by rfl) 25 #[.int .i64 q0, .string q1, .string q2, .int .i64 q3, .slice qa qn qc] (0, 0) _ XW.out Tryz.underlying25 rfl (inf_pred _ rfl) ?_)
            exact postOf_normal ⟨_, rfl, RowKit.Below.refl _ _, rfl⟩
          | 16, hi =>
            obtain rfl := Option.some.inj hi
            have d14 : nF (.agg #[.int .i64 q0, .string q1, .string q2, .int .i64 q3, .slice qa qn qc]) (.agg #[.int .i64 n0, .string n1, .string n2, .int .i64 n3, .slice na nn nc]) (.agg #[.int .i64 r0, .string r1, .string r2, .int .i64 r3, .slice ra rn rc]) ns K 14 w' (f 82) := hdn 14 _ 82 rfl (hl2 14 (by rfl)) rfl
            have y14 : f 82 = .bool false := d14
            have d15 : nF (.agg #[.int .i64 q0, .string q1, .string q2, .int .i64 q3, .slice qa qn qc]) (.agg #[.int .i64 n0, .string n1, .string n2, .int .i64 n3, .slice na nn nc]) (.agg #[.int .i64 r0, .string r1, .string r2, .int .i64 r3, .slice ra rn rc]) ns K 15 w' (f 83) := hdn 15 _ 83 rfl (hl2 15 (by rfl)) rfl
            have y15 : f 83 = .agg #[.int .i64 q0, .string q1, .string q2, .int .i64 q3, .slice qa qn qc] := d15
            clear hdn
            rw [y14, y15]
            refine wpOp_list rfl ?_
            go_wp2_with fail
            refine (HC16.out w' BW.out).mono ?_
            rintro e w2 ⟨ao, cp, rfl, ho, b2⟩
            have HO := mkHid (ho.strsR rfl)
            clear ho
            go_wp2_with fail
            exact postOf_normal ⟨_, rfl, b2, ⟨ao, cp, rfl, HO.out⟩⟩
          | 17, hi =>
            obtain rfl := Option.some.inj hi
            have d14 : nF (.agg #[.int .i64 q0, .string q1, .string q2, .int .i64 q3, .slice qa qn qc]) (.agg #[.int .i64 n0, .string n1, .string n2, .int .i64 n3, .slice na nn nc]) (.agg #[.int .i64 r0, .string r1, .string r2, .int .i64 r3, .slice ra rn rc]) ns K 14 w' (f 82) := hdn 14 _ 82 rfl (hl2 14 (by rfl)) rfl
            have y14 : f 82 = .bool false := d14
            clear hdn
            rw [y14]
            have XW := mkHid (N12.out.step hb.out)
            refine wpOp_list rfl ?_
            go_wp2_with (refine wpList_load_wanted (by rfl) 25 (.tmp 6) rfl AN (by rfl) 25 #[.int .i64 n0, .string n1, .string n2, .int .i64 n3, .slice na nn nc] (0, 0) _ XW.out Tryz.underlying25 rfl (inf_pred _ rfl) ?_)
            exact postOf_normal ⟨_, rfl, RowKit.Below.refl _ _, rfl⟩
          | 18, hi =>
            obtain rfl := Option.some.inj hi
            have d14 : nF (.agg #[.int .i64 q0, .string q1, .string q2, .int .i64 q3, .slice qa qn qc]) (.agg #[.int .i64 n0, .string n1, .string n2, .int .i64 n3, .slice na nn nc]) (.agg #[.int .i64 r0, .string r1, .string r2, .int .i64 r3, .slice ra rn rc]) ns K 14 w' (f 82) := hdn 14 _ 82 rfl (hl2 14 (by rfl)) rfl
            have y14 : f 82 = .bool false := d14
            have d17 : nF (.agg #[.int .i64 q0, .string q1, .string q2, .int .i64 q3, .slice qa qn qc]) (.agg #[.int .i64 n0, .string n1, .string n2, .int .i64 n3, .slice na nn nc]) (.agg #[.int .i64 r0, .string r1, .string r2, .int .i64 r3, .slice ra rn rc]) ns K 17 w' (f 85) := hdn 17 _ 85 rfl (hl2 17 (by rfl)) rfl
            have y17 : f 85 = .agg #[.int .i64 n0, .string n1, .string n2, .int .i64 n3, .slice na nn nc] := d17
            clear hdn
            rw [y14, y17]
            refine wpOp_list rfl ?_
            go_wp2_with fail
            refine (HC18.out w' ZW.out).mono ?_
            rintro e w2 ⟨ao, cp, rfl, ho, b2⟩
            have HO := mkHid (ho.strsR rfl)
            clear ho
            go_wp2_with fail
            exact postOf_normal ⟨_, rfl, b2, ⟨ao, cp, rfl, HO.out⟩⟩
          | 19, hi =>
            obtain rfl := Option.some.inj hi
            have d14 : nF (.agg #[.int .i64 q0, .string q1, .string q2, .int .i64 q3, .slice qa qn qc]) (.agg #[.int .i64 n0, .string n1, .string n2, .int .i64 n3, .slice na nn nc]) (.agg #[.int .i64 r0, .string r1, .string r2, .int .i64 r3, .slice ra rn rc]) ns K 14 w' (f 82) := hdn 14 _ 82 rfl (hl2 14 (by rfl)) rfl
            have y14 : f 82 = .bool false := d14
            have d16 : nF (.agg #[.int .i64 q0, .string q1, .string q2, .int .i64 q3, .slice qa qn qc]) (.agg #[.int .i64 n0, .string n1, .string n2, .int .i64 n3, .slice na nn nc]) (.agg #[.int .i64 r0, .string r1, .string r2, .int .i64 r3, .slice ra rn rc]) ns K 16 w' (f 84) := hdn 16 _ 84 rfl (hl2 16 (by rfl)) rfl
            obtain ⟨a16, c16, y16, k16⟩ := d16
            have d18 : nF (.agg #[.int .i64 q0, .string q1, .string q2, .int .i64 q3, .slice qa qn qc]) (.agg #[.int .i64 n0, .string n1, .string n2, .int .i64 n3, .slice na nn nc]) (.agg #[.int .i64 r0, .string r1, .string r2, .int .i64 r3, .slice ra rn rc]) ns K 18 w' (f 86) := hdn 18 _ 86 rfl (hl2 18 (by rfl)) rfl
            obtain ⟨a18, c18, y18, k18⟩ := d18
            have hc := mkHid (snames_same w' ns a16 a18 ns.length c16 c18 rfl HNL.out k16 k18)
            clear hdn
            rw [y14, y16, y18]
            refine wpOp_list rfl ?_
            go_wp2_with fail
            refine (hc.out).mono ?_
            rintro e w2 ⟨rfl, b2⟩
            go_wp2_with fail
            exact postOf_normal ⟨_, rfl, b2, rfl⟩
          | 20, hi =>
            obtain rfl := Option.some.inj hi
            have d14 : nF (.agg #[.int .i64 q0, .string q1, .string q2, .int .i64 q3, .slice qa qn qc]) (.agg #[.int .i64 n0, .string n1, .string n2, .int .i64 n3, .slice na nn nc]) (.agg #[.int .i64 r0, .string r1, .string r2, .int .i64 r3, .slice ra rn rc]) ns K 14 w' (f 82) := hdn 14 _ 82 rfl (hl2 14 (by rfl)) rfl
            have y14 : f 82 = .bool false := d14
            have d19 : nF (.agg #[.int .i64 q0, .string q1, .string q2, .int .i64 q3, .slice qa qn qc]) (.agg #[.int .i64 n0, .string n1, .string n2, .int .i64 n3, .slice na nn nc]) (.agg #[.int .i64 r0, .string r1, .string r2, .int .i64 r3, .slice ra rn rc]) ns K 19 w' (f 87) := hdn 19 _ 87 rfl (hl2 19 (by rfl)) rfl
            have y19 : f 87 = .bool true := d19
            clear hdn
            rw [y14, y19]
            refine wpOp_list rfl ?_
            go_wp2_with fail
            exact postOf_normal ⟨_, rfl, RowKit.Below.refl _ _, rfl⟩
          | 21, hi =>
            obtain rfl := Option.some.inj hi
            have d14 : nF (.agg #[.int .i64 q0, .string q1, .string q2, .int .i64 q3, .slice qa qn qc]) (.agg #[.int .i64 n0, .string n1, .string n2, .int .i64 n3, .slice na nn nc]) (.agg #[.int .i64 r0, .string r1, .string r2, .int .i64 r3, .slice ra rn rc]) ns K 14 w' (f 82) := hdn 14 _ 82 rfl (hl2 14 (by rfl)) rfl
            have y14 : f 82 = .bool false := d14
            have d20 : nF (.agg #[.int .i64 q0, .string q1, .string q2, .int .i64 q3, .slice qa qn qc]) (.agg #[.int .i64 n0, .string n1, .string n2, .int .i64 n3, .slice na nn nc]) (.agg #[.int .i64 r0, .string r1, .string r2, .int .i64 r3, .slice ra rn rc]) ns K 20 w' (f 88) := hdn 20 _ 88 rfl (hl2 20 (by rfl)) rfl
            have y20 : f 88 = .bool false := d20
            clear hdn
            rw [y14, y20]
            refine wpOp_list rfl ?_
            go_wp2_with fail
            exact postOf_normal ⟨_, rfl, RowKit.Below.refl _ _, rfl⟩
          | 22, hi =>
            obtain rfl := Option.some.inj hi
            have d21 : nF (.agg #[.int .i64 q0, .string q1, .string q2, .int .i64 q3, .slice qa qn qc]) (.agg #[.int .i64 n0, .string n1, .string n2, .int .i64 n3, .slice na nn nc]) (.agg #[.int .i64 r0, .string r1, .string r2, .int .i64 r3, .slice ra rn rc]) ns K 21 w' (f 89) := hdn 21 _ 89 rfl (hl2 21 (by rfl)) rfl
            have y21 : f 89 = .bool false := d21
            clear hdn
            rw [y21]
            refine wpOp_list rfl ?_
            go_wp2_with fail
            exact postOf_normal ⟨_, rfl, RowKit.Below.refl _ _, rfl⟩
          | 23, hi =>
            obtain rfl := Option.some.inj hi
            have d22 : nF (.agg #[.int .i64 q0, .string q1, .string q2, .int .i64 q3, .slice qa qn qc]) (.agg #[.int .i64 n0, .string n1, .string n2, .int .i64 n3, .slice na nn nc]) (.agg #[.int .i64 r0, .string r1, .string r2, .int .i64 r3, .slice ra rn rc]) ns K 22 w' (f 90) := hdn 22 _ 90 rfl (hl2 22 (by rfl)) rfl
            have y22 : f 90 = .bool false := d22
            clear hdn
            rw [y22]
            have XW := mkHid (X12.out.step hb.out)
            refine wpOp_list rfl ?_
            go_wp2_with (refine wpList_load_wanted (by rfl) 25 (.tmp 2) rfl w.heap.size (by rfl) 25 #[.int .i64 q0, .string q1, .string q2, .int .i64 q3, .slice qa qn qc] (0, 0) _ XW.out Tryz.underlying25 rfl (inf_pred _ rfl) ?_)
            exact postOf_normal ⟨_, rfl, RowKit.Below.refl _ _, rfl⟩
          | 24, hi =>
            obtain rfl := Option.some.inj hi
            have d22 : nF (.agg #[.int .i64 q0, .string q1, .string q2, .int .i64 q3, .slice qa qn qc]) (.agg #[.int .i64 n0, .string n1, .string n2, .int .i64 n3, .slice na nn nc]) (.agg #[.int .i64 r0, .string r1, .string r2, .int .i64 r3, .slice ra rn rc]) ns K 22 w' (f 90) := hdn 22 _ 90 rfl (hl2 22 (by rfl)) rfl
            have y22 : f 90 = .bool false := d22
            have d23 : nF (.agg #[.int .i64 q0, .string q1, .string q2, .int .i64 q3, .slice qa qn qc]) (.agg #[.int .i64 n0, .string n1, .string n2, .int .i64 n3, .slice na nn nc]) (.agg #[.int .i64 r0, .string r1, .string r2, .int .i64 r3, .slice ra rn rc]) ns K 23 w' (f 91) := hdn 23 _ 91 rfl (hl2 23 (by rfl)) rfl
            have y23 : f 91 = .agg #[.int .i64 q0, .string q1, .string q2, .int .i64 q3, .slice qa qn qc] := d23
            clear hdn
            rw [y22, y23]
            refine wpOp_list rfl ?_
            go_wp2_with fail
            refine (HC24.out w' BW.out).mono ?_
            rintro e w2 ⟨ao, cp, rfl, -, b2⟩
            go_wp2_with fail
            exact postOf_normal ⟨_, rfl, b2, ⟨ao, cp, rfl⟩⟩
          | 25, hi =>
            obtain rfl := Option.some.inj hi
            have d22 : nF (.agg #[.int .i64 q0, .string q1, .string q2, .int .i64 q3, .slice qa qn qc]) (.agg #[.int .i64 n0, .string n1, .string n2, .int .i64 n3, .slice na nn nc]) (.agg #[.int .i64 r0, .string r1, .string r2, .int .i64 r3, .slice ra rn rc]) ns K 22 w' (f 90) := hdn 22 _ 90 rfl (hl2 22 (by rfl)) rfl
            have y22 : f 90 = .bool false := d22
            have d24 : nF (.agg #[.int .i64 q0, .string q1, .string q2, .int .i64 q3, .slice qa qn qc]) (.agg #[.int .i64 n0, .string n1, .string n2, .int .i64 n3, .slice na nn nc]) (.agg #[.int .i64 r0, .string r1, .string r2, .int .i64 r3, .slice ra rn rc]) ns K 24 w' (f 92) := hdn 24 _ 92 rfl (hl2 24 (by rfl)) rfl
            obtain ⟨a24, c24, y24⟩ := d24
            clear hdn
            rw [y22, y24]
            refine wpOp_list rfl ?_
            go_wp2_with fail
            exact postOf_normal ⟨_, rfl, RowKit.Below.refl _ _, rfl⟩
          | 26, hi =>
            obtain rfl := Option.some.inj hi
            have d22 : nF (.agg #[.int .i64 q0, .string q1, .string q2, .int .i64 q3, .slice qa qn qc]) (.agg #[.int .i64 n0, .string n1, .string n2, .int .i64 n3, .slice na nn nc]) (.agg #[.int .i64 r0, .string r1, .string r2, .int .i64 r3, .slice ra rn rc]) ns K 22 w' (f 90) := hdn 22 _ 90 rfl (hl2 22 (by rfl)) rfl
            have y22 : f 90 = .bool false := d22
            clear hdn
            rw [y22]
            have XW := mkHid (N12.out.step hb.out)
            refine wpOp_list rfl ?_
            go_wp2_with (refine wpList_load_wanted (by rfl) 25 (.tmp 6) rfl AN (by rfl) 25 #[.int .i64 n0, .string n1, .string n2, .int .i64 n3, .slice na nn nc] (0, 0) _ XW.out Tryz.underlying25 rfl (inf_pred _ rfl) ?_)
            exact postOf_normal ⟨_, rfl, RowKit.Below.refl _ _, rfl⟩
          | 27, hi =>
            obtain rfl := Option.some.inj hi
            have d22 : nF (.agg #[.int .i64 q0, .string q1, .string q2, .int .i64 q3, .slice qa qn qc]) (.agg #[.int .i64 n0, .string n1, .string n2, .int .i64 n3, .slice na nn nc]) (.agg #[.int .i64 r0, .string r1, .string r2, .int .i64 r3, .slice ra rn rc]) ns K 22 w' (f 90) := hdn 22 _ 90 rfl (hl2 22 (by rfl)) rfl
            have y22 : f 90 = .bool false := d22
            have d26 : nF (.agg #[.int .i64 q0, .string q1, .string q2, .int .i64 q3, .slice qa qn qc]) (.agg #[.int .i64 n0, .string n1, .string n2, .int .i64 n3, .slice na nn nc]) (.agg #[.int .i64 r0, .string r1, .string r2, .int .i64 r3, .slice ra rn rc]) ns K 26 w' (f 94) := hdn 26 _ 94 rfl (hl2 26 (by rfl)) rfl
            have y26 : f 94 = .agg #[.int .i64 n0, .string n1, .string n2, .int .i64 n3, .slice na nn nc] := d26
            clear hdn
            rw [y22, y26]
            refine wpOp_list rfl ?_
            go_wp2_with fail
            refine (HC27.out w' ZW.out).mono ?_
            rintro e w2 ⟨ao, cp, rfl, -, b2⟩
            go_wp2_with fail
            exact postOf_normal ⟨_, rfl, b2, ⟨ao, cp, rfl⟩⟩
          | 28, hi =>
            obtain rfl := Option.some.inj hi
            have d22 : nF (.agg #[.int .i64 q0, .string q1, .string q2, .int .i64 q3, .slice qa qn qc]) (.agg #[.int .i64 n0, .string n1, .string n2, .int .i64 n3, .slice na nn nc]) (.agg #[.int .i64 r0, .string r1, .string r2, .int .i64 r3, .slice ra rn rc]) ns K 22 w' (f 90) := hdn 22 _ 90 rfl (hl2 22 (by rfl)) rfl
            have y22 : f 90 = .bool false := d22
            have d27 : nF (.agg #[.int .i64 q0, .string q1, .string q2, .int .i64 q3, .slice qa qn qc]) (.agg #[.int .i64 n0, .string n1, .string n2, .int .i64 n3, .slice na nn nc]) (.agg #[.int .i64 r0, .string r1, .string r2, .int .i64 r3, .slice ra rn rc]) ns K 27 w' (f 95) := hdn 27 _ 95 rfl (hl2 27 (by rfl)) rfl
            obtain ⟨a27, c27, y27⟩ := d27
            clear hdn
            rw [y22, y27]
            refine wpOp_list rfl ?_
            go_wp2_with fail
            exact postOf_normal ⟨_, rfl, RowKit.Below.refl _ _, rfl⟩
          | 29, hi =>
            obtain rfl := Option.some.inj hi
            have d22 : nF (.agg #[.int .i64 q0, .string q1, .string q2, .int .i64 q3, .slice qa qn qc]) (.agg #[.int .i64 n0, .string n1, .string n2, .int .i64 n3, .slice na nn nc]) (.agg #[.int .i64 r0, .string r1, .string r2, .int .i64 r3, .slice ra rn rc]) ns K 22 w' (f 90) := hdn 22 _ 90 rfl (hl2 22 (by rfl)) rfl
            have y22 : f 90 = .bool false := d22
            have d25 : nF (.agg #[.int .i64 q0, .string q1, .string q2, .int .i64 q3, .slice qa qn qc]) (.agg #[.int .i64 n0, .string n1, .string n2, .int .i64 n3, .slice na nn nc]) (.agg #[.int .i64 r0, .string r1, .string r2, .int .i64 r3, .slice ra rn rc]) ns K 25 w' (f 93) := hdn 25 _ 93 rfl (hl2 25 (by rfl)) rfl
            have y25 : f 93 = .int .i64 (K : Int) := d25
            have d28 : nF (.agg #[.int .i64 q0, .string q1, .string q2, .int .i64 q3, .slice qa qn qc]) (.agg #[.int .i64 n0, .string n1, .string n2, .int .i64 n3, .slice na nn nc]) (.agg #[.int .i64 r0, .string r1, .string r2, .int .i64 r3, .slice ra rn rc]) ns K 28 w' (f 96) := hdn 28 _ 96 rfl (hl2 28 (by rfl)) rfl
            have y28 : f 96 = .int .i64 (K : Int) := d28
            clear hdn
            rw [y22, y25, y28]
            refine wpOp_list rfl ?_
            go_wp2_with fail
            exact postOf_normal ⟨_, rfl, RowKit.Below.refl _ _, rfl⟩
          | 30, hi =>
            obtain rfl := Option.some.inj hi
            have d22 : nF (.agg #[.int .i64 q0, .string q1, .string q2, .int .i64 q3, .slice qa qn qc]) (.agg #[.int .i64 n0, .string n1, .string n2, .int .i64 n3, .slice na nn nc]) (.agg #[.int .i64 r0, .string r1, .string r2, .int .i64 r3, .slice ra rn rc]) ns K 22 w' (f 90) := hdn 22 _ 90 rfl (hl2 22 (by rfl)) rfl
            have y22 : f 90 = .bool false := d22
            have d29 : nF (.agg #[.int .i64 q0, .string q1, .string q2, .int .i64 q3, .slice qa qn qc]) (.agg #[.int .i64 n0, .string n1, .string n2, .int .i64 n3, .slice na nn nc]) (.agg #[.int .i64 r0, .string r1, .string r2, .int .i64 r3, .slice ra rn rc]) ns K 29 w' (f 97) := hdn 29 _ 97 rfl (hl2 29 (by rfl)) rfl
            have y29 : f 97 = .bool false := d29
            clear hdn
            rw [y22, y29]
            refine wpOp_list rfl ?_
            go_wp2_with fail
            exact postOf_normal ⟨_, rfl, RowKit.Below.refl _ _, rfl⟩
          | n + 31, hi => exact absurd hi (by simp)
end Go.Proofs.YtmkdfbelbcocpaaGreatDoor
