/- Predicates that came in and are short; the count of nodes (plain). No program in sight. The walk of AskNormal. The law's proper and without; choices copied into a row of one's own (walks). The walk of AskPrime. -/
import Derived.Sort.KeysCollected
import Derived.Shelf.SlIter.Nil
import Derived.Shelf.SortM.Plain
import Derived.Shelf.SortM.SortNone
import Derived.Ground.GgzProg
import Derived.Ground.SlgmProg
import Derived.Test.YtmkdfbelbcocpaaGreatDoorProg
import Derived.Test.YtmkdfbelbcocpaaGreatDoorBP24
import Derived.Test.YtmkdfbelbcocpaaGreatDoorBP25
set_option linter.unusedVariables false
set_option linter.unusedSimpArgs false
namespace Go.Proofs.YtmkdfbelbcocpaaGreatDoor
mutual
/-- All names are of bytes. -/
def RawP : Prd → Prop
  | .mk _ l r _ ks => (∀ y ∈ l, y < 256) ∧ (∀ y ∈ r, y < 256) ∧ RawL ks
def RawL : List Prd → Prop
  | [] => True
  | p :: ps => RawP p ∧ RawL ps
end
theorem RawL_iff : ∀ ks : List Prd, RawL ks ↔ ∀ q ∈ ks, RawP q
  | [] => by simp [RawL]
  | p :: ps => by simp [RawL, RawL_iff ps]
mutual
theorem byt_of : ∀ p, RawP p → namP p = true → BytP p
  | .mk k l r c ks, h, hn => by
    unfold RawP at h
    unfold namP at hn
    simp only [Bool.and_eq_true, decide_eq_true_eq] at hn
    unfold BytP
    exact ⟨⟨h.1, by omega⟩, ⟨h.2.1, by omega⟩, byt_ofL ks h.2.2 hn.1⟩
theorem byt_ofL : ∀ ks, RawL ks → namL ks = true → BytL ks
  | [], _, _ => by unfold BytL; trivial
  | p :: ps, h, hn => by
    unfold RawL at h
    unfold namL at hn
    rw [Bool.and_eq_true] at hn
    unfold BytL
    exact ⟨byt_of p h.1 hn.1, byt_ofL ps h.2 hn.2⟩
end
theorem couL_ge (M L : Nat) : ∀ (ks : List Prd) (n : Nat), n ≤ couL M L n ks
  | [], n => by rw [couL]; exact Nat.le_refl _
  | q :: qs, n => by
    rw [couL]
    split
    · exact Nat.le_trans (Nat.le_add_right _ _) (couL_ge M L qs _)
    · exact Nat.le_refl _
theorem couL_cnt (M L : Nat) (h : ∀ q, couP M L q ≤ M → cntP q ≤ couP M L q) : ∀ (ks : List Prd) (n : Nat), couL M L n ks ≤ M → n + cntL ks ≤ couL M L n ks
  | [], n, _ => by rw [couL, cntL]; exact Nat.le_refl _
  | q :: qs, n, hn => by
    rw [couL] at hn ⊢
    rw [cntL]
    by_cases hm : n ≤ M
    · rw [if_pos hm] at hn ⊢
      have h1 := couL_ge M L qs (n + couP M L q)
      have h2 := h q (by omega)
      have h3 := couL_cnt M L h qs _ hn
      omega
    · rw [if_neg hm] at hn
      exact absurd hn hm
theorem couP_cnt (M : Nat) : ∀ (L : Nat) (p : Prd), couP M L p ≤ M → cntP p ≤ couP M L p
  | 0, p, h => by rw [couP] at h; omega
  | L + 1, .mk k l r c ks, h => by
    rw [couP] at h ⊢
    rw [cntP]
    exact couL_cnt M L (couP_cnt M L) ks 1 h
theorem few_cnt {p : Prd} {M L : Nat} (h : fewP p M L = true) : cntP p ≤ M := by
  have h1 := of_decide_eq_true h
  exact Nat.le_trans (couP_cnt M L p h1) h1
end Go.Proofs.YtmkdfbelbcocpaaGreatDoor
namespace Go.Proofs.YtmkdfbelbcocpaaGreatDoor
open Go.RowKit Go.Sort Go.Maps
/-- What Normal's two results tell. -/
def NormQ (w' : World) (r : Except Int (List Chc)) (lo : Option Addr) (ln : Nat) (er : Int) : Prop := match r with
  | .error x => ln = 0 ∧ er = x
  | .ok cs => er = 0 ∧ ln = cs.length ∧ ChsR w' cs lo
theorem NormR.get {w w' : World} {r : Except Int (List Chc)} {e : Ending} (h : NormR w r e w') : RowKit.Below w.heap.size w w' ∧ ∃ lo ln lc er, e = .returned (.tuple #[.slice lo ln lc, .int .i64 er]) ∧ NormQ w' r lo ln er := by
  obtain ⟨hb, h⟩ := h
  refine ⟨hb, ?_⟩
  cases r with
  | error x => exact ⟨none, 0, 0, x, h, rfl, rfl⟩
  | ok cs =>
    obtain ⟨ao, cp, vss, he, hr⟩ := h
    exact ⟨ao, cs.length, cp, 0, he, rfl, rfl, .of_row hr⟩
theorem OwnK.kidR {w : World} {B n cap : Nat} {ao : Option Addr} {aa : List Ky} (h : OwnK w B 5 n cap (aa.flatMap atomV) ao) (hn : n = aa.length) : KidR w (fun _ => True) (aa.map atomK) ao := by
  cases h with
  | nil h h1 h2 =>
    refine .inl ?_
    rw [List.eq_nil_of_length_eq_zero (show aa.length = 0 by omega)]
    rfl
  | «at» g off h h1 h2 h3 => exact .inr ⟨g, off, rfl, trivial, h.lt, kids_of_keys w _ aa g off h.cells⟩
theorem conK_str (k : Ky) (h : KyB k) : ((strN k.l).toList == (strN k.r).toList) = conK k := strN_eqL k.l k.r h.1 h.2
end Go.Proofs.YtmkdfbelbcocpaaGreatDoor
namespace Go.Proofs.YtmkdfbelbcocpaaGreatDoor
open Go.RowKit Go.Sort Go.Maps
/-- An own slice of atoms. -/
def AtO (w : World) (B n cap : Nat) (l : List Ky) (ao : Option Addr) : Prop :=
  n = l.length ∧ ∃ vss : List (List Value), vss.length = l.length ∧ (∀ (j : Nat) (k : Ky) (vs : List Value), l[j]? = some k → vss[j]? = some vs → PredC w (fun _ => True) (atomK k) vs) ∧ OwnK w B 5 n cap vss.flatten ao
theorem AtO.below {w w' : World} {B n cap : Nat} {l : List Ky} {ao : Option Addr} (h : AtO w B n cap l ao) (hb : RowKit.Below w.heap.size w w') : AtO w' B n cap l ao := by
  obtain ⟨hn, vss, h1, h2, h3⟩ := h
  exact ⟨hn, vss, h1, fun j k vs hj hv => PredC.atom rfl (h2 j k vs hj hv), h3.below hb⟩
theorem AtO.kidR {w : World} {B n cap : Nat} {l : List Ky} {ao : Option Addr} (h : AtO w B n cap l ao) : KidR w (fun _ => True) (l.map atomK) ao := by
  obtain ⟨hn, vss, h1, h2, h3⟩ := h
  cases h3 with
  | nil e1 e2 e3 =>
    refine .inl ?_
    rw [List.eq_nil_of_length_eq_zero (show l.length = 0 by omega)]
    rfl
  | «at» g off h4 h5 h6 h7 =>
    refine .inr ⟨g, off, rfl, trivial, h4.lt, KidsC.of _ vss g off (by rw [List.length_map, h1]) (fun i q vs hq hv => ?_) h4.cells⟩
    rw [List.getElem?_map] at hq
    obtain ⟨k, hk, rfl⟩ := Option.map_eq_some_iff.1 hq
    exact h2 i k vs hk hv
theorem AtO.put {w w' : World} {B n cap cap' : Nat} {l : List Ky} {ao ao' : Option Addr} {vss : List (List Value)} {k : Ky} {vs : List Value} (hn : n = l.length) (h1 : vss.length = l.length) (h2 : ∀ (j : Nat) (k : Ky) (vs : List Value), l[j]? = some k → vss[j]? = some vs → PredC w (fun _ => True) (atomK k) vs)
    (hk : PredC w (fun _ => True) (atomK k) vs) (h : OwnK w' B 5 (n + 1) cap' (vss.flatten ++ vs) ao') : AtO w' B (n + 1) cap' (l ++ [k]) ao' := by
  refine ⟨by simp [hn], vss ++ [vs], by simp [h1], fun j x us hj hu => ?_, by simpa using h⟩
  rcases Nat.lt_or_ge j l.length with hlt | hge
  · rw [List.getElem?_append_left hlt] at hj
    rw [List.getElem?_append_left (by omega)] at hu
    exact PredC.atom rfl (h2 j x us hj hu)
  · rw [List.getElem?_append_right hge] at hj
    rw [List.getElem?_append_right (by omega)] at hu
    have h0 : j - l.length = 0 := by
      have := (List.getElem?_eq_some_iff.1 hj).1
      simp at this
      omega
    rw [h0] at hj
    rw [h1, h0] at hu
    have e1 : k = x := by simpa using hj
    have e2 : vs = us := by simpa using hu
    subst e1 e2
    exact PredC.atom rfl hk
theorem one_agg (a b c d : Value) (x : Option Addr) (n m : Nat) (ha : a.oneCell' = true) (hb : b.oneCell' = true) (hc : c.oneCell' = true) (hd : d.oneCell' = true) : ∀ u ∈ (#[a, b, c, d, .slice x n m] : Array Value).toList, u.oneCell' = true := by
  intro u hu
  simp at hu
  rcases hu with rfl | rfl | rfl | rfl | rfl
  · exact ha
  · exact hb
  · exact hc
  · exact hd
  · rfl
set_option maxHeartbeats 16000000 in
set_option maxRecDepth 100000 in
theorem lproper_any (w : World) (aa : List Ky) (ao : Option Addr) (n cap : Nat) (hn : n = aa.length) (hbig : n ≤ 1000000) (hb : ∀ k ∈ aa, KyB k) (hk : KidR w (fun _ => True) (aa.map atomK) ao) :
    Calls Tryz.prog 30 #[.slice ao n cap] w fun e w' => ∃ (ro : Option Addr) (rn rc : Nat), e = .returned (.slice ro rn rc) ∧ AtO w' w.heap.size rn rc (aa.filter (fun k => !conK k)) ro ∧ RowKit.Below w.heap.size w w' := by
  have HK := mkHid (fun W (hW : RowKit.Below w.heap.size w W) => hk.below hW)
  have HN := mkHid hn
  have HB := mkHid hb
  have bx := (RowKit.Below.refl w.heap.size w).alloc (Nat.le_refl _) (.cells #[] 25)
  have B0 := mkHid bx
  have O0 : Hid (AtO (w.alloc (.cells #[] 25)) w.heap.size 0 0 ((aa.take 0).filter (fun k => !conK k)) (some ⟨w.heap.size, 0, none⟩)) := mkHid ⟨rfl, [], rfl, fun j k vs hj _ => by simp at hj, OwnK.made w _ 5⟩
  clear hk hn hb bx
  go_enter Tryz.func30, Tryz.ntmps30
  go_upto_region 2 with (fail)
  generalize w.alloc (.cells #[] 25) = w1 at *
  go_wp2_with fail
  go_loopw [4, 3] (fun cc ov wr => ∃ (i k : Nat) (a5 : Option Addr) (c5 : Nat), cc = .int .i64 i ∧ ov = .slice a5 k c5 ∧ i ≤ n ∧ k ≤ i ∧ Hid (RowKit.Below w.heap.size w wr) ∧ Hid (AtO wr w.heap.size k c5 ((aa.take i).filter (fun k => !conK k)) a5)) (fun c _ _ => (n - intOf c).toNat)
  case atStart => exact ⟨0, 0, _, 0, rfl, rfl, by omega, by omega, B0, O0⟩
  case round =>
    clear O0 B0
    obtain ⟨i, k, a5, c5, rfl, rfl, hi, hki, hw, ho⟩ := hrel
    have e2 : IntKind.i64.wrap ((i : Int) + 1) = ((i + 1 : Nat) : Int) := IntWalk.i64_in _ (by omega)
    by_cases hlt : i < n
    · have ii : (i : Int) < n := by omega
      have HQ : Hid (∃ a, aa[i]? = some a) := mkHid (by
        have hl : i < aa.length := by rw [← HN.out]; exact hlt
        exact ⟨aa[i], List.getElem?_eq_getElem hl⟩)
      obtain ⟨a, hai⟩ := HQ.out
      obtain ⟨q, hqi, g, off, hao, hg, us, hpc, hrd⟩ := (HK.out wr hw.out).get (i := i) (by rw [List.length_map, ← HN.out]; exact hlt)
      obtain rfl : q = atomK a := by rw [List.getElem?_map, hai] at hqi; exact (Option.some.inj hqi).symm
      have HPC := mkHid hpc
      obtain ⟨xa, xn, xc, rfl, -⟩ := hpc.form
      have HTK : Hid ((aa.take (i + 1)).filter (fun k => !conK k) = (aa.take i).filter (fun k => !conK k) ++ (if conK a = true then [] else [a])) := mkHid (by
        rw [List.take_add_one, hai, List.filter_append]
        cases hc : conK a with
        | true => simp [hc]
        | false => simp [hc])
      have s0 : wr.cell? ⟨g, off + i * 5, none⟩ = some (.int .i64 0) := hrd 0 _ rfl
      have s1 : wr.cell? ⟨g, off + i * 5 + 1, none⟩ = some (.string (strN a.l)) := hrd 1 _ rfl
      have s2 : wr.cell? ⟨g, off + i * 5 + 2, none⟩ = some (.string (strN a.r)) := hrd 2 _ rfl
      have s3 : wr.cell? ⟨g, off + i * 5 + 3, none⟩ = some (.int .i64 a.c) := hrd 3 _ rfl
      have s4 : wr.cell? ⟨g, off + i * 5 + 4, none⟩ = some (.slice xa xn xc) := hrd 4 _ rfl
      have he := conK_str a (HB.out a (List.mem_of_getElem? hai))
      have HVF : Hid ([Value.int .i64 (atomK a).k, .string (strN (atomK a).l), .string (strN (atomK a).r), .int .i64 (atomK a).c, .slice xa xn xc] = [.int .i64 0, .string (strN a.l), .string (strN a.r), .int .i64 a.c, .slice xa xn xc]) := mkHid rfl
      rw [HVF.out] at HPC
      have HAO := mkHid hao
      clear hrd hpc hqi hai HQ HVF
      subst hao
      generalize conK a = b at *
      generalize strN a.l = y1 at *
      generalize strN a.r = y2 at *
      generalize a.c = y3 at *
      go_upto_region 5 with (fail)
      go_quiet (fail)
      have W2 := mkHid (below_drewN hw.out nq)
      have BD := below_drewN (RowKit.Below.refl wr.heap.size wr) nq
      have O2 := mkHid (ho.out.below BD)
      have t0 := cell_later BD s0
      have t1 := cell_later BD s1
      have t2 := cell_later BD s2
      have t3 := cell_later BD s3
      have t4 := cell_later BD s4
      clear hw ho s0 s1 s2 s3 s4 BD hg
      generalize wr.drewN nq = wd at *
      cases b with
      | true =>
        rw [if_pos rfl, List.append_nil] at HTK
        go_wp2
        go_roundw
        case rel => exact ⟨i + 1, k, a5, c5, by go_num, rfl, by omega, by omega, W2, mkHid (by rw [HTK.out]; exact O2.out)⟩
        case measure => simp only [intOf]; omega
      | false =>
        rw [if_neg (by simp)] at HTK
        obtain ⟨hnk, vss, hv1, hv2, hO⟩ := O2.out
        have HO := mkHid hO
        have HPUT := mkHid (fun (w' : World) (c' : Nat) (a' : Option Addr) (h : OwnK w' w.heap.size 5 (k + 1) c' (vss.flatten ++ [.int .i64 0, .string y1, .string y2, .int .i64 y3, .slice xa xn xc]) a') => AtO.put (cap := c5) (ao := a5) hnk hv1 hv2 (PredC.atom rfl HPC.out) h)
        have W2s := mkHid W2.out.size
        clear hnk hv1 hv2 hO O2
        go_wp2_with (at_builtin; refine app_k 23 25 predZ 5 72 Tryz.underlying23 info_pred rfl (by omega) (by omega) wd w.heap.size rfl (.tmp 23) (.tmp 28) rfl a5 c5 k vss.flatten ?u1 HO.out ?u5 1 1 #[.int .i64 0, .string y1, .string y2, .int .i64 y3, .slice xa xn xc] 25 ?u2 rfl (by omega) ?u3 ?u4 ?_; (case u1 => rfl); (case u5 => exact W2s.out); (case u2 => rfl); (case u3 => exact one_agg _ _ _ _ _ _ _ rfl rfl rfl rfl); (case u4 => omega); intro g7 off7 c7 wa o9 gr9 b9 or9; have O9 := mkHid o9; have W9 := mkHid (W2.out.trans b9); clear o9 gr9 b9 or9 t0 t1 t2 t3 t4)
        go_roundw
        case rel => exact ⟨i + 1, k + 1, some ⟨g7, off7, none⟩, c7, by go_num, rfl, by omega, by omega, W9, mkHid (by rw [HTK.out]; exact HPUT.out _ _ _ O9.out)⟩
        case measure => simp only [intOf]; omega
    · have ii : ¬ ((i : Int) < n) := by omega
      have HTC : Hid (aa.take i = aa) := mkHid (List.take_of_length_le (by rw [← HN.out]; omega))
      rw [HTC.out] at ho
      go_wp2
      go_ret
      exact ⟨a5, k, c5, rfl, ho.out, hw.out⟩
theorem erase_take {α : Type} (l : List α) (i k : Nat) (x : α) (h : l[k]? = some x) : (l.take (k + 1)).eraseIdx i = (l.take k).eraseIdx i ++ (if k = i then [] else [x]) := by
  have hk := (List.getElem?_eq_some_iff.1 h).1
  have hlen : (l.take k).length = k := by rw [List.length_take]; omega
  rw [List.take_add_one, h]
  show (l.take k ++ [x]).eraseIdx i = _
  rcases Nat.lt_trichotomy i k with hlt | hki | hgt
  · rw [if_neg (by omega), List.eraseIdx_append_of_lt_length (show i < (l.take k).length by omega)]
  · subst hki
    have e1 : (l.take i).eraseIdx i = l.take i := List.eraseIdx_of_length_le (by omega)
    have e2 : (l.take i ++ [x]).eraseIdx i = l.take i ++ [x].eraseIdx (i - (l.take i).length) := List.eraseIdx_append_of_length_le (by omega) _
    rw [if_pos rfl, e1, e2, hlen, Nat.sub_self]
    rfl
  · have e1 : (l.take k).eraseIdx i = l.take k := List.eraseIdx_of_length_le (by omega)
    have e2 : (l.take k ++ [x]).eraseIdx i = l.take k ++ [x] := List.eraseIdx_of_length_le (by rw [List.length_append, hlen]; show k + 1 ≤ i; omega)
    rw [if_neg (by omega), e1, e2]
set_option maxHeartbeats 16000000 in
set_option maxRecDepth 100000 in
theorem without_any (w : World) (aa : List Ky) (ao : Option Addr) (n cap x : Nat) (hn : n = aa.length) (hbig : n ≤ 1000000) (hx : x ≤ 1000000) (hk : KidR w (fun _ => True) (aa.map atomK) ao) :
    Calls Tryz.prog 35 #[.slice ao n cap, .int .i64 (x : Int)] w fun e w' => ∃ (ro : Option Addr) (rn rc : Nat), e = .returned (.slice ro rn rc) ∧ AtO w' w.heap.size rn rc (aa.eraseIdx x) ro ∧ RowKit.Below w.heap.size w w' := by
  have HK := mkHid (fun W (hW : RowKit.Below w.heap.size w W) => hk.below hW)
  have HN := mkHid hn
  have bx := (RowKit.Below.refl w.heap.size w).alloc (Nat.le_refl _) (.cells #[] 25)
  have B0 := mkHid bx
  have O0 : Hid (AtO (w.alloc (.cells #[] 25)) w.heap.size 0 0 ((aa.take 0).eraseIdx x) (some ⟨w.heap.size, 0, none⟩)) := mkHid ⟨by simp, [], by simp, fun j k vs hj _ => by simp at hj, OwnK.made w _ 5⟩
  clear hk hn bx
  go_enter Tryz.func35, Tryz.ntmps35
  go_upto_region 2 with (fail)
  generalize w.alloc (.cells #[] 25) = w1 at *
  go_wp2_with fail
  go_loopw [6, 5] (fun cc ov wr => ∃ (i k : Nat) (a5 : Option Addr) (c5 : Nat), cc = .int .i64 i ∧ ov = .slice a5 k c5 ∧ i ≤ n ∧ k ≤ i ∧ Hid (RowKit.Below w.heap.size w wr) ∧ Hid (AtO wr w.heap.size k c5 ((aa.take i).eraseIdx x) a5)) (fun c _ _ => (n - intOf c).toNat)
  case atStart => exact ⟨0, 0, _, 0, rfl, rfl, by omega, by omega, B0, O0⟩
  case round =>
    clear O0 B0
    obtain ⟨i, k, a5, c5, rfl, rfl, hi, hki, hw, ho⟩ := hrel
    have e2 : IntKind.i64.wrap ((i : Int) + 1) = ((i + 1 : Nat) : Int) := IntWalk.i64_in _ (by omega)
    by_cases hlt : i < n
    · have ii : (i : Int) < n := by omega
      have HQ : Hid (∃ a, aa[i]? = some a) := mkHid (by
        have hl : i < aa.length := by rw [← HN.out]; exact hlt
        exact ⟨aa[i], List.getElem?_eq_getElem hl⟩)
      obtain ⟨a, hai⟩ := HQ.out
      have HTK := mkHid (erase_take aa x i a hai)
      by_cases hix : i = x
      · have hxx : (i : Int) = (x : Int) := by omega
        rw [if_pos hix, List.append_nil] at HTK
        clear hix hai HQ
        have hxb : ((i : Int) == (x : Int)) = true := beq_iff_eq.mpr hxx
        clear hxx
        go_wp2
        go_roundw
        case rel => exact ⟨i + 1, k, a5, c5, by go_num, rfl, by omega, by omega, hw, mkHid (by rw [HTK.out]; exact ho.out)⟩
        case measure => simp only [intOf]; omega
      · rw [if_neg hix] at HTK
        obtain ⟨q, hqi, g, off, hao, hg, us, hpc, hrd⟩ := (HK.out wr hw.out).get (i := i) (by rw [List.length_map, ← HN.out]; exact hlt)
        obtain rfl : q = atomK a := by rw [List.getElem?_map, hai] at hqi; exact (Option.some.inj hqi).symm
        have HPC := mkHid hpc
        obtain ⟨xa, xn, xc, rfl, -⟩ := hpc.form
        have s0 : wr.cell? ⟨g, off + i * 5, none⟩ = some (.int .i64 0) := hrd 0 _ rfl
        have s1 : wr.cell? ⟨g, off + i * 5 + 1, none⟩ = some (.string (strN a.l)) := hrd 1 _ rfl
        have s2 : wr.cell? ⟨g, off + i * 5 + 2, none⟩ = some (.string (strN a.r)) := hrd 2 _ rfl
        have s3 : wr.cell? ⟨g, off + i * 5 + 3, none⟩ = some (.int .i64 a.c) := hrd 3 _ rfl
        have s4 : wr.cell? ⟨g, off + i * 5 + 4, none⟩ = some (.slice xa xn xc) := hrd 4 _ rfl
        have HVF : Hid ([Value.int .i64 (atomK a).k, .string (strN (atomK a).l), .string (strN (atomK a).r), .int .i64 (atomK a).c, .slice xa xn xc] = [.int .i64 0, .string (strN a.l), .string (strN a.r), .int .i64 a.c, .slice xa xn xc]) := mkHid rfl
        rw [HVF.out] at HPC
        have HAO := mkHid hao
        have hxb : ((i : Int) == (x : Int)) = false := beq_eq_false_iff_ne.mpr (by omega)
        clear hrd hpc hqi hai HQ HVF hix
        subst hao
        generalize strN a.l = y1 at *
        generalize strN a.r = y2 at *
        generalize a.c = y3 at *
        obtain ⟨hnk, vss, hv1, hv2, hO⟩ := ho.out
        have HO := mkHid hO
        have HPUT := mkHid (fun (w' : World) (c' : Nat) (a' : Option Addr) (h : OwnK w' w.heap.size 5 (k + 1) c' (vss.flatten ++ [.int .i64 0, .string y1, .string y2, .int .i64 y3, .slice xa xn xc]) a') => AtO.put (cap := c5) (ao := a5) hnk hv1 hv2 (PredC.atom rfl HPC.out) h)
        have W2s := mkHid hw.out.size
        clear hnk hv1 hv2 hO ho
        go_wp2_with (at_builtin; refine app_k 23 25 predZ 5 72 Tryz.underlying23 info_pred rfl (by omega) (by omega) wr w.heap.size rfl (.tmp 17) (.tmp 22) rfl a5 c5 k vss.flatten ?u1 HO.out ?u5 1 1 #[.int .i64 0, .string y1, .string y2, .int .i64 y3, .slice xa xn xc] 25 ?u2 rfl (by omega) ?u3 ?u4 ?_; (case u1 => rfl); (case u5 => exact W2s.out); (case u2 => rfl); (case u3 => exact one_agg _ _ _ _ _ _ _ rfl rfl rfl rfl); (case u4 => omega); intro g7 off7 c7 wa o9 gr9 b9 or9; have O9 := mkHid o9; have W9 := mkHid (hw.out.trans b9); clear o9 gr9 b9 or9 s0 s1 s2 s3 s4)
        go_roundw
        case rel => exact ⟨i + 1, k + 1, some ⟨g7, off7, none⟩, c7, by go_num, rfl, by omega, by omega, W9, mkHid (by rw [HTK.out]; exact HPUT.out _ _ _ O9.out)⟩
        case measure => simp only [intOf]; omega
    · have ii : ¬ ((i : Int) < n) := by omega
      have HTC : Hid (aa.take i = aa) := mkHid (List.take_of_length_le (by rw [← HN.out]; omega))
      rw [HTC.out] at ho
      go_wp2
      go_ret
      exact ⟨a5, k, c5, rfl, ho.out, hw.out⟩
/-- Two cells. -/
def pairC (x : Value × Value) : List Value := [x.1, x.2]
theorem pairC_len (x : Value × Value) : (pairC x).length = 2 := rfl
/-- The cells of choices. -/
def ChsV (w : World) (cs : List Chc) (L : List (Value × Value)) : Prop :=
  L.length = cs.length ∧ ∀ (i : Nat) (c : Chc), cs[i]? = some c → ∃ xo xc, L[i]? = some (Value.int .i64 c.need, Value.slice xo c.atoms.length xc) ∧ KidR w (fun g => g < w.heap.size) c.atoms xo
theorem ChsV.below {w w' : World} {cs : List Chc} {L : List (Value × Value)} (h : ChsV w cs L) (hb : RowKit.Below w.heap.size w w') : ChsV w' cs L := by
  refine ⟨h.1, fun i c hc => ?_⟩
  obtain ⟨xo, xc, h1, h2⟩ := h.2 i c hc
  exact ⟨xo, xc, h1, h2.any hb⟩
theorem ChsV.set {w : World} {cs : List Chc} {L : List (Value × Value)} (h : ChsV w cs L) (i : Nat) (c : Chc) (xo : Option Addr) (xc : Nat) (hk : KidR w (fun g => g < w.heap.size) c.atoms xo) : ChsV w (cs.set i c) (L.set i (Value.int .i64 c.need, Value.slice xo c.atoms.length xc)) := by
  refine ⟨by rw [List.length_set, List.length_set, h.1], fun j d hd => ?_⟩
  by_cases hij : i = j
  · subst hij
    have hl := (List.getElem?_eq_some_iff.1 hd).1
    rw [List.length_set] at hl
    rw [List.getElem?_set_self hl] at hd
    have hd' : c = d := by simpa using hd
    subst hd'
    exact ⟨xo, xc, by rw [List.getElem?_set_self (by rw [h.1]; exact hl)], hk⟩
  · rw [List.getElem?_set_ne hij] at hd
    obtain ⟨yo, yc, h1, h2⟩ := h.2 j d hd
    exact ⟨yo, yc, by rw [List.getElem?_set_ne hij]; exact h1, h2⟩
theorem ChsV.ones {w : World} {cs : List Chc} {L : List (Value × Value)} (h : ChsV w cs L) : ∀ u ∈ L.flatMap pairC, u.oneCell' = true := by
  intro u hu
  obtain ⟨x, hx, hu⟩ := List.mem_flatMap.1 hu
  obtain ⟨i, hi⟩ := List.mem_iff_getElem?.1 hx
  have hl : i < cs.length := by rw [← h.1]; exact (List.getElem?_eq_some_iff.1 hi).1
  obtain ⟨xo, xc, h1, -⟩ := h.2 i cs[i] (List.getElem?_eq_getElem hl)
  rw [hi] at h1
  have := Option.some.inj h1
  subst this
  simp only [pairC, List.mem_cons, List.not_mem_nil, or_false] at hu
  rcases hu with rfl | rfl <;> rfl
theorem ChsR.chsV {w : World} {cs : List Chc} {ao : Option Addr} (h : ChsR w cs ao) (hne : 0 < cs.length) : ∃ g off L, ao = some ⟨g, off, none⟩ ∧ g < w.heap.size ∧ Reads w g off (L.flatMap pairC) ∧ ChsV w cs L := by
  rcases h with h | ⟨g, off, h1, h2, h3⟩
  · rw [h] at hne; exact absurd hne (Nat.not_lt_zero _)
  · let L := (List.range cs.length).map (fun i => ((w.cell? ⟨g, off + i * 2, none⟩).getD undef, (w.cell? ⟨g, off + i * 2 + 1, none⟩).getD undef))
    have hL : L.length = cs.length := by simp [L]
    have hget : ∀ (i : Nat) (c : Chc), cs[i]? = some c → ∃ xo xc, L[i]? = some (Value.int .i64 c.need, Value.slice xo c.atoms.length xc) ∧ w.cell? ⟨g, off + i * 2, none⟩ = some (.int .i64 c.need) ∧ w.cell? ⟨g, off + i * 2 + 1, none⟩ = some (.slice xo c.atoms.length xc) ∧ KidR w (fun g => g < w.heap.size) c.atoms xo := fun i c hc => by
      obtain ⟨xo, xc, h4, h5⟩ := h3 i c hc
      have a0 : w.cell? ⟨g, off + i * 2, none⟩ = some (.int .i64 c.need) := h4 0 _ rfl
      have a1 : w.cell? ⟨g, off + i * 2 + 1, none⟩ = some (.slice xo c.atoms.length xc) := h4 1 _ rfl
      have hi := (List.getElem?_eq_some_iff.1 hc).1
      refine ⟨xo, xc, ?_, a0, a1, h5⟩
      show ((List.range cs.length).map _)[i]? = _
      rw [List.getElem?_map, List.getElem?_range hi]
      show some ((w.cell? ⟨g, off + i * 2, none⟩).getD undef, (w.cell? ⟨g, off + i * 2 + 1, none⟩).getD undef) = _
      rw [a0, a1]
      rfl
    refine ⟨g, off, L, h1, h2, fun J u hJ => ?_, hL, fun i c hc => ?_⟩
    · have hJl := (List.getElem?_eq_some_iff.1 hJ).1
      rw [flatK_len pairC 2 pairC_len, hL] at hJl
      have hi : J / 2 < cs.length := by omega
      obtain ⟨xo, xc, b1, b2, b3, -⟩ := hget (J / 2) _ (List.getElem?_eq_getElem hi)
      have hJe : J = J / 2 * 2 + J % 2 := by omega
      rw [hJe, flatK_at pairC 2 pairC_len L (J / 2) (J % 2) _ b1 (by omega)] at hJ
      rcases (show J % 2 = 0 ∨ J % 2 = 1 by omega) with h0 | h0
      · rw [h0] at hJ
        have hu : Value.int .i64 cs[J / 2].need = u := by simpa [pairC] using hJ
        rw [hJe, h0, Nat.add_zero, b2, hu]
      · rw [h0] at hJ
        have hu : Value.slice xo cs[J / 2].atoms.length xc = u := by simpa [pairC] using hJ
        rw [hJe, h0, ← Nat.add_assoc, b3, hu]
    · obtain ⟨xo, xc, b1, -, -, b4⟩ := hget i c hc
      exact ⟨xo, xc, b1, b4⟩
theorem ChsV.chsR {w : World} {cs : List Chc} {L : List (Value × Value)} (h : ChsV w cs L) {B n cap g off : Nat} (hO : OwnK w B 2 n cap (L.flatMap pairC) (some ⟨g, off, none⟩)) : ChsR w cs (some ⟨g, off, none⟩) := by
  cases hO with
  | «at» g off h1 h2 h3 h4 =>
    refine .inr ⟨g, off, rfl, h1.lt, fun i c hc => ?_⟩
    obtain ⟨xo, xc, b1, b2⟩ := h.2 i c hc
    refine ⟨xo, xc, fun j u hj => ?_, b2⟩
    have hj2 : j < 2 := (List.getElem?_eq_some_iff.1 hj).1
    have := h1.cells (i * 2 + j) u (by rw [flatK_at pairC 2 pairC_len L i j _ b1 hj2]; exact hj)
    rwa [← Nat.add_assoc] at this
end Go.Proofs.YtmkdfbelbcocpaaGreatDoor
namespace Go.Proofs.YtmkdfbelbcocpaaGreatDoor
open Go.RowKit Go.Sort Go.Maps
theorem AtO.kidB {w : World} {B n cap : Nat} {l : List Ky} {ao : Option Addr} (h : AtO w B n cap l ao) : KidR w (fun g => B ≤ g) (l.map atomK) ao := by
  obtain ⟨hn, vss, h1, h2, h3⟩ := h
  cases h3 with
  | nil e1 e2 e3 =>
    refine .inl ?_
    rw [List.eq_nil_of_length_eq_zero (show l.length = 0 by omega)]
    rfl
  | «at» g off h4 h5 h6 h7 =>
    refine .inr ⟨g, off, rfl, h4.own, h4.lt, KidsC.of _ vss g off (by rw [List.length_map, h1]) (fun i q vs hq hv => ?_) h4.cells⟩
    rw [List.getElem?_map] at hq
    obtain ⟨k, hk, rfl⟩ := Option.map_eq_some_iff.1 hq
    exact PredC.atom rfl (h2 i k vs hk hv)
theorem KidR.only {w w' : World} {P : Nat → Prop} {p : Nat → Prop} {ks : List Prd} {ao : Option Addr} (h : KidR w P ks ao) (ho : Only w w' p) (hd : ∀ g, P g → ¬ p g) : KidR w' P ks ao := by
  rcases h with h | ⟨g, off, h1, h2, h3, h4⟩
  · exact .inl h
  · exact .inr ⟨g, off, h1, h2, Nat.lt_of_lt_of_le h3 ho.size, KidsC.keep (fun x hx hl => ho.block x hl (hd x hx)) ho.size (fun _ hx _ => hx) ks g off h2 h3 h4⟩
theorem KidR.all {w : World} {P : Nat → Prop} {ks : List Prd} {ao : Option Addr} (h : KidR w P ks ao) : KidR w (fun g => g < w.heap.size) ks ao := h.any (RowKit.Below.refl _ _)
theorem KidR.true {w : World} {P : Nat → Prop} {ks : List Prd} {ao : Option Addr} (h : KidR w P ks ao) : KidR w (fun _ => True) ks ao := by
  rcases h with h | ⟨g, off, h1, h2, h3, h4⟩
  · exact .inl h
  · exact .inr ⟨g, off, h1, trivial, h3, KidsC.keep (fun x _ _ => rfl) (Nat.le_refl _) (fun _ _ _ => trivial) ks g off h2 h3 h4⟩
theorem OwnK.at_le {w : World} {B k n cap g off : Nat} {xs : List Value} (h : OwnK w B k n cap xs (some ⟨g, off, none⟩)) : B ≤ g ∧ g < w.heap.size := by
  cases h with
  | «at» g off h1 h2 h3 h4 => exact ⟨h1.own, h1.lt⟩
theorem grown_belowW {w w' : World} {b : Nat} (h : w.grownBy w' (some b)) (base : World) (hb : base.heap.size ≤ b) (h0 : RowKit.Below base.heap.size base w) : RowKit.Below base.heap.size base w' :=
  ⟨h.os.trans h0.os, h.tape.trans h0.tape, h.output.trans h0.output, Nat.le_trans h0.size h.size, fun k hk => (h.block k (Nat.lt_of_lt_of_le hk h0.size) (fun e => by have e' : k = b := Option.some.inj e; omega)).trans (h0.block k hk)⟩
theorem clause_ok (p : Prd) (hf : formP p = true) (c : List Ky) (hc : c ∈ clausesP p) : c.length ≤ (properP p).length ∧ ∀ k ∈ c, KyB k := by
  obtain ⟨s, -, rfl⟩ := clause_mem p c hc
  exact ⟨pickU_len _ s _, fun k hk => (form_keys p hf k ((properP_mem p k).1 (pickU_in _ _ _ _ hk)).1).bytes⟩
theorem clC_ok (p : Prd) (hf : formP p = true) (h6 : (properP p).length ≤ 6) : ∀ c ∈ (clausesP p).map clC, c.atoms.length ≤ 1000000 ∧ ∀ q ∈ c.atoms, NmY q := fun c hc => by
  obtain ⟨cl, hcl, rfl⟩ := List.mem_map.1 hc
  have h := clause_ok p hf cl hcl
  refine ⟨by show (cl.map atomK).length ≤ _; rw [List.length_map]; omega, fun q hq => ?_⟩
  obtain ⟨k, hk, rfl⟩ := List.mem_map.1 (show q ∈ cl.map atomK from hq)
  exact h.2 k hk
theorem less_ok (p : Prd) (hf : formP p = true) (h6 : (properP p).length ≤ 6) (i k : Nat) (cl : List Ky) (hcl : cl ∈ clausesP p) : ∀ c ∈ ((clausesP p).map clC).set i ⟨1, (cl.eraseIdx k).map atomK⟩, c.atoms.length ≤ 1000000 ∧ ∀ q ∈ c.atoms, NmY q := fun c hc => by
  rcases List.mem_or_eq_of_mem_set hc with hc | rfl
  · exact clC_ok p hf h6 c hc
  · have h := clause_ok p hf cl hcl
    refine ⟨?_, fun q hq => ?_⟩
    · show ((cl.eraseIdx k).map atomK).length ≤ _
      rw [List.length_map]
      have := List.length_eraseIdx_le cl k
      omega
    · obtain ⟨x, hx, rfl⟩ := List.mem_map.1 (show q ∈ (cl.eraseIdx k).map atomK from hq)
      exact h.2 x (List.mem_of_mem_eraseIdx hx)
/-- With a shorter clause some set tells the two apart. -/
theorem less_bad (p : Prd) (i k : Nat) (cl : List Ky) (hi : (clausesP p)[i]? = some cl) (hk : k < cl.length) :
    ∃ S, S < 2 ^ (properP p).length ∧ (((clausesP p).map clC).set i ⟨1, (cl.eraseIdx k).map atomK⟩).all (needC (inY ((properP p).map atomK) S)) ≠ truthP (inL ((properP p).map atomK) S) p := by
  obtain ⟨S, h1, h2, h3⟩ := prime_need p cl (List.mem_of_getElem? hi) k hk
  refine ⟨S, h1, ?_⟩
  rw [h2]
  intro h
  rw [List.all_eq_true] at h
  have hl : i < ((clausesP p).map clC).length := by rw [List.length_map]; exact (List.getElem?_eq_some_iff.1 hi).1
  have := h _ (List.mem_set hl _)
  rw [h3] at this
  cases this
theorem proper_bytes {p : Prd} (hf : formP p = true) : ∀ q ∈ (properP p).map atomK, NmY q := fun q hq => by
  obtain ⟨k, hk, rfl⟩ := List.mem_map.1 hq
  exact (form_keys p hf k ((properP_mem p k).1 hk).1).bytes
set_option maxHeartbeats 32000000 in
set_option maxRecDepth 100000 in
theorem askprime_walk (p : Prd) (vs : List Value) (w : World) (P : Nat → Prop) (B : Nat) (hG : Good w B) (h : PredC w P p vs) (hr : RawP p) (hlen : LenP p) :
    Calls Tryz.prog 6 #[.agg vs.toArray] w fun e w' => e = .returned (.bool true) ∧ RowKit.Below w.heap.size w w' := by
  obtain ⟨xa, xn, xc, rfl, -⟩ := h.form
  have bx := (RowKit.Below.refl w.heap.size w).alloc (Nat.le_refl _) (.cells #[.int .i64 p.k, .string (strN p.l), .string (strN p.r), .int .i64 p.c, .slice xa xn xc] 25)
  have B1 := mkHid bx
  have X1 : Hid (HasV (w.alloc (.cells #[.int .i64 p.k, .string (strN p.l), .string (strN p.r), .int .i64 p.c, .slice xa xn xc] 25)) w.heap.size 25 [.int .i64 p.k, .string (strN p.l), .string (strN p.r), .int .i64 p.c, .slice xa xn xc]) := mkHid (heap_alloc_new w _)
  have HSA := mkHid (fun W (hW : RowKit.Below w.heap.size w W) => sane5_any W B (hG.step hW))
  have HPC := mkHid (fun W (hW : RowKit.Below w.heap.size w W) => (h.mono (P' := fun g => g < w.heap.size) (fun g _ hl => hl)).below hW)
  have HFW := mkHid (fun W (hW : RowKit.Below w.heap.size w W) => few_any p 60 8 (by omega) (by omega) W P _ hlen (h.below hW))
  have HFC := mkHid (fun (hs : fewP p 60 8 = true) => few_cnt hs)
  have HNW := mkHid (fun (hs : fewP p 60 8 = true) W (hW : RowKit.Below w.heap.size w W) => names_any 60 p W P _ (few_cnt hs) hlen (h.below hW))
  have HBY := mkHid (fun (hs : namP p = true) => byt_of p hr hs)
  have HT := mkHid (fun W (hW : RowKit.Below w.heap.size w W) => (hG.step hW).tab)
  clear bx h hr hlen hG
  obtain ⟨s, hs⟩ : ∃ s, fewP p 60 8 = s := ⟨_, rfl⟩
  obtain ⟨t, ht⟩ : ∃ t, namP p = t := ⟨_, rfl⟩
  rw [hs] at HFW HFC HNW
  rw [ht] at HNW HBY
  clear hs ht
  have HQ0 : Hid (p.k = p.k) := mkHid rfl
  obtain ⟨q0, hq0⟩ : ∃ q0, p.k = q0 := ⟨_, rfl⟩
  have HK0 := mkHid hq0
  rw [hq0] at B1 X1 HPC HFW HNW ⊢
  clear hq0 HQ0
  generalize hq1 : strN p.l = q1 at *
  generalize hq2 : strN p.r = q2 at *
  generalize hq3 : p.c = q3 at *
  clear hq1 hq2 hq3
  generalize xa = qa at *
  generalize xn = qn at *
  generalize xc = qc at *
  go_enter Tryz.func6, Tryz.ntmps6
  go_upto_region 1 with (fail)
  generalize w.alloc (.cells #[.int .i64 q0, .string q1, .string q2, .int .i64 q3, .slice qa qn qc] 25) = w1 at *
  go_wp2_with fail
  refine (HSA.out w1 B1.out).mono ?_
  rintro e w2 ⟨rfl, b2⟩
  have B2 := mkHid (B1.out.trans (b2.mono B1.out.size))
  have X2 := mkHid (X1.out.step b2)
  clear b2 HSA B1 X1
  go_upto_region 2 with (fail)
  go_wp2_with (refine wpList_load_row rfl 25 (.tmp 1) rfl w.heap.size ?a1 25 #[.int .i64 q0, .string q1, .string q2, .int .i64 q3, .slice qa qn qc] (0, 0) _ X2.out Tryz.underlying25 rfl (inf_pred _ rfl) ?_; (case a1 => rfl))
  refine (HFW.out w2 B2.out).mono ?_
  rintro e w3 ⟨rfl, b3⟩
  have B3 := mkHid (B2.out.trans (b3.mono B2.out.size))
  have X3 := mkHid (X2.out.step b3)
  clear b3 HFW B2 X2
  cases s with
  | false =>
    go_wp2
    go_ret
    exact ⟨rfl, B3.out⟩
  | true =>
    have HCN := mkHid (HFC.out (by trivial))
    have HNW2 := mkHid (HNW.out (by trivial))
    clear HFC HNW
    go_wp2_with (refine wpList_load_wanted (by rfl) 25 (.tmp 1) rfl w.heap.size (by rfl) 25 #[.int .i64 q0, .string q1, .string q2, .int .i64 q3, .slice qa qn qc] (0, 0) _ X3.out Tryz.underlying25 rfl (inf_pred _ rfl) ?_)
    refine (HNW2.out w3 B3.out).mono ?_
    rintro e w4 ⟨rfl, b4⟩
    have B4 := mkHid (B3.out.trans (b4.mono B3.out.size))
    have X4 := mkHid (X3.out.step b4)
    clear b4 HNW2 B3 X3
    cases t with
    | false =>
      go_wp2
      go_ret
      exact ⟨rfl, B4.out⟩
    | true =>
      have HBP := mkHid (HBY.out (by trivial))
      have HCM : Hid (cntP p ≤ 1000000) := mkHid (by have := HCN.out; omega)
      have HVP := mkHid (fun W (hW : RowKit.Below w.heap.size w W) => vpred_any p W _ _ B HCM.out HBP.out (HPC.out W hW) (show Tab W B from HT.out W hW))
      have HAM := mkHid (fun W (hW : RowKit.Below w.heap.size w W) => patoms_any p W _ _ B HCM.out HBP.out (HPC.out W hW) (show Tab W B from HT.out W hW))
      have HNR := mkHid (fun W (hW : RowKit.Below w.heap.size w W) => normal_any p W _ _ B (by have := HCN.out; omega) HBP.out (HPC.out W hW) (fun g hg => Nat.lt_of_lt_of_le hg hW.size) (show Tab W B from HT.out W hW))
      clear HBY
      go_wp2_with (refine wpList_load_wanted (by rfl) 25 (.tmp 1) rfl w.heap.size (by rfl) 25 #[.int .i64 q0, .string q1, .string q2, .int .i64 q3, .slice qa qn qc] (0, 0) _ X4.out Tryz.underlying25 rfl (inf_pred _ rfl) ?_)
      refine (HVP.out w4 B4.out).mono ?_
      rintro e w5 ⟨rfl, b5⟩
      have B5 := mkHid (B4.out.trans (b5.mono B4.out.size))
      have X5 := mkHid (X4.out.step b5)
      clear b5 HVP B4 X4
      obtain ⟨v, hv⟩ : ∃ v, validP p = v := ⟨_, rfl⟩
      rw [hv]
      have HV := mkHid hv
      clear hv
      have x0 := X5.out.cell 0 _ rfl
      cases v with
      | false =>
        go_wp2
        go_ret
        exact ⟨rfl, B5.out⟩
      | true =>
        by_cases k1 : q0 = 1
        · have k1b : (q0 == 1) = true := beq_iff_eq.mpr k1
          clear k1
          go_wp2
          go_ret
          exact ⟨rfl, B5.out⟩
        · have k1b : (q0 == 1) = false := beq_eq_false_iff_ne.mpr k1
          have K1 := mkHid k1
          clear k1
          by_cases k3 : q0 = 3
          · have k3b : (q0 == 3) = true := beq_iff_eq.mpr k3
            clear k3
            go_wp2
            go_ret
            exact ⟨rfl, B5.out⟩
          · have k3b : (q0 == 3) = false := beq_eq_false_iff_ne.mpr k3
            have K3 := mkHid k3
            clear k3
            have HFM := mkHid (valid_form2 HV.out)
            have HAV : Hid (atmsP p = atomsP p) := mkHid (by unfold atmsP; rw [if_pos HV.out])
            have HAL : Hid ((atomsP p).length ≤ 1000000) := mkHid (by
              refine Nat.le_trans (nodup_len_le _ (keysP p) (asc_nodup (atomsP_asc p)) (fun x hx => (atomsP_mem p x).1 hx)) ?_
              exact Nat.le_trans (keysP_len p) HCM.out)
            have HAB : Hid (∀ k ∈ atomsP p, KyB k) := mkHid (fun k hk => (form_keys p HFM.out k ((atomsP_mem p k).1 hk)).bytes)
            rw [HAV.out] at HAM
            go_upto_region 4 with (fail)
            clear x0 k1b k3b
            go_wp2_with (refine wpList_load_row rfl 25 (.tmp 1) rfl w.heap.size ?a2 25 #[.int .i64 q0, .string q1, .string q2, .int .i64 q3, .slice qa qn qc] (0, 0) _ X5.out Tryz.underlying25 rfl (inf_pred _ rfl) ?_; (case a2 => rfl))
            refine (HAM.out w5 B5.out).mono ?_
            rintro e w6 ⟨ao, ac, rfl, ho, b6⟩
            have HLP := mkHid (lproper_any w6 (atomsP p) ao _ ac rfl HAL.out HAB.out (ho.kidR rfl))
            have HPP : Hid ((atomsP p).filter (fun k => !conK k) = properP p) := mkHid rfl
            rw [HPP.out] at HLP
            have B6 := mkHid (B5.out.trans (b6.mono B5.out.size))
            have X6 := mkHid (X5.out.step b6)
            clear b6 ho HAM B5 X5 HAL HAB HPP HAV
            generalize (atomsP p).length = an at *
            go_wp2_with fail
            refine HLP.out.mono ?_
            rintro e w7 ⟨ro, rn, rc, rfl, ha7, b7⟩
            have A7 := mkHid ha7
            have B7 := mkHid (B6.out.trans (b7.mono B6.out.size))
            have X7 := mkHid (X6.out.step b7)
            have HRN : Hid (rn = (properP p).length) := mkHid ha7.1
            clear b7 ha7 HLP B6 X6
            go_upto_region 5 with (fail)
            go_wp2_with (refine wpList_load_row rfl 25 (.tmp 1) rfl w.heap.size ?a3 25 #[.int .i64 q0, .string q1, .string q2, .int .i64 q3, .slice qa qn qc] (0, 0) _ X7.out Tryz.underlying25 rfl (inf_pred _ rfl) ?_; (case a3 => rfl))
            refine (HNR.out w7 B7.out).mono ?_
            rintro e w8 hnr
            obtain ⟨b8, lo, ln, lc, er, rfl, hcs⟩ := hnr.get
            have HCS := mkHid hcs
            have KA := mkHid ((A7.out.below b8).kidR)
            have B8 := mkHid (B7.out.trans (b8.mono B7.out.size))
            have X8 := mkHid (X7.out.step b8)
            clear b8 hcs hnr HNR B7 X7 A7
            by_cases r1 : (rn : Int) < 1
            · go_wp2
              go_ret
              exact ⟨rfl, B8.out⟩
            · by_cases r6 : (6 : Int) < rn
              · go_wp2
                go_ret
                exact ⟨rfl, B8.out⟩
              · have HR6 : Hid ((properP p).length ≤ 6) := mkHid (by have := HRN.out; omega)
                have HNF := mkHid (norm_few p HV.out (by rw [HK0.out]; exact K1.out) (by rw [HK0.out]; exact K3.out) HR6.out)
                have hce := HCS.out
                rw [HNF.out.1] at hce
                obtain ⟨hce1, hce2, hce3⟩ := hce
                subst hce1
                have CS8 := mkHid hce3
                have HLN := mkHid hce2
                have HL64 : Hid (ln ≤ 64) := mkHid (by rw [hce2, List.length_map]; exact HNF.out.2)
                have l64 := HL64.out
                have l100 : ¬ ((100 : Int) < ln) := by omega
                clear hce2 hce3 HCS HNF K1 K3 HK0 HV HCN
                have rn6 : rn ≤ 6 := by omega
                obtain ⟨N, hN⟩ : ∃ N, 2 ^ rn = N := ⟨_, rfl⟩
                have HNN : Hid (N = 2 ^ (properP p).length) := mkHid (by rw [← hN, HRN.out])
                have eS : wrap64 ((2 : Int) ^ rn) = (N : Int) := by rw [← hN]; exact shl_at (by omega)
                have N64 : N ≤ 64 := by rw [← hN]; exact Nat.le_trans (Nat.pow_le_pow_right (by omega) rn6) (by decide)
                have r64 : (rn : Int) < 64 := by omega
                have r0 : (0 : Int) ≤ rn := by omega
                have HLG := mkHid (fun (S : Nat) (hS : S < N) W (hW : RowKit.Below w8.heap.size w8 W) => logic_any (cntP p) p W _ _ ((properP p).map atomK) ro rn rc S (Nat.le_refl _) HCM.out (by rw [List.length_map, ← HRN.out]) (by omega) (by omega) (proper_bytes HFM.out) HBP.out (HPC.out W (B8.out.trans (hW.mono B8.out.size))) (KA.out.below hW))
                have HHT := mkHid (fun (S : Nat) (hS : S < N) W (hW : RowKit.Below w8.heap.size w8 W) => hits_any W ((clausesP p).map clC) lo ln lc ((properP p).map atomK) ro rn rc S HLN.out (by omega) (by rw [List.length_map, ← HRN.out]) (by omega) (by omega) (clC_ok p HFM.out HR6.out) (proper_bytes HFM.out) (CS8.out.below hW) (KA.out.below hW))
                have HHG := mkHid (fun S => hits_logic p S)
                have HH2 := mkHid (fun (less : List Chc) (g off c5 : Nat) (S : Nat) (hS : S < N) W (hW : RowKit.Below w8.heap.size w8 W) (hl : ln = less.length) (hok : ∀ c ∈ less, c.atoms.length ≤ 1000000 ∧ ∀ q ∈ c.atoms, NmY q) (hc : ChsR W less (some ⟨g, off, none⟩)) => hits_any W less (some ⟨g, off, none⟩) ln c5 ((properP p).map atomK) ro rn rc S hl (by omega) (by rw [List.length_map, ← HRN.out]) (by omega) (by omega) hok (proper_bytes HFM.out) hc (KA.out.below hW))
                have HLB := mkHid (less_bad p)
                have HLO2 := mkHid (less_ok p HFM.out HR6.out)
                have HCO := mkHid (fun cl hcl => (clause_ok p HFM.out cl hcl).1)
                have HCS : Hid (ln = (clausesP p).length) := mkHid (by rw [HLN.out, List.length_map])
                rw [← HNN.out] at HLB
                clear hN HPC HBP HCM HFM HT HNN HRN HL64
                obtain ⟨ks, hks⟩ : ∃ ks, (properP p).map atomK = ks := ⟨_, rfl⟩
                rw [hks] at HLG HHT HHG HH2 HLB KA
                clear hks
                obtain ⟨tt, htt⟩ : ∃ tt : Nat → Bool, (fun S => truthP (inL ks S) p) = tt := ⟨_, rfl⟩
                have HTT : Hid (∀ S, truthP (inL ks S) p = tt S) := mkHid (fun S => by rw [← htt])
                simp only [HTT.out] at HLG HHG HLB
                simp only [HHG.out] at HHT
                clear htt HTT HHG
                have Z0 := mkHid (RowKit.Below.refl w8.heap.size w8)
                go_upto_region 10 with (fail)
                go_wp2_with fail
                go_loopw [7] (fun cc wr => ∃ (s : Nat), cc = .int .i64 s ∧ s ≤ N ∧ Hid (RowKit.Below w8.heap.size w8 wr)) (fun c _ => (N - intOf c).toNat)
                case atStart => exact ⟨0, rfl, by omega, Z0⟩
                case round =>
                  clear Z0
                  obtain ⟨s, rfl, hs, hw⟩ := hrel
                  have e2 : IntKind.i64.wrap ((s : Int) + 1) = ((s + 1 : Nat) : Int) := IntWalk.i64_in _ (by omega)
                  by_cases hlt : s < N
                  · have ss : (s : Int) < N := by omega
                    have HA1 := mkHid (fun W (hW : RowKit.Below wr.heap.size wr W) => HHT.out s hlt W (hw.out.trans (hW.mono hw.out.size)))
                    have HA2 := mkHid (fun W (hW : RowKit.Below wr.heap.size wr W) => HLG.out s hlt W (hw.out.trans (hW.mono hw.out.size)))
                    generalize tt s = tb at *
                    have XR := mkHid (X8.out.step hw.out)
                    have s0 := XR.out.cell 0 _ rfl
                    have s1 := XR.out.cell 1 _ rfl
                    have s2 := XR.out.cell 2 _ rfl
                    have s3 := XR.out.cell 3 _ rfl
                    have s4 := XR.out.cell 4 _ rfl
                    clear XR
                    go_upto_region 13 with (fail)
                    have r1' := regr wr (fun W hW => HA1.out W hW)
                    have r2' := regr wr (fun W hW => HA2.out W hW)
                    have a0' := cell_regrown s0
                    have a1' := cell_regrown s1
                    have a2' := cell_regrown s2
                    have a3' := cell_regrown s3
                    have a4' := cell_regrown s4
                    clear s0 s1 s2 s3 s4
                    refine wp_region_quiet_below (by kernel_rfl) (by kernel_rfl) ?_
                    repeat (quiet_step (with_reducible (first | exact r1' _ _ | exact r2' _ _)))
                    refine wpQuiet_nil ?_
                    intro _ hw'
                    obtain ⟨⟨dq, osq⟩, hw''⟩ := hw'
                    subst hw''
                    have BB := below_regrown wr dq osq
                    have B3 := mkHid (hw.out.trans (BB.mono hw.out.size))
                    clear r1' r2' a0' a1' a2' a3' a4' BB hw HA1 HA2
                    generalize grow (redrawn wr dq) osq = wy at *
                    cases tb with
                    | true =>
                      go_wp2
                      go_roundw
                      case rel => exact ⟨s + 1, by go_num, by omega, B3⟩
                      case measure => simp only [intOf]; omega
                    | false =>
                      go_wp2
                      go_roundw
                      case rel => exact ⟨s + 1, by go_num, by omega, B3⟩
                      case measure => simp only [intOf]; omega
                  · have ss : ¬ ((s : Int) < N) := by omega
                    have C9 := mkHid hw.out
                    clear hw
                    generalize wr = w9 at *
                    have Z1 := mkHid (RowKit.Below.refl w9.heap.size w9)
                    go_upto_region 15 with (fail)
                    go_wp2_with fail
                    go_loopw [8] (fun cc wr => ∃ (i : Nat), cc = .int .i64 i ∧ i ≤ ln ∧ Hid (RowKit.Below w9.heap.size w9 wr)) (fun c _ => (ln - intOf c).toNat)
                    case atStart => exact ⟨0, rfl, by omega, Z1⟩
                    case round =>
                      clear Z1
                      obtain ⟨i, rfl, hi, hw⟩ := hrel
                      have e3 : IntKind.i64.wrap ((i : Int) + 1) = ((i + 1 : Nat) : Int) := IntWalk.i64_in _ (by omega)
                      by_cases hil : i < ln
                      · have ii : (i : Int) < ln := by omega
                        have HQ : Hid (∃ cl, (clausesP p)[i]? = some cl) := mkHid (by
                          have hl : i < (clausesP p).length := by rw [← HCS.out]; exact hil
                          exact ⟨_, List.getElem?_eq_getElem hl⟩)
                        obtain ⟨cl, hcl⟩ := HQ.out
                        have HCI : Hid (((clausesP p).map clC)[i]? = some (clC cl)) := mkHid (by rw [List.getElem?_map, hcl]; rfl)
                        have HCL := mkHid hcl
                        have HC6 := mkHid (HCO.out cl (List.mem_of_getElem? hcl))
                        have W1 := mkHid (C9.out.trans (hw.out.mono C9.out.size))
                        clear hcl HQ
                        generalize wr = wo at *
                        have Z2 := mkHid (RowKit.Below.refl wo.heap.size wo)
                        obtain ⟨nc, hnc⟩ : ∃ nc, cl.length = nc := ⟨_, rfl⟩
                        have HNC := mkHid hnc
                        have nc6 : nc ≤ 6 := by rw [← hnc]; have := HC6.out; have := HR6.out; omega
                        clear hnc
                        go_wp2_with fail
                        go_loopw [9] (fun kv wr => ∃ (k : Nat), kv = .int .i64 k ∧ k ≤ nc ∧ Hid (RowKit.Below wo.heap.size wo wr)) (fun k _ => (nc - intOf k).toNat)
                        case atStart => exact ⟨0, rfl, by omega, Z2⟩
                        case round =>
                          clear Z2
                          obtain ⟨k, rfl, hk, hq⟩ := hrel
                          have e4 : IntKind.i64.wrap ((k : Int) + 1) = ((k + 1 : Nat) : Int) := IntWalk.i64_in _ (by omega)
                          have CR := mkHid (CS8.out.below (W1.out.trans (hq.out.mono W1.out.size)))
                          obtain ⟨g, off, L, hlo, hg, hrd, hcv⟩ := CR.out.chsV (by rw [← HLN.out]; omega)
                          obtain ⟨xo, xc, hLi, hkr⟩ := hcv.2 i _ HCI.out
                          have hLi2 : L[i]? = some (.int .i64 1, .slice xo nc xc) := by
                            rw [hLi]
                            show some (Value.int .i64 1, Value.slice xo (cl.map atomK).length xc) = _
                            rw [List.length_map, HNC.out]
                          have s1 : wr.cell? ⟨g, off + i * 2 + 1, none⟩ = some (.slice xo nc xc) := by
                            have := hrd (i * 2 + 1) (.slice xo nc xc) (by rw [flatK_at pairC 2 pairC_len L i 1 _ hLi2 (by omega)]; rfl)
                            rwa [← Nat.add_assoc] at this
                          have HS1 := mkHid s1
                          have HCV := mkHid hcv
                          have HRD := mkHid hrd
                          have HGL := mkHid hg
                          have HKR : Hid (KidR wr (fun _ => True) (cl.map atomK) xo) := mkHid hkr.true
                          have HLO := mkHid hlo
                          have HLL : Hid ((L.flatMap pairC).length = ln * 2) := mkHid (by rw [flatK_len pairC 2 pairC_len, hcv.1, ← HLN.out])
                          have HLC : Hid (i < L.length) := mkHid (by rw [hcv.1, ← HLN.out]; exact hil)
                          clear hrd hcv hLi hLi2 hkr hg
                          subst hlo
                          by_cases hkl : k < nc
                          · have kk : (k : Int) < nc := by omega
                            have k8 : (k : Int) < 8 := by omega
                            have bx := (RowKit.Below.refl wr.heap.size wr).alloc (Nat.le_refl _) (.cells #[] 47)
                            have BX := mkHid bx
                            have HO := mkHid (OwnK.made wr 47 2)
                            have HR2 := mkHid (HRD.out.of_block (bx.block g HGL.out))
                            have HXK := mkHid (HLB.out i k cl HCL.out (by rw [HNC.out]; exact hkl))
                            clear bx
                            go_upto_region 22 with (at_builtin; refine app_s 41 47 (.agg #[.int .i64 0, .slice none 0 0]) 2 32 Tryz.underlying41 info_chc rfl (by omega) (by omega) (wr.alloc (.cells #[] 47)) wr.heap.size rfl (.tmp 98) (.tmp 99) rfl (some ⟨wr.heap.size, 0, none⟩) 0 0 [] ?q1 HO.out ?q5 g off ln lc (L.flatMap pairC) ?q2 HLL.out (by omega) HR2.out HCV.out.ones ?q4 ?_; (case q1 => rfl); (case q5 => exact BX.out.size); (case q2 => rfl); (case q4 => omega); intro g5 off5 c5 wa o8 gr8 or8; have O8 := mkHid o8; have G8 := mkHid (grown_belowW gr8 wr (Nat.le_refl _) BX.out); clear o8 gr8 or8 s1)
                            rw [Nat.zero_add, List.nil_append] at O8
                            try simp only [Nat.zero_add]
                            have s1 := cell_later G8.out HS1.out
                            have HWO := mkHid (without_any wa cl xo nc xc k HNC.out.symm (by omega) (by omega) (HKR.out.below G8.out))
                            clear BX HO HR2
                            go_wp2_with fail
                            refine HWO.out.mono ?_
                            rintro e wb ⟨qo, qn, qc, rfl, haw, bw⟩
                            have HAW := mkHid haw
                            have OB := mkHid (O8.out.below bw)
                            have G9 := mkHid (G8.out.trans (bw.mono G8.out.size))
                            obtain ⟨S1, S2, S3⟩ := OwnK.store pairC 2 pairC_len OB.out i HLC.out (.int .i64 1, .slice qo qn qc)
                            have HS2 : Hid (OwnK (wb.setCells g5 (off5 + i * 2) [.int .i64 1, .slice qo qn qc]) wr.heap.size 2 ln c5 ((L.set i (.int .i64 1, .slice qo qn qc)).flatMap pairC) (some ⟨g5, off5, none⟩)) := mkHid S1
                            have HS3 : Hid (Only wb (wb.setCells g5 (off5 + i * 2) [.int .i64 1, .slice qo qn qc]) (· = g5)) := mkHid S2
                            have HS4 := mkHid S3
                            have G5 := mkHid (OwnK.at_le O8.out)
                            have H10 : Hid (RowKit.Below wr.heap.size wr (wb.setCells g5 (off5 + i * 2) [.int .i64 1, .slice qo qn qc])) := mkHid (Only.later G9.out HS3.out (fun x hx => by rw [hx]; exact G5.out.1))
                            have HK2 : Hid (KidR (wb.setCells g5 (off5 + i * 2) [.int .i64 1, .slice qo qn qc]) (fun x => wa.heap.size ≤ x) ((cl.eraseIdx k).map atomK) qo) := mkHid (HAW.out.kidB.only HS3.out (fun x hx e => by rw [e] at hx; exact absurd G5.out.2 (Nat.not_lt.2 hx)))
                            have HQN : Hid (qn = ((cl.eraseIdx k).map atomK).length) := mkHid (by rw [List.length_map]; exact haw.1)
                            clear bw haw S1 S2 S3 s1 OB G8 HWO HAW
                            go_upto_region 23 with (refine wpList_store_mid rfl 47 (.tmp 111) (.tmp 110) rfl g5 (off5 + i * 2) #[.int .i64 1, .slice qo qn qc] rfl rfl HS4.out (inf_chc _ rfl) (by simp [Value.oneCell']) ?_)
                            try simp only [List.toList_toArray] at *
                            generalize wb.setCells g5 (off5 + i * 2) [.int .i64 1, .slice qo qn qc] = wc at *
                            have HVV := mkHid ((HCV.out.below H10.out).set i ⟨1, (cl.eraseIdx k).map atomK⟩ qo qc HK2.out.all)
                            rw [← HQN.out] at HVV
                            have HCR := mkHid (HVV.out.chsR HS2.out)
                            have HOL := mkHid (HLO2.out i k cl (List.mem_of_getElem? HCL.out))
                            have HLE : Hid (ln = (((clausesP p).map clC).set i ⟨1, (cl.eraseIdx k).map atomK⟩).length) := mkHid (by rw [List.length_set]; exact HLN.out)
                            obtain ⟨less, hless⟩ : ∃ less, ((clausesP p).map clC).set i ⟨1, (cl.eraseIdx k).map atomK⟩ = less := ⟨_, rfl⟩
                            rw [hless] at HCR HOL HLE HXK
                            have QC := mkHid (hq.out.trans (H10.out.mono hq.out.size))
                            have C10 := mkHid (W1.out.trans (QC.out.mono W1.out.size))
                            have XC := mkHid (X8.out.step C10.out)
                            clear hless HVV HK2 HQN HS2 HS3 HS4 H10 G9 G5 O8 HKR HCV HRD HGL HLL HLC CR HS1
                            obtain ⟨lb, hlb⟩ : ∃ lb : Nat → Bool, (fun S => less.all (needC (inY ks S))) = lb := ⟨_, rfl⟩
                            have HLBB : Hid (∀ S, less.all (needC (inY ks S)) = lb S) := mkHid (fun S => by rw [← hlb])
                            simp only [HLBB.out] at HXK
                            have HHL := mkHid (fun (S : Nat) (hS : S < N) W (hW : RowKit.Below wc.heap.size wc W) => HH2.out less g5 off5 c5 S hS W (C10.out.trans (hW.mono C10.out.size)) HLE.out HOL.out (HCR.out.below hW))
                            simp only [HLBB.out] at HHL
                            clear hlb HLBB HCR HOL HLE
                            have Z4 := mkHid (RowKit.Below.refl wc.heap.size wc)
                            go_wp2_with fail
                            generalize wr = wz at *
                            go_loopw [12, 11] (fun cc mv wr => ∃ (s : Nat) (bv : Bool), cc = .int .i64 s ∧ mv = .bool bv ∧ s ≤ N ∧ Hid (RowKit.Below wc.heap.size wc wr) ∧ Hid (bv = true → ∀ S, S < s → lb S = tt S)) (fun c _ _ => (N - intOf c).toNat)
                            case atStart => exact ⟨0, true, rfl, rfl, by omega, Z4, mkHid (fun _ S hS => absurd hS (Nat.not_lt_zero S))⟩
                            case round =>
                              clear Z4
                              obtain ⟨s, bv, rfl, rfl, hs, hw2, hb⟩ := hrel
                              have e5 : IntKind.i64.wrap ((s : Int) + 1) = ((s + 1 : Nat) : Int) := IntWalk.i64_in _ (by omega)
                              by_cases hsl : s < N
                              · have ss2 : (s : Int) < N := by omega
                                have HA1 := mkHid (fun W (hW : RowKit.Below wr.heap.size wr W) => HHL.out s hsl W (hw2.out.trans (hW.mono hw2.out.size)))
                                have HA2 := mkHid (fun W (hW : RowKit.Below wr.heap.size wr W) => HLG.out s hsl W (C10.out.trans ((hw2.out.trans (hW.mono hw2.out.size)).mono C10.out.size)))
                                have XR := mkHid (XC.out.step hw2.out)
                                obtain ⟨t1, ht1⟩ : ∃ t1, lb s = t1 := ⟨_, rfl⟩
                                obtain ⟨t2, ht2⟩ : ∃ t2, tt s = t2 := ⟨_, rfl⟩
                                have HT1 := mkHid ht1
                                have HT2 := mkHid ht2
                                rw [ht1] at HA1
                                rw [ht2] at HA2
                                clear ht1 ht2
                                have s0 := XR.out.cell 0 _ rfl
                                have s1 := XR.out.cell 1 _ rfl
                                have s2 := XR.out.cell 2 _ rfl
                                have s3 := XR.out.cell 3 _ rfl
                                have s4 := XR.out.cell 4 _ rfl
                                clear XR
                                cases bv with
                                | false =>
                                  go_upto_region 27 with (fail)
                                  clear s0 s1 s2 s3 s4
                                  go_quiet (fail)
                                  have B3 := mkHid (below_drewN hw2.out nq)
                                  clear hw2 HA1 HA2
                                  generalize wr.drewN nq = wy at *
                                  go_wp2
                                  go_roundw
                                  case rel => exact ⟨s + 1, false, by go_num, rfl, by omega, B3, mkHid (fun h => by cases h)⟩
                                  case measure => simp only [intOf]; omega
                                | true =>
                                  go_upto_region 27 with (fail)
                                  have r1' := regr wr (fun W hW => HA1.out W hW)
                                  have r2' := regr wr (fun W hW => HA2.out W hW)
                                  have a0' := cell_regrown s0
                                  have a1' := cell_regrown s1
                                  have a2' := cell_regrown s2
                                  have a3' := cell_regrown s3
                                  have a4' := cell_regrown s4
                                  clear s0 s1 s2 s3 s4
                                  refine wp_region_quiet_below (by kernel_rfl) (by kernel_rfl) ?_
                                  repeat (quiet_step (with_reducible (first | exact r1' _ _ | exact r2' _ _)))
                                  refine wpQuiet_nil ?_
                                  intro _ hw'
                                  obtain ⟨⟨dq, osq⟩, hw''⟩ := hw'
                                  subst hw''
                                  have BB := below_regrown wr dq osq
                                  have B3 := mkHid (hw2.out.trans (BB.mono hw2.out.size))
                                  have HNX : Hid ((t1 == t2) = true → ∀ S, S < s + 1 → lb S = tt S) := mkHid (fun h S hS => by
                                    rcases Nat.lt_or_ge S s with h1 | h1
                                    · exact hb.out rfl S h1
                                    · obtain rfl : S = s := by omega
                                      rw [HT1.out, HT2.out]; exact beq_iff_eq.mp h)
                                  clear r1' r2' a0' a1' a2' a3' a4' BB hw2 HA1 HA2 hb HT1 HT2
                                  generalize grow (redrawn wr dq) osq = wy at *
                                  cases t1 <;> cases t2
                                  all_goals (
                                    go_wp2
                                    go_roundw
                                    case rel => exact ⟨s + 1, _, by go_num, rfl, by omega, B3, HNX⟩
                                    case measure => simp only [intOf]; omega)
                              · have ss2 : ¬ ((s : Int) < N) := by omega
                                have HBF : Hid (bv = false) := mkHid (by
                                  cases bv with
                                  | false => rfl
                                  | true =>
                                    obtain ⟨S, h1, h2⟩ := HXK.out
                                    exact absurd (hb.out rfl S (by omega)) h2)
                                have Q4 := mkHid (QC.out.trans (hw2.out.mono QC.out.size))
                                have hbf := HBF.out
                                clear hb hw2
                                subst hbf
                                go_wp2
                                go_roundw
                                case rel => exact ⟨k + 1, by go_num, by omega, Q4⟩
                                case measure => simp only [intOf]; omega
                          · have kk : ¬ ((k : Int) < nc) := by omega
                            have Q4 := mkHid (hw.out.trans (hq.out.mono hw.out.size))
                            clear hq hw
                            go_wp2
                            go_roundw
                            case rel => exact ⟨i + 1, by go_num, by omega, Q4⟩
                            case measure => simp only [intOf]; omega
                      · have ii : ¬ ((i : Int) < ln) := by omega
                        have BF := mkHid ((B8.out.trans (C9.out.mono B8.out.size)).trans (hw.out.mono (B8.out.trans (C9.out.mono B8.out.size)).size))
                        go_wp2
                        go_ret
                        exact ⟨rfl, BF.out⟩
end Go.Proofs.YtmkdfbelbcocpaaGreatDoor
