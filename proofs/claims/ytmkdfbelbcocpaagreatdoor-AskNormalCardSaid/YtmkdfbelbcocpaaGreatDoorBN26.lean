/- The exported Names and Negate; names compared; the law's bound on binds (walks). Predicates that came in and are short; the count of nodes (plain). No program in sight. The walk of AskNormal. -/
import Derived.Sort.KeysCollected
import Derived.Shelf.SlIter.Nil
import Derived.Shelf.SortM.Plain
import Derived.Shelf.SortM.SortNone
import Derived.Ground.GgzProg
import Derived.Ground.SlgmProg
import Derived.Test.YtmkdfbelbcocpaaGreatDoorProg
import Derived.Test.YtmkdfbelbcocpaaGreatDoorBN25
set_option linter.unusedVariables false
set_option linter.unusedSimpArgs false
namespace Go.Proofs.YtmkdfbelbcocpaaGreatDoor
open Go.RowKit Go.Sort Go.Maps
/-- At most ten binds, with names of at most 60 bytes. -/
def fbP (l : List Bnd) : Bool := decide (l.length ≤ 10) && l.all (fun b => decide (b.n.length ≤ 60))
set_option maxHeartbeats 8000000 in
set_option maxRecDepth 100000 in
theorem fewb_any (w : World) (P : Nat → Prop) (l : List Bnd) (ao : Option Addr) (n cap : Nat) (hn : n = l.length) (hbig : n ≤ 9223372036854775807) (hk : BndR w P l ao) :
    Calls Tryz.prog 37 #[.slice ao n cap] w fun e w' => e = .returned (.bool (fbP l)) ∧ RowKit.Below w.heap.size w w' := by
  have HK := mkHid hk
  have HN := mkHid hn
  have B0 := mkHid (RowKit.Below.refl w.heap.size w)
  obtain ⟨V, hV⟩ : ∃ V, fbP l = V := ⟨_, rfl⟩
  have HV : Hid (V = (decide (l.length ≤ 10) && l.all (fun b => decide (b.n.length ≤ 60)))) := mkHid hV.symm
  rw [hV]
  clear hk hn hV
  go_enter Tryz.func37, Tryz.ntmps37
  go_wp2_with fail
  go_loopw [3] (fun cc wr => ∃ (i : Nat), cc = .int .i64 i ∧ i ≤ n ∧ i ≤ 11 ∧ Hid (∀ b ∈ l.take i, b.n.length ≤ 60) ∧ Hid (RowKit.Below w.heap.size w wr)) (fun c _ => (11 - intOf c).toNat)
  case atStart => exact ⟨0, rfl, by omega, by omega, mkHid (by simp), B0⟩
  case round =>
    clear B0
    obtain ⟨i, rfl, hi, hi11, ha, hw⟩ := hrel
    have e2 : IntKind.i64.wrap ((i : Int) + 1) = ((i + 1 : Nat) : Int) := IntWalk.i64_in _ (by omega)
    by_cases hlt : i < n
    · have ii : (i : Int) < n := by omega
      by_cases h11 : i < 11
      · have i11 : (i : Int) < 11 := by omega
        have HQ : Hid (∃ q, l[i]? = some q ∧ ∃ g off, ao = some ⟨g, off, none⟩ ∧ wr.cell? ⟨g, off + i * 2, none⟩ = some (.string (strN q.n))) := mkHid (by
          have hl : i < l.length := by rw [← HN.out]; exact hlt
          refine ⟨l[i], List.getElem?_eq_getElem hl, ?_⟩
          rcases (HK.out.below hw.out) with h | ⟨g, off, h1, h2, h3, h4⟩
          · rw [h] at hl; exact absurd hl (Nat.not_lt_zero _)
          · exact ⟨g, off, h1, by simpa using (bnd_cells h4 i _ (List.getElem?_eq_getElem hl)) 0 _ rfl⟩)
        obtain ⟨q, hqi, g, off, hao, s0⟩ := HQ.out
        have HAO := mkHid hao
        have HQI := mkHid hqi
        clear HQ hqi HK
        subst hao
        have hz := strN_size q.n
        obtain ⟨z, hzz⟩ : ∃ z, q.n.length = z := ⟨_, rfl⟩
        have HZ := mkHid hzz
        rw [hzz] at hz
        clear hzz
        generalize strN q.n = y at *
        by_cases h60 : 60 < z
        · have h60' : (60 : Int) < (z : Int) := by omega
          have HF : Hid (V = false) := mkHid (by
            rw [HV.out]
            have : l.all (fun b => decide (b.n.length ≤ 60)) = false := by
              rw [List.all_eq_false]
              exact ⟨q, List.mem_of_getElem? HQI.out, by rw [HZ.out]; simpa using h60⟩
            rw [this, Bool.and_false])
          clear h60
          go_wp2
          go_ret
          exact ⟨ret_bool HF.out.symm, hw.out⟩
        · have h60' : ¬ (60 : Int) < (z : Int) := by omega
          have HA2 : Hid (∀ b ∈ l.take (i + 1), b.n.length ≤ 60) := mkHid (fun b hb => by
            rw [List.take_add_one, HQI.out] at hb
            rcases List.mem_append.1 hb with hb | hb
            · exact ha.out b hb
            · have : b = q := by simpa using hb
              rw [this, HZ.out]; omega)
          clear h60
          go_wp2
          go_roundw
          case rel => exact ⟨i + 1, by go_num, by omega, by omega, HA2, hw⟩
          case measure => simp only [intOf]; omega
      · have i11 : ¬ (i : Int) < 11 := by omega
        have hn10 : ¬ (n : Int) ≤ 10 := by omega
        have HF : Hid (V = false) := mkHid (by rw [HV.out, decide_eq_false (by rw [← HN.out]; omega), Bool.false_and])
        go_wp2
        go_ret
        exact ⟨ret_bool HF.out.symm, hw.out⟩
    · have ii : ¬ ((i : Int) < n) := by omega
      have HA2 : Hid (V = decide (n ≤ 10)) := mkHid (by
        rw [HV.out, ← HN.out]
        have : l.all (fun b => decide (b.n.length ≤ 60)) = true := by
          rw [List.all_eq_true]
          intro b hb
          exact decide_eq_true (ha.out b (by rwa [List.take_of_length_le (by rw [← HN.out]; omega)]))
        rw [this, Bool.and_true])
      by_cases h10 : n ≤ 10
      · have h10' : (n : Int) ≤ 10 := by omega
        have HF : Hid (V = true) := mkHid (by rw [HA2.out, decide_eq_true h10])
        clear h10
        go_wp2
        go_ret
        exact ⟨ret_bool HF.out.symm, hw.out⟩
      · have h10' : ¬ (n : Int) ≤ 10 := by omega
        have HF : Hid (V = false) := mkHid (by rw [HA2.out, decide_eq_false h10])
        clear h10
        go_wp2
        go_ret
        exact ⟨ret_bool HF.out.symm, hw.out⟩
end Go.Proofs.YtmkdfbelbcocpaaGreatDoor
namespace Go.Proofs.YtmkdfbelbcocpaaGreatDoor
mutual
/-- All names are of bytes. -/
def RawP : Prd → Prop
  | .mk _ l r _ ks => (∀ y ∈ l, y < 256) ∧ (∀ y ∈ r, y < 256) ∧ RawL ks
def RawL : List Prd → Prop
  | [] => True
  | p :: ps => RawP p ∧ RawL ps
end
theorem RawL_iff : ∀ ks : List Prd, RawL ks ↔ ∀ q ∈ ks, RawP q
  | [] => by simp [RawL]
  | p :: ps => by simp [RawL, RawL_iff ps]
mutual
theorem byt_of : ∀ p, RawP p → namP p = true → BytP p
  | .mk k l r c ks, h, hn => by
    unfold RawP at h
    unfold namP at hn
    simp only [Bool.and_eq_true, decide_eq_true_eq] at hn
    unfold BytP
    exact ⟨⟨h.1, by omega⟩, ⟨h.2.1, by omega⟩, byt_ofL ks h.2.2 hn.1⟩
theorem byt_ofL : ∀ ks, RawL ks → namL ks = true → BytL ks
  | [], _, _ => by unfold BytL; trivial
  | p :: ps, h, hn => by
    unfold RawL at h
    unfold namL at hn
    rw [Bool.and_eq_true] at hn
    unfold BytL
    exact ⟨byt_of p h.1 hn.1, byt_ofL ps h.2 hn.2⟩
end
theorem couL_ge (M L : Nat) : ∀ (ks : List Prd) (n : Nat), n ≤ couL M L n ks
  | [], n => by rw [couL]; exact Nat.le_refl _
  | q :: qs, n => by
    rw [couL]
    split
    · exact Nat.le_trans (Nat.le_add_right _ _) (couL_ge M L qs _)
    · exact Nat.le_refl _
theorem couL_cnt (M L : Nat) (h : ∀ q, couP M L q ≤ M → cntP q ≤ couP M L q) : ∀ (ks : List Prd) (n : Nat), couL M L n ks ≤ M → n + cntL ks ≤ couL M L n ks
  | [], n, _ => by rw [couL, cntL]; exact Nat.le_refl _
  | q :: qs, n, hn => by
    rw [couL] at hn ⊢
    rw [cntL]
    by_cases hm : n ≤ M
    · rw [if_pos hm] at hn ⊢
      have h1 := couL_ge M L qs (n + couP M L q)
      have h2 := h q (by omega)
      have h3 := couL_cnt M L h qs _ hn
      omega
    · rw [if_neg hm] at hn
      exact absurd hn hm
theorem couP_cnt (M : Nat) : ∀ (L : Nat) (p : Prd), couP M L p ≤ M → cntP p ≤ couP M L p
  | 0, p, h => by rw [couP] at h; omega
  | L + 1, .mk k l r c ks, h => by
    rw [couP] at h ⊢
    rw [cntP]
    exact couL_cnt M L (couP_cnt M L) ks 1 h
theorem few_cnt {p : Prd} {M L : Nat} (h : fewP p M L = true) : cntP p ≤ M := by
  have h1 := of_decide_eq_true h
  exact Nat.le_trans (couP_cnt M L p h1) h1
end Go.Proofs.YtmkdfbelbcocpaaGreatDoor
namespace Go.Proofs.YtmkdfbelbcocpaaGreatDoor
open Go.RowKit Go.Sort Go.Maps
/-- What Normal's two results tell. -/
def NormQ (w' : World) (r : Except Int (List Chc)) (lo : Option Addr) (ln : Nat) (er : Int) : Prop := match r with
  | .error x => ln = 0 ∧ er = x
  | .ok cs => er = 0 ∧ ln = cs.length ∧ ChsR w' cs lo
theorem NormR.get {w w' : World} {r : Except Int (List Chc)} {e : Ending} (h : NormR w r e w') : RowKit.Below w.heap.size w w' ∧ ∃ lo ln lc er, e = .returned (.tuple #[.slice lo ln lc, .int .i64 er]) ∧ NormQ w' r lo ln er := by
  obtain ⟨hb, h⟩ := h
  refine ⟨hb, ?_⟩
  cases r with
  | error x => exact ⟨none, 0, 0, x, h, rfl, rfl⟩
  | ok cs =>
    obtain ⟨ao, cp, vss, he, hr⟩ := h
    exact ⟨ao, cs.length, cp, 0, he, rfl, rfl, .of_row hr⟩
theorem norm_cases (p : Prd) : (validP p = false ∧ normP p = .error 1) ∨ (validP p = true ∧ 8 < (properP p).length ∧ normP p = .error 6) ∨ (validP p = true ∧ (properP p).length ≤ 8 ∧ normP p = .error 6) ∨ (validP p = true ∧ (properP p).length ≤ 8 ∧ (choP p).length ≤ 100 ∧ normP p = .ok (choP p)) := by
  unfold normP
  cases hv : validP p with
  | false => exact .inl ⟨rfl, by rw [if_pos rfl]⟩
  | true =>
    rw [if_neg (by simp)]
    by_cases h8 : 8 < (properP p).length
    · rw [if_pos h8]
      exact .inr (.inl ⟨rfl, h8, rfl⟩)
    · rw [if_neg h8]
      by_cases h1 : 100 < (choP p).length
      · rw [if_pos h1]
        exact .inr (.inr (.inl ⟨rfl, by omega, rfl⟩))
      · rw [if_neg h1]
        exact .inr (.inr (.inr ⟨rfl, by omega, by omega, rfl⟩))
theorem OwnK.kidR {w : World} {B n cap : Nat} {ao : Option Addr} {aa : List Ky} (h : OwnK w B 5 n cap (aa.flatMap atomV) ao) (hn : n = aa.length) : KidR w (fun _ => True) (aa.map atomK) ao := by
  cases h with
  | nil h h1 h2 =>
    refine .inl ?_
    rw [List.eq_nil_of_length_eq_zero (show aa.length = 0 by omega)]
    rfl
  | «at» g off h h1 h2 h3 => exact .inr ⟨g, off, rfl, trivial, h.lt, kids_of_keys w _ aa g off h.cells⟩
theorem atms_bytes {p : Prd} (h : formP p = true) : ∀ k ∈ atmsP p, KyB k := fun k hk => by
  unfold atmsP at hk
  split at hk
  · exact (form_keys p h k ((atomsP_mem p k).1 hk)).bytes
  · cases hk
theorem atms_bytes2 (p : Prd) : ∀ k ∈ atmsP p, KyB k := fun k hk => by
  have hk' := hk
  unfold atmsP at hk'
  split at hk'
  · rename_i hv
    exact atms_bytes (valid_form2 hv) k hk
  · cases hk'
theorem conK_str (k : Ky) (h : KyB k) : ((strN k.l).toList == (strN k.r).toList) = conK k := strN_eqL k.l k.r h.1 h.2
theorem cnt_takeG {α : Type} (f : α → Bool) (l : List α) (i : Nat) (k : α) (h : l[i]? = some k) : (l.take (i + 1)).countP f = (l.take i).countP f + (if f k = true then 1 else 0) := by
  rw [List.take_add_one, h, List.countP_append]
  simp [List.countP_cons]
set_option maxHeartbeats 16000000 in
set_option maxRecDepth 100000 in
theorem asknormal_walk (p : Prd) (vs : List Value) (l : List Bnd) (w : World) (P Pb : Nat → Prop) (bo : Option Addr) (m bc B : Nat) (hG : Good w B) (h : PredC w P p vs) (hr : RawP p) (hlen : LenP p) (hm : m = l.length) (hbig : m ≤ 9223372036854775807)
    (hok : ∀ b ∈ l, ∀ y ∈ b.n, y < 256) (hk : BndR w Pb l bo) :
    Calls Tryz.prog 8 #[.agg vs.toArray, .slice bo m bc] w fun e w' => e = .returned (.bool true) ∧ RowKit.Below w.heap.size w w' := by
  obtain ⟨xa, xn, xc, rfl, -⟩ := h.form
  have bx := (RowKit.Below.refl w.heap.size w).alloc (Nat.le_refl _) (.cells #[.int .i64 p.k, .string (strN p.l), .string (strN p.r), .int .i64 p.c, .slice xa xn xc] 25)
  have B1 := mkHid bx
  have X1 : Hid (HasV (w.alloc (.cells #[.int .i64 p.k, .string (strN p.l), .string (strN p.r), .int .i64 p.c, .slice xa xn xc] 25)) w.heap.size 25 [.int .i64 p.k, .string (strN p.l), .string (strN p.r), .int .i64 p.c, .slice xa xn xc]) := mkHid (heap_alloc_new w _)
  have HSA := mkHid (fun W (hW : RowKit.Below w.heap.size w W) => sane5_any W B (hG.step hW))
  have HSH := mkHid (fun W (hW : RowKit.Below w.heap.size w W) => short_any p W P _ hlen (h.below hW))
  have HFB := mkHid (fun W (hW : RowKit.Below w.heap.size w W) => fewb_any W Pb l bo m bc hm hbig (hk.below hW))
  have HSP := mkHid (fun (hs : shoP p = true) => (show cntP p ≤ 110 ∧ BytP p from by
    unfold shoP at hs
    rw [Bool.and_eq_true] at hs
    exact ⟨few_cnt hs.1, byt_of p hr hs.2⟩))
  have HBP := mkHid (fun (hs : fbP l = true) => (show m ≤ 10 ∧ BndOk l from by
    unfold fbP at hs
    rw [Bool.and_eq_true, decide_eq_true_eq, List.all_eq_true] at hs
    exact ⟨by omega, ⟨fun b hb => ⟨hok b hb, by have := of_decide_eq_true (hs.2 b hb); omega⟩⟩⟩))
  have HPC := mkHid (fun W (hW : RowKit.Below w.heap.size w W) => (h.mono (P' := fun g => g < w.heap.size) (fun g _ hl => hl)).below hW)
  have HKB := mkHid (fun W (hW : RowKit.Below w.heap.size w W) => hk.below hW)
  have HM := mkHid hm
  have HT := mkHid (fun W (hW : RowKit.Below w.heap.size w W) => (hG.step hW).tab)
  clear bx h hr hlen hok hk hG hm hbig
  obtain ⟨s, hs⟩ : ∃ s, shoP p = s := ⟨_, rfl⟩
  obtain ⟨t, ht⟩ : ∃ t, fbP l = t := ⟨_, rfl⟩
  rw [hs] at HSH HSP
  rw [ht] at HFB HBP
  clear hs ht
  generalize hq0 : p.k = q0 at *
  generalize hq1 : strN p.l = q1 at *
  generalize hq2 : strN p.r = q2 at *
  generalize hq3 : p.c = q3 at *
  clear hq0 hq1 hq2 hq3
  generalize xa = qa at *
  generalize xn = qn at *
  generalize xc = qc at *
  go_enter Tryz.func8, Tryz.ntmps8
  go_upto_region 1 with (fail)
  generalize w.alloc (.cells #[.int .i64 q0, .string q1, .string q2, .int .i64 q3, .slice qa qn qc] 25) = w1 at *
  go_wp2_with fail
  refine (HSA.out w1 B1.out).mono ?_
  rintro e w2 ⟨rfl, b2⟩
  have B2 := mkHid (B1.out.trans (b2.mono B1.out.size))
  have X2 := mkHid (X1.out.step b2)
  clear b2 HSA B1 X1
  go_upto_region 2 with (fail)
  go_wp2_with (refine wpList_load_row rfl 25 (.tmp 2) rfl w.heap.size ?a1 25 #[.int .i64 q0, .string q1, .string q2, .int .i64 q3, .slice qa qn qc] (0, 0) _ X2.out Tryz.underlying25 rfl (inf_pred _ rfl) ?_; (case a1 => rfl))
  refine (HSH.out w2 B2.out).mono ?_
  rintro e w3 ⟨rfl, b3⟩
  have B3 := mkHid (B2.out.trans (b3.mono B2.out.size))
  have X3 := mkHid (X2.out.step b3)
  clear b3 HSH B2 X2
  cases s with
  | false =>
    go_wp2
    go_ret
    exact ⟨rfl, B3.out⟩
  | true =>
    go_wp2_with fail
    refine (HFB.out w3 B3.out).mono ?_
    rintro e w4 ⟨rfl, b4⟩
    have B4 := mkHid (B3.out.trans (b4.mono B3.out.size))
    have X4 := mkHid (X3.out.step b4)
    clear b4 HFB B3 X3
    cases t with
    | false =>
      go_wp2
      go_ret
      exact ⟨rfl, B4.out⟩
    | true =>
      obtain ⟨hc110, hby⟩ := HSP.out (by trivial)
      obtain ⟨hm10, hbo⟩ := HBP.out (by trivial)
      have HBO := mkHid hbo
      have HBY := mkHid hby
      have HCN : Hid (cntP p ≤ 110) := mkHid hc110
      clear hby hbo hc110 HSP HBP
      have HNR := mkHid (fun W (hW : RowKit.Below w.heap.size w W) => normal_any p W _ _ B (by have := HCN.out; omega) HBY.out (HPC.out W hW) (fun g hg => Nat.lt_of_lt_of_le hg hW.size) (show Tab W B from HT.out W hW))
      have HAM := mkHid (fun W (hW : RowKit.Below w.heap.size w W) => patoms_any p W _ _ B (by have := HCN.out; omega) HBY.out (HPC.out W hW) (show Tab W B from HT.out W hW))
      have HVP := mkHid (fun W (hW : RowKit.Below w.heap.size w W) => vpred_any p W _ _ B (by have := HCN.out; omega) HBY.out (HPC.out W hW) (show Tab W B from HT.out W hW))
      have HHD := mkHid (fun W (hW : RowKit.Below w.heap.size w W) => holds_any p W _ Pb _ B l bo m bc (by have := HCN.out; omega) HBY.out (HPC.out W hW) (show Tab W B from HT.out W hW) HM.out (by omega) HBO.out (HKB.out W hW))
      clear HPC HBY
      go_upto_region 4 with (fail)
      go_wp2_with (refine wpList_load_row rfl 25 (.tmp 2) rfl w.heap.size ?a2 25 #[.int .i64 q0, .string q1, .string q2, .int .i64 q3, .slice qa qn qc] (0, 0) _ X4.out Tryz.underlying25 rfl (inf_pred _ rfl) ?_; (case a2 => rfl))
      refine (HNR.out w4 B4.out).mono ?_
      rintro e w5 hnr
      obtain ⟨b5, lo, ln, lc, er, rfl, hcs⟩ := hnr.get
      have HCS := mkHid hcs
      have B5 := mkHid (B4.out.trans (b5.mono B4.out.size))
      have X5 := mkHid (X4.out.step b5)
      clear b5 hcs hnr HNR B4 X4
      go_upto_region 5 with (fail)
      go_wp2_with (refine wpList_load_row rfl 25 (.tmp 2) rfl w.heap.size ?a3 25 #[.int .i64 q0, .string q1, .string q2, .int .i64 q3, .slice qa qn qc] (0, 0) _ X5.out Tryz.underlying25 rfl (inf_pred _ rfl) ?_; (case a3 => rfl))
      refine (HAM.out w5 B5.out).mono ?_
      rintro e w6 ⟨ao, ac, rfl, ho, b6⟩
      have HKA := mkHid (ho.kidR rfl)
      have B6 := mkHid (B5.out.trans (b6.mono B5.out.size))
      have C6 := mkHid b6
      have X6 := mkHid (X5.out.step b6)
      clear b6 ho HAM B5 X5
      have HAB := mkHid (atms_bytes2 p)
      have HAL : Hid ((atmsP p).length ≤ 1000000) := mkHid (by
        unfold atmsP
        split
        · refine Nat.le_trans (nodup_len_le _ (keysP p) (asc_nodup (atomsP_asc p)) (fun x hx => (atomsP_mem p x).1 hx)) ?_
          exact Nat.le_trans (keysP_len p) (by have := HCN.out; omega)
        · exact Nat.zero_le _)
      have HAV : Hid (validP p = true → atmsP p = atomsP p) := mkHid (fun hv => by unfold atmsP; rw [if_pos hv])
      obtain ⟨aa, has⟩ : ∃ aa, atmsP p = aa := ⟨_, rfl⟩
      rw [has] at HKA HAB HAL HAV ⊢
      clear has
      obtain ⟨na, hna⟩ : ∃ na, aa.length = na := ⟨_, rfl⟩
      have HNA := mkHid hna
      rw [hna] at HAL ⊢
      clear hna
      have hna8 := HAL.out
      have S0 : Hid (0 = (aa.take 0).countP (fun k => !conK k)) := mkHid rfl
      have Z0 := mkHid (RowKit.Below.refl w6.heap.size w6)
      go_wp2_with fail
      go_loopw [10, 9] (fun cc nn wr => ∃ (i k : Nat), cc = .int .i64 i ∧ nn = .int .i64 k ∧ i ≤ na ∧ k ≤ i ∧ Hid (RowKit.Below w6.heap.size w6 wr) ∧ Hid (k = (aa.take i).countP (fun k => !conK k))) (fun c _ _ => (na - intOf c).toNat)
      case atStart => exact ⟨0, 0, rfl, rfl, by omega, by omega, Z0, S0⟩
      case round =>
        clear S0 Z0
        obtain ⟨i, k, rfl, rfl, hi, hki, hw, hct⟩ := hrel
        have e2 : IntKind.i64.wrap ((i : Int) + 1) = ((i + 1 : Nat) : Int) := IntWalk.i64_in _ (by omega)
        have e3 : IntKind.i64.wrap ((k : Int) + 1) = ((k + 1 : Nat) : Int) := IntWalk.i64_in _ (by omega)
        by_cases hlt : i < na
        · have ii : (i : Int) < na := by omega
          have HQ : Hid (∃ a, aa[i]? = some a) := mkHid (by
            have hl : i < aa.length := by rw [HNA.out]; exact hlt
            exact ⟨aa[i], List.getElem?_eq_getElem hl⟩)
          obtain ⟨a, hai⟩ := HQ.out
          obtain ⟨q, hqi, g, off, hao, hg, us, hpc, hrd⟩ := (HKA.out.below hw.out).get (i := i) (by rw [List.length_map, HNA.out]; exact hlt)
          obtain rfl : q = atomK a := by rw [List.getElem?_map, hai] at hqi; exact (Option.some.inj hqi).symm
          obtain ⟨xa, xn, xc, rfl, -⟩ := hpc.form
          have HST := mkHid (cnt_takeG (fun k => !conK k) aa i a hai)
          rw [← hct.out] at HST
          have s1 : wr.cell? ⟨g, off + i * 5 + 1, none⟩ = some (.string (strN a.l)) := hrd 1 _ rfl
          have s2 : wr.cell? ⟨g, off + i * 5 + 2, none⟩ = some (.string (strN a.r)) := hrd 2 _ rfl
          have he := conK_str a (HAB.out a (List.mem_of_getElem? hai))
          have HAO := mkHid hao
          clear hrd hpc hqi hai HQ hct
          subst hao
          generalize conK a = b at *
          generalize strN a.l = y1 at *
          generalize strN a.r = y2 at *
          go_upto_region 10 with (fail)
          go_quiet (fail)
          have W2 := mkHid (below_drewN hw.out nq)
          clear hw s1 s2
          generalize wr.drewN nq = wd at *
          cases b with
          | true =>
            rw [if_neg (by simp)] at HST
            go_wp2
            go_roundw
            case rel => exact ⟨i + 1, k, by go_num, rfl, by omega, by omega, W2, mkHid HST.out.symm⟩
            case measure => simp only [intOf]; omega
          | false =>
            rw [if_pos (by simp)] at HST
            go_wp2
            go_roundw
            case rel => exact ⟨i + 1, k + 1, by go_num, by go_num, by omega, by omega, W2, mkHid HST.out.symm⟩
            case measure => simp only [intOf]; omega
        · have ii : ¬ ((i : Int) < na) := by omega
          have HCT : Hid (k = aa.countP (fun k => !conK k)) := mkHid (by rw [hct.out, show aa.take i = aa from List.take_of_length_le (by rw [HNA.out]; omega)])
          have B7 := mkHid (B6.out.trans (hw.out.mono B6.out.size))
          have X7 := mkHid (X6.out.step hw.out)
          have C7 := mkHid (C6.out.trans (hw.out.mono C6.out.size))
          have KA7 := mkHid (HKA.out.below hw.out)
          clear hct hw B6 X6 C6 HKA
          go_upto_region 12 with (fail)
          go_wp2_with (refine wpList_load_row rfl 25 (.tmp 2) rfl w.heap.size ?a4 25 #[.int .i64 q0, .string q1, .string q2, .int .i64 q3, .slice qa qn qc] (0, 0) _ X7.out Tryz.underlying25 rfl (inf_pred _ rfl) ?_; (case a4 => rfl))
          refine (HVP.out wr B7.out).mono ?_
          rintro e w8 ⟨rfl, b8⟩
          have B8 := mkHid (B7.out.trans (b8.mono B7.out.size))
          have X8 := mkHid (X7.out.step b8)
          have C8 := mkHid (C7.out.trans (b8.mono C7.out.size))
          have KA8 := mkHid (KA7.out.below b8)
          clear b8 B7 X7 C7 KA7
          have HPR : Hid (validP p = true → k = (properP p).length) := mkHid (fun hv => by rw [HCT.out, HAV.out hv]; exact cnt_proper p)
          rcases norm_cases p with ⟨hv, hn⟩ | ⟨hv, h8, hn⟩ | ⟨hv, h8, hn⟩ | ⟨hv, h8, h100, hn⟩
          · rw [hv]
            have HVB := mkHid (fun W (hW : RowKit.Below w.heap.size w W) => HVP.out W hW)
            rw [hv] at HVB
            have hce := HCS.out
            rw [hn] at hce
            obtain ⟨hce1, hce2⟩ := hce
            subst hce1 hce2
            clear hn hv HVP HCS
            go_wp2_with (refine wpList_load_wanted (by rfl) 25 (.tmp 2) rfl w.heap.size (by rfl) 25 #[.int .i64 q0, .string q1, .string q2, .int .i64 q3, .slice qa qn qc] (0, 0) _ X8.out Tryz.underlying25 rfl (inf_pred _ rfl) ?_)
            refine (HVB.out w8 B8.out).mono ?_
            rintro e w9 ⟨rfl, b9⟩
            have B9 := mkHid (B8.out.trans (b9.mono B8.out.size))
            clear b9
            go_wp2
            go_ret
            exact ⟨rfl, B9.out⟩
          · rw [hv]
            have hce := HCS.out
            rw [hn] at hce
            obtain ⟨hce1, hce2⟩ := hce
            subst hce1 hce2
            have k8 : (8 : Int) < k := by have := HPR.out hv; omega
            clear hn hv HCS h8
            go_wp2
            go_ret
            exact ⟨rfl, B8.out⟩
          · rw [hv]
            have hce := HCS.out
            rw [hn] at hce
            obtain ⟨hce1, hce2⟩ := hce
            subst hce1 hce2
            have k8 : ¬ ((8 : Int) < k) := by have := HPR.out hv; omega
            clear hn hv HCS h8
            go_wp2
            go_ret
            exact ⟨rfl, B8.out⟩
          · rw [hv]
            have hce := HCS.out
            rw [hn] at hce
            obtain ⟨hce1, hce2, hce3⟩ := hce
            subst hce1
            have k8 : ¬ ((8 : Int) < k) := by have := HPR.out hv; omega
            have n100 : ¬ ((100 : Int) < ln) := by omega
            have HLN := mkHid hce2
            have LN8 : ln ≤ 100 := by omega
            have CS8 := mkHid (hce3.below C8.out)
            have HMT := mkHid (normal_met p l hv)
            have HGD := mkHid (cho_good p (valid_form2 hv))
            have HSM := mkHid (small_of hv)
            have HMA := mkHid (fun W (hW : RowKit.Below w8.heap.size w8 W) => meets_any W (choP p) lo ln lc B l bo m bc Pb (show Tab W B from HT.out W (B8.out.trans (hW.mono B8.out.size))) HLN.out (by omega) (fun c hc => by
              have hg := HGD.out c hc
              have hs := HSM.out.1
              refine ⟨by rcases hg.2.1 with h | h <;> omega, fun q hq => ⟨(hg.2.2 q hq).1, ?_⟩⟩
              rw [(hg.2.2 q hq).2.1]
              have hky := form_keys p (valid_form2 hv) _ ((properP_mem p _).1 (hg.2.2 q hq).2.2).1
              unfold atomK BytP BytL
              exact ⟨⟨hky.lb, by have := vat_name (form_vat p (valid_form2 hv) _ ((properP_mem p _).1 (hg.2.2 q hq).2.2).1); exact this.1⟩, ⟨hky.rb, by have := vat_name (form_vat p (valid_form2 hv) _ ((properP_mem p _).1 (hg.2.2 q hq).2.2).1); exact this.2⟩, trivial⟩) (CS8.out.below hW) HM.out (by omega) HBO.out (HKB.out W (B8.out.trans (hW.mono B8.out.size))))
            have HAT : Hid (∀ c ∈ choP p, 1 ≤ c.need ∧ c.atoms.length ≤ 100 ∧ ∀ q ∈ c.atoms, q.ks = [] ∧ NmY q ∧ 0 ≤ fndP (aa.map atomK) (kyOf q)) := mkHid (fun c hc => by
              have hg := HGD.out c hc
              have hs := HSM.out.1
              refine ⟨hg.1, by rcases hg.2.1 with h | h <;> omega, fun q hq => ?_⟩
              have hx := hg.2.2 q hq
              have hm := ((properP_mem p _).1 hx.2.2).1
              have hky := form_keys p (valid_form2 hv) _ hm
              exact ⟨hx.1, ⟨hky.lb, hky.rb⟩, fnd_mem aa _ (by rw [HAV.out hv]; exact (atomsP_mem p _).2 hm)⟩)
            have HABY : Hid (∀ q ∈ aa.map atomK, NmY q) := mkHid (fun q hq => by
              obtain ⟨k, hk, rfl⟩ := List.mem_map.1 hq
              exact HAB.out k hk)
            clear hce2 hce3 hn hv h8 h100 HCS HVP HGD HSM HAV HPR HCT
            obtain ⟨cs, hcs⟩ : ∃ cs, choP p = cs := ⟨_, rfl⟩
            rw [hcs] at HLN CS8 HMT HMA HAT
            clear hcs
            go_upto_region 16 with (fail)
            go_wp2_with (refine wpList_load_row rfl 25 (.tmp 2) rfl w.heap.size ?a5 25 #[.int .i64 q0, .string q1, .string q2, .int .i64 q3, .slice qa qn qc] (0, 0) _ X8.out Tryz.underlying25 rfl (inf_pred _ rfl) ?_; (case a5 => rfl))
            refine (HHD.out w8 B8.out).mono ?_
            rintro e w9 ⟨rfl, b9⟩
            have C9 := mkHid b9
            clear b9 X8 HHD
            obtain ⟨a1, f1, haf⟩ : ∃ a1 f1, holdP p l = (a1, f1) := ⟨_, _, rfl⟩
            rw [haf] at HMT ⊢
            clear haf
            go_wp2_with fail
            refine (HMA.out w9 C9.out).mono ?_
            rintro e wa ⟨rfl, b10⟩
            have C10 := mkHid (C9.out.trans (b10.mono C9.out.size))
            have BA := mkHid (B8.out.trans (C10.out.mono B8.out.size))
            have CSA := mkHid (CS8.out.below C10.out)
            have KAA := mkHid (KA8.out.below C10.out)
            clear b10 C9 HMA C10 CS8 KA8 B8
            obtain ⟨b1, g1, hbg⟩ : ∃ b1 g1, metP cs l = (b1, g1) := ⟨_, _, rfl⟩
            rw [hbg] at HMT ⊢
            clear hbg
            have HFC : (f1 = 0 ∧ g1 = 0 ∧ b1 = a1) ∨ f1 ≠ 0 := by
              by_cases hf : f1 = 0
              · have := HMT.out hf
                simp only [Prod.mk.injEq] at this
                exact .inl ⟨hf, this.2, this.1⟩
              · exact .inr hf
            have HFD : Hid ((f1 = 0 ∧ g1 = 0 ∧ b1 = true ∧ a1 = true) ∨ (f1 = 0 ∧ g1 = 0 ∧ b1 = false ∧ a1 = false) ∨ f1 ≠ 0) := mkHid (by
              rcases HFC with ⟨h1, h2, h3⟩ | h
              · cases a1
                · exact .inr (.inl ⟨h1, h2, h3, rfl⟩)
                · exact .inl ⟨h1, h2, h3, rfl⟩
              · exact .inr (.inr h))
            clear HFC HMT
            have ZA := mkHid (RowKit.Below.refl wa.heap.size wa)
            go_upto_region 18 with (fail)
            rcases HFD.out with ⟨rfl, rfl, rfl, rfl⟩ | ⟨rfl, rfl, rfl, rfl⟩ | hf
            rotate_left 2
            have hfb : (f1 == 0) = false := beq_eq_false_iff_ne.mpr hf
            clear hf
            all_goals (
              clear HFD
              go_wp2_with fail
              go_loopw [15] (fun cc wr => ∃ (i : Nat), cc = .int .i64 i ∧ i ≤ ln ∧ Hid (RowKit.Below wa.heap.size wa wr)) (fun c _ => (ln - intOf c).toNat)
              case atStart => exact ⟨0, rfl, by omega, ZA⟩
              case round =>
                clear ZA
                obtain ⟨i, rfl, hi, hw⟩ := hrel
                have e2 : IntKind.i64.wrap ((i : Int) + 1) = ((i + 1 : Nat) : Int) := IntWalk.i64_in _ (by omega)
                by_cases hlt : i < ln
                · have ii : (i : Int) < ln := by omega
                  obtain ⟨c, hci, g, off, hlo, hg, xo, xc, hrd, hkr⟩ := (CSA.out.below hw.out).get (i := i) (by rw [← HLN.out]; exact hlt)
                  have HAC := mkHid (HAT.out c (List.mem_of_getElem? hci))
                  have s0 := hrd 0 _ rfl
                  have s1 := hrd 1 _ rfl
                  rw [Nat.add_zero] at s0
                  have HKR := mkHid hkr
                  have HRD := mkHid hrd
                  have HLO := mkHid hlo
                  have HG := mkHid hg
                  clear hrd hkr hci hg
                  subst hlo
                  obtain ⟨cat, hcat⟩ : ∃ cat, c.atoms = cat := ⟨_, rfl⟩
                  rw [hcat] at s1 HKR HRD HAC
                  clear hcat
                  obtain ⟨nc, hnc⟩ : ∃ nc, cat.length = nc := ⟨_, rfl⟩
                  have HNC := mkHid hnc
                  rw [hnc] at s1 HRD HAC
                  clear hnc
                  have n1 : ¬ (c.need < 1) := by have := HAC.out.1; omega
                  have nc8 := HAC.out.2.1
                  have n2 : ¬ ((100 : Int) < nc) := by omega
                  generalize c.need = nd at *
                  go_wp2_with fail
                  clear s0 s1
                  have Z1 := mkHid (RowKit.Below.refl wr.heap.size wr)
                  generalize wr = wo at *
                  go_loopw [16] (fun jv wr => ∃ (j : Nat), jv = .int .i64 j ∧ j ≤ nc ∧ Hid (RowKit.Below wo.heap.size wo wr)) (fun j _ => (nc - intOf j).toNat)
                  case atStart => exact ⟨0, rfl, by omega, Z1⟩
                  case round =>
                    clear Z1
                    obtain ⟨j, rfl, hj, hq⟩ := hrel
                    have e3 : IntKind.i64.wrap ((j : Int) + 1) = ((j + 1 : Nat) : Int) := IntWalk.i64_in _ (by omega)
                    have s1 : wr.cell? ⟨g, off + i * 2 + 1, none⟩ = some (.slice xo nc xc) := (HRD.out.of_block (hq.out.block g HG.out)) 1 _ rfl
                    by_cases hjl : j < nc
                    · have jj : (j : Int) < nc := by omega
                      obtain ⟨q, hqi, g2, off2, hxo, hg2, us, hpc, hrd⟩ := (HKR.out.any hq.out).get (i := j) (by rw [HNC.out]; exact hjl)
                      obtain ⟨hqk, hqn, hqf⟩ := HAC.out.2.2 q (List.mem_of_getElem? hqi)
                      have HFI := mkHid (find_any wr (fun _ => True) _ (aa.map atomK) ao na ac q _ (by rw [List.length_map, HNA.out]) hna8 HABY.out hqn (KAA.out.below (hw.out.trans (hq.out.mono hw.out.size))) hpc)
                      obtain ⟨xa, xn, xd, rfl, hxn⟩ := hpc.form
                      have hxn0 : xn = 0 := by rw [hxn, hqk]; rfl
                      subst hxn0
                      have t0 := hrd 0 _ rfl
                      have t1 := hrd 1 _ rfl
                      have t2 := hrd 2 _ rfl
                      have t3 := hrd 3 _ rfl
                      have t4 := hrd 4 _ rfl
                      rw [Nat.add_zero] at t0
                      have HXO := mkHid hxo
                      have hf0 : ¬ (fndP (aa.map atomK) (kyOf q) < 0) := by omega
                      clear hrd hpc hqi hqk hqn hqf hxn
                      subst hxo
                      generalize fndP (aa.map atomK) (kyOf q) = fi at *
                      generalize q.k = r0 at *
                      generalize strN q.l = r1 at *
                      generalize strN q.r = r2 at *
                      generalize q.c = r3 at *
                      go_upto_region 28 with (fail)
                      go_wp2_with fail
                      refine HFI.out.mono ?_
                      rintro e w12 ⟨rfl, b12⟩
                      have Q2 := mkHid (hq.out.trans (b12.mono hq.out.size))
                      clear b12 t0 t1 t2 t3 t4 s1 hq HFI
                      go_wp2
                      go_roundw
                      case rel => exact ⟨j + 1, by go_num, by omega, Q2⟩
                      case measure => simp only [intOf]; omega
                    · have jj : ¬ ((j : Int) < nc) := by omega
                      have W2 := mkHid (hw.out.trans (hq.out.mono hw.out.size))
                      clear hq hw
                      go_wp2
                      go_roundw
                      case rel => exact ⟨i + 1, by go_num, by omega, W2⟩
                      case measure => simp only [intOf]; omega
                · have ii : ¬ ((i : Int) < ln) := by omega
                  have BF := mkHid (BA.out.trans (hw.out.mono BA.out.size))
                  go_wp2
                  go_ret
                  exact ⟨rfl, BF.out⟩)
end Go.Proofs.YtmkdfbelbcocpaaGreatDoor
