/- Predicates that came in and are short; the count of nodes (plain). No program in sight. The walk of AskBack (printed by wip/tools/genback.py). -/
import Derived.Sort.KeysCollected
import Derived.Shelf.SlIter.Nil
import Derived.Shelf.SortM.Plain
import Derived.Shelf.SortM.SortNone
import Derived.Ground.GgzProg
import Derived.Ground.SlgmProg
import Derived.Test.YtmkdfbelbcocpaaGreatDoorProg
import Derived.Test.YtmkdfbelbcocpaaGreatDoorV24
import Derived.Test.YtmkdfbelbcocpaaGreatDoorV15
import Derived.Test.YtmkdfbelbcocpaaGreatDoorV25
set_option linter.unusedVariables false
set_option linter.unusedSimpArgs false
namespace Go.Proofs.YtmkdfbelbcocpaaGreatDoor
mutual
/-- All names are of bytes. -/
def RawP : Prd → Prop
  | .mk _ l r _ ks => (∀ y ∈ l, y < 256) ∧ (∀ y ∈ r, y < 256) ∧ RawL ks
def RawL : List Prd → Prop
  | [] => True
  | p :: ps => RawP p ∧ RawL ps
end
theorem RawL_iff : ∀ ks : List Prd, RawL ks ↔ ∀ q ∈ ks, RawP q
  | [] => by simp [RawL]
  | p :: ps => by simp [RawL, RawL_iff ps]
mutual
theorem byt_of : ∀ p, RawP p → namP p = true → BytP p
  | .mk k l r c ks, h, hn => by
    unfold RawP at h
    unfold namP at hn
    simp only [Bool.and_eq_true, decide_eq_true_eq] at hn
    unfold BytP
    exact ⟨⟨h.1, by omega⟩, ⟨h.2.1, by omega⟩, byt_ofL ks h.2.2 hn.1⟩
theorem byt_ofL : ∀ ks, RawL ks → namL ks = true → BytL ks
  | [], _, _ => by unfold BytL; trivial
  | p :: ps, h, hn => by
    unfold RawL at h
    unfold namL at hn
    rw [Bool.and_eq_true] at hn
    unfold BytL
    exact ⟨byt_of p h.1 hn.1, byt_ofL ps h.2 hn.2⟩
end
theorem couL_ge (M L : Nat) : ∀ (ks : List Prd) (n : Nat), n ≤ couL M L n ks
  | [], n => by rw [couL]; exact Nat.le_refl _
  | q :: qs, n => by
    rw [couL]
    split
    · exact Nat.le_trans (Nat.le_add_right _ _) (couL_ge M L qs _)
    · exact Nat.le_refl _
theorem couL_cnt (M L : Nat) (h : ∀ q, couP M L q ≤ M → cntP q ≤ couP M L q) : ∀ (ks : List Prd) (n : Nat), couL M L n ks ≤ M → n + cntL ks ≤ couL M L n ks
  | [], n, _ => by rw [couL, cntL]; exact Nat.le_refl _
  | q :: qs, n, hn => by
    rw [couL] at hn ⊢
    rw [cntL]
    by_cases hm : n ≤ M
    · rw [if_pos hm] at hn ⊢
      have h1 := couL_ge M L qs (n + couP M L q)
      have h2 := h q (by omega)
      have h3 := couL_cnt M L h qs _ hn
      omega
    · rw [if_neg hm] at hn
      exact absurd hn hm
theorem couP_cnt (M : Nat) : ∀ (L : Nat) (p : Prd), couP M L p ≤ M → cntP p ≤ couP M L p
  | 0, p, h => by rw [couP] at h; omega
  | L + 1, .mk k l r c ks, h => by
    rw [couP] at h ⊢
    rw [cntP]
    exact couL_cnt M L (couP_cnt M L) ks 1 h
theorem few_cnt {p : Prd} {M L : Nat} (h : fewP p M L = true) : cntP p ≤ M := by
  have h1 := of_decide_eq_true h
  exact Nat.le_trans (couP_cnt M L p h1) h1
theorem couL_eq (M L : Nat) (h : ∀ q, cntP q ≤ M → depP q ≤ L → couP M L q = cntP q) : ∀ (ks : List Prd) (n : Nat), n + cntL ks ≤ M → depL ks ≤ L → couL M L n ks = n + cntL ks
  | [], n, _, _ => by rw [couL, cntL]; rfl
  | q :: qs, n, hn, hd => by
    rw [cntL] at hn ⊢
    rw [depL] at hd
    rw [couL, if_pos (by omega), h q (by omega) (by omega), couL_eq M L h qs _ (by omega) (by omega)]
    omega
theorem couP_eq (M : Nat) : ∀ (L : Nat) (p : Prd), cntP p ≤ M → depP p ≤ L → couP M L p = cntP p
  | 0, .mk k l r c ks, _, hd => by rw [depP] at hd; omega
  | L + 1, .mk k l r c ks, hn, hd => by
    rw [couP]
    rw [cntP] at hn ⊢
    rw [depP] at hd
    exact couL_eq M L (couP_eq M L) ks 1 hn (by omega)
theorem few_of {p : Prd} {M L : Nat} (hc : cntP p ≤ M) (hd : depP p ≤ L) : fewP p M L = true := by
  unfold fewP
  rw [couP_eq M L p hc hd]
  exact decide_eq_true hc
mutual
theorem len_of : ∀ p, cntP p ≤ 1000000 → LenP p
  | .mk k l r c ks, h => by
    rw [cntP] at h
    unfold LenP
    have := len_cntL ks
    exact ⟨by omega, len_ofL ks (by omega)⟩
theorem len_ofL : ∀ ks, cntL ks ≤ 1000000 → LenL ks
  | [], _ => by unfold LenL; trivial
  | p :: ps, h => by
    rw [cntL] at h
    unfold LenL
    exact ⟨len_of p (by omega), len_ofL ps (by omega)⟩
end
theorem optN_byt {l : List Nat} (h : optN l = true) : NmB l := ⟨(optN_ok h).1, by have := (optN_ok h).2; omega⟩
mutual
theorem byt_form : ∀ p, formP p = true → BytP p
  | .mk k l r c ks, h => by
    unfold formP at h
    unfold BytP
    by_cases hk : k = 0
    · rw [if_pos hk] at h
      simp only [Bool.and_eq_true] at h
      obtain ⟨⟨⟨h1, h2⟩, h3⟩, h4⟩ := h
      have hkn : ks = [] := by simpa using h1
      subst hkn
      exact ⟨optN_byt h2, optN_byt h3, by unfold BytL; trivial⟩
    · rw [if_neg hk] at h
      simp only [Bool.and_eq_true, beq_iff_eq] at h
      obtain ⟨⟨⟨h1, rfl⟩, rfl⟩, h2⟩ := h
      exact ⟨⟨by simp, by simp⟩, ⟨by simp, by simp⟩, byt_formL ks h2⟩
theorem byt_formL : ∀ ks, formL ks = true → BytL ks
  | [], _ => by unfold BytL; trivial
  | p :: ps, h => by
    unfold formL at h
    rw [Bool.and_eq_true] at h
    unfold BytL
    exact ⟨byt_form p h.1, byt_formL ps h.2⟩
end
end Go.Proofs.YtmkdfbelbcocpaaGreatDoor
namespace Go.Proofs.YtmkdfbelbcocpaaGreatDoor
open Go.RowKit Go.Sort
theorem byt0 : BytP prd0 := by unfold prd0 BytP BytL; exact ⟨⟨by simp, by simp⟩, ⟨by simp, by simp⟩, trivial⟩
theorem valid0 : validP prd0 = true := by decide
/-- What comes of a text that was printed, or of any. -/
theorem back_valid {l : List Nat} (hb : ∀ y ∈ l, y < 256) : validP (parseF l).2.1 = true := by
  by_cases h : (parseF l).2.2.2 = 0
  · exact parse_valid hb h
  · rw [(parse_bad h).2]; exact valid0
theorem same_self (p : Prd) (w : World) (P P' : Nat → Prop) (vs us : List Value) (hN : cntP p ≤ 1000000) (hb : BytP p) (h : PredC w P p vs) (h' : PredC w P' p us) :
    Calls Tryz.prog 20 #[.agg vs.toArray, .agg us.toArray] w fun e w' => e = .returned (.bool true) ∧ Below w.heap.size w w' := by
  have := same_any 1000000 p p w P P' vs us hN (Nat.le_refl _) hN hb hb h h'
  rwa [(sameP_iff p p).2 rfl] at this
theorem few_true (p : Prd) (M L : Nat) (hM : M ≤ 1000) (hL : L ≤ 1000) (hv : validP p = true) (h1 : 100 ≤ M) (h2 : 12 ≤ L) (w : World) (P : Nat → Prop) (vs : List Value) (h : PredC w P p vs) :
    Calls Tryz.prog 19 #[.agg vs.toArray, .int .i64 (M : Int), .int .i64 (L : Int)] w fun e w' => e = .returned (.bool true) ∧ Below w.heap.size w w' := by
  have hs := small_of hv
  have := few_any p M L hM hL w P vs (len_of p (by omega)) h
  rwa [few_of (M := M) (L := L) (by omega) (by omega)] at this
theorem valid_true (p : Prd) (hv : validP p = true) (w : World) (P : Nat → Prop) (vs : List Value) (B : Nat) (h : PredC w P p vs) (hT : Tab w B) :
    Calls Tryz.prog 25 #[.agg vs.toArray] w fun e w' => e = .returned (.bool true) ∧ Below w.heap.size w w' := by
  have hs := small_of hv
  have := vpred_any p w P vs B (by omega) (byt_form p (valid_form hv)) h hT
  rwa [hv] at this
theorem prn_some {n t : List Nat} {p : Prd} (h : prnP n p = some t) : parseF t = (n, p, 0, 0) ∧ t.length ≤ 4000 ∧ validP p = true ∧ ∀ y ∈ t, y < 256 :=
  ⟨(parse_print h).1, (parse_print h).2.1, (parse_print h).2.2.1, print_byte h⟩
set_option maxHeartbeats 16000000 in
set_option maxRecDepth 100000 in
theorem askback_walk (p : Prd) (vs : List Value) (nm s : List Nat) (w : World) (P : Nat → Prop) (B : Nat) (hG : Good w B) (h : PredC w P p vs) (hr : RawP p) (hlen : LenP p) (hnb : ∀ y ∈ nm, y < 256) (hsb : ∀ y ∈ s, y < 256) :
    Calls Tryz.prog 4 #[.agg vs.toArray, .string (strN nm), .string (strN s)] w fun e w' => e = .returned (.bool true) ∧ Below w.heap.size w w' := by
  obtain ⟨xa, xn, xc, rfl, -⟩ := h.form
  have bx := (Below.refl w.heap.size w).alloc (Nat.le_refl _) (.cells #[.int .i64 p.k, .string (strN p.l), .string (strN p.r), .int .i64 p.c, .slice xa xn xc] 25)
  have B1 := mkHid bx
  have X1 : Hid (HasV (w.alloc (.cells #[.int .i64 p.k, .string (strN p.l), .string (strN p.r), .int .i64 p.c, .slice xa xn xc] 25)) w.heap.size 25 [.int .i64 p.k, .string (strN p.l), .string (strN p.r), .int .i64 p.c, .slice xa xn xc]) := mkHid (heap_alloc_new w _)
  have HSA := mkHid (fun W (hW : Below w.heap.size w W) => sane5_any W B (hG.step hW))
  have HSH := mkHid (fun W (hW : Below w.heap.size w W) => short_any p W P _ hlen (h.below hW))
  have HSP := mkHid (fun (hs : shoP p = true) => (show cntP p ≤ 110 ∧ BytP p from by
    unfold shoP at hs
    rw [Bool.and_eq_true] at hs
    exact ⟨few_cnt hs.1, byt_of p hr hs.2⟩))
  have HPC := mkHid (fun W (hW : Below w.heap.size w W) => h.below hW)
  have HG := mkHid (fun W (hW : Below w.heap.size w W) => hG.step hW)
  have HNB := mkHid hnb
  have HSB := mkHid hsb
  have hz1 := strN_size nm
  have hz2 := strN_size s
  clear bx h hr hlen hnb hsb hG
  obtain ⟨sh, hs⟩ : ∃ sh, shoP p = sh := ⟨_, rfl⟩
  rw [hs] at HSH HSP
  clear hs
  obtain ⟨ln, hln⟩ : ∃ ln, nm.length = ln := ⟨_, rfl⟩
  obtain ⟨ls, hls⟩ : ∃ ls, s.length = ls := ⟨_, rfl⟩
  have HLN := mkHid hln
  have HLS := mkHid hls
  rw [hln] at hz1
  rw [hls] at hz2
  clear hln hls
  generalize p.k = q0 at *
  generalize strN p.l = q1 at *
  generalize strN p.r = q2 at *
  generalize p.c = q3 at *
  generalize xa = qa at *
  generalize xn = qn at *
  generalize xc = qc at *
  obtain ⟨yn, hyn⟩ : ∃ yn, strN nm = yn := ⟨_, rfl⟩
  have HYN := mkHid hyn
  rw [hyn] at hz1 ⊢
  clear hyn
  obtain ⟨ys, hys⟩ : ∃ ys, strN s = ys := ⟨_, rfl⟩
  have HYS := mkHid hys
  rw [hys] at hz2 ⊢
  clear hys
  go_enter Tryz.func4, Tryz.ntmps4
  go_upto_region 1 with (fail)
  generalize w.alloc (.cells #[.int .i64 q0, .string q1, .string q2, .int .i64 q3, .slice qa qn qc] 25) = w1 at *
  go_wp2_with fail
  refine (HSA.out w1 B1.out).mono ?_
  rintro e w2 ⟨rfl, b2⟩
  have B2 := mkHid (B1.out.trans (b2.mono B1.out.size))
  have X2 := mkHid (X1.out.step b2)
  clear b2 HSA B1 X1
  go_upto_region 2 with (fail)
  go_wp2_with (refine wpList_load_row rfl 25 (.tmp 3) rfl w.heap.size ?la1 25 #[.int .i64 q0, .string q1, .string q2, .int .i64 q3, .slice qa qn qc] (0, 0) _ X2.out Tryz.underlying25 rfl (inf_pred _ rfl) ?_; (case la1 => rfl))
  refine (HSH.out w2 B2.out).mono ?_
  rintro e w3 ⟨rfl, b3⟩
  have B3 := mkHid (B2.out.trans (b3.mono B2.out.size))
  have X3 := mkHid (X2.out.step b3)
  clear b3 HSH B2 X2
  cases sh with
  | false =>
    go_wp2
    go_ret
    exact ⟨rfl, B3.out⟩
  | true =>
    by_cases h60 : 60 < ln
    · have h60' : (60 : Int) < (ln : Int) := by omega
      clear h60
      go_wp2
      go_ret
      exact ⟨rfl, B3.out⟩
    · have h60' : ¬ (60 : Int) < (ln : Int) := by omega
      by_cases h700 : 700 < ls
      · have h700' : (700 : Int) < (ls : Int) := by omega
        clear h60 h700
        go_wp2
        go_ret
        exact ⟨rfl, B3.out⟩
      · have h700' : ¬ (700 : Int) < (ls : Int) := by omega
        obtain ⟨hc110, hby⟩ := HSP.out (by trivial)
        have HBY := mkHid hby
        have HCN : Hid (cntP p ≤ 1000000) := mkHid (by omega)
        have HN60 : Hid (ln ≤ 60) := mkHid (by omega)
        have HS700 : Hid (ls ≤ 700) := mkHid (by omega)
        clear hby hc110 HSP h60 h700
        have HPR := mkHid (fun W (hW : Below w.heap.size w W) => print_any W B nm p (fun g => g < W.heap.size) [.int .i64 q0, .string q1, .string q2, .int .i64 q3, .slice qa qn qc] (HG.out W hW).tab (HG.out W hW).pow (by have := HLN.out; have := HN60.out; omega) HNB.out HBY.out HCN.out ((HPC.out W hW).mono (fun g _ hg => hg)) (fun g hg => hg))
        rw [HYN.out] at HPR
        have HPS := mkHid (fun W (hW : Below w.heap.size w W) => parse_any s W B (HG.out W hW).tab (by have := HLS.out; have := HS700.out; omega) HSB.out)
        rw [HYS.out] at HPS
        go_upto_region 4 with (fail)
        go_wp2_with (refine wpList_load_row rfl 25 (.tmp 3) rfl w.heap.size ?la2 25 #[.int .i64 q0, .string q1, .string q2, .int .i64 q3, .slice qa qn qc] (0, 0) _ X3.out Tryz.underlying25 rfl (inf_pred _ rfl) ?_; (case la2 => rfl))
        refine (HPR.out w3 B3.out).mono ?_
        obtain ⟨pr, hpr⟩ : ∃ pr, prnP nm p = pr := ⟨_, rfl⟩
        rw [hpr]
        have HQ := mkHid hpr
        clear hpr HPR
        rintro e w4 ⟨rfl, b4⟩
        have B4 := mkHid (B3.out.trans (b4.mono B3.out.size))
        have X4 := mkHid (X3.out.step b4)
        clear b4 B3 X3
        -- the second half: what Parse makes of the given string
        have HREST : Hid (∀ W, Below w.heap.size w W → Calls Tryz.prog 17 #[.string ys] W (ParseR W s)) := HPS
        have HVS : Hid (validP (parseF s).2.1 = true) := mkHid (back_valid HSB.out)
        clear HPS
        cases pr with
        | none =>
          unfold prnV
          go_upto_region 9 with (fail)
          clear HQ X4
          go_wp2_with fail
          refine (HREST.out _ B4.out).mono ?_
          rintro e wa ⟨va, rfl, hva, ba⟩
          have Ba := mkHid (B4.out.trans (ba.mono B4.out.size))
          clear ba HREST B4
          have HPB := mkHid (fun (hh : (parseF s).2.2.2 ≠ 0) => parse_bad hh)
          have HXN : Hid ((parseF s).2.2.2 = 0 → True) := mkHid (fun _ => trivial)
          obtain ⟨va1, va2, va3, rfl, hpv⟩ := PredV.open hva
          clear hva
          obtain ⟨pn, hpn⟩ : ∃ pn, (parseF s).1 = pn := ⟨_, rfl⟩
          obtain ⟨pq, hpq⟩ : ∃ pq, (parseF s).2.1 = pq := ⟨_, rfl⟩
          obtain ⟨pe, hpe⟩ : ∃ pe, (parseF s).2.2.2 = pe := ⟨_, rfl⟩
          rw [hpn, hpe, hpq] at HPB
          rw [hpq] at HVS hpv
          have HNL : Hid (pn.length ≤ 1000000 ∧ ∀ y ∈ pn, y < 256) := mkHid (by rw [← hpn]; exact name_of s HSB.out)
          rw [hpn, hpe, hpq]
          clear hpn hpq hpe HXN
          have bx := (Below.refl wa.heap.size wa).alloc (Nat.le_refl _) (.cells #[.int .i64 pq.k, .string (strN pq.l), .string (strN pq.r), .int .i64 pq.c, .slice va1 va2 va3] 25)
          have Vb : Hid (HasV (wa.alloc (.cells #[.int .i64 pq.k, .string (strN pq.l), .string (strN pq.r), .int .i64 pq.c, .slice va1 va2 va3] 25)) wa.heap.size 25 [.int .i64 pq.k, .string (strN pq.l), .string (strN pq.r), .int .i64 pq.c, .slice va1 va2 va3]) := mkHid (heap_alloc_new _ _)
          have Bb := mkHid (Ba.out.trans (bx.mono Ba.out.size))
          have PVb := mkHid (hpv.below bx)
          clear bx hpv Ba
          have HV0 : Hid (va2 = pq.ks.length) := mkHid (by
            obtain ⟨a', n', c', e', hn'⟩ := PVb.out.form
            injection e' with _ e'
            injection e' with _ e'
            injection e' with _ e'
            injection e' with _ e'
            injection e' with e' _
            injection e' with _ e' _
            rw [e', hn'])
          have HPP := mkHid (fun W (hW : Below (wa.alloc (.cells #[.int .i64 pq.k, .string (strN pq.l), .string (strN pq.r), .int .i64 pq.c, .slice va1 va2 va3] 25)).heap.size (wa.alloc (.cells #[.int .i64 pq.k, .string (strN pq.l), .string (strN pq.r), .int .i64 pq.c, .slice va1 va2 va3] 25)) W) => PVb.out.below hW)
          clear PVb
          generalize pq.k = v0 at *
          generalize strN pq.l = v1 at *
          generalize strN pq.r = v2 at *
          generalize pq.c = v3 at *
          generalize va1 = va at *
          generalize va2 = vn at *
          generalize va3 = vc at *
          go_upto_region 10 with (fail)
          generalize wa.heap.size = AV at *
          generalize wa.alloc (.cells #[.int .i64 v0, .string v1, .string v2, .int .i64 v3, .slice va vn vc] 25) = wb at *
          have Zb : Hid (Below wb.heap.size wb wb) := mkHid (Below.refl _ _)
          by_cases he0 : pe = 0
          · subst he0
            clear HPB
            have HFQ := mkHid (fun W (hW : Below wb.heap.size wb W) => few_true pq 100 12 (by omega) (by omega) HVS.out (by omega) (by omega) W _ _ (HPP.out W hW))
            have HVQ := mkHid (fun W (hW : Below wb.heap.size wb W) (hW0 : Below w.heap.size w W) => valid_true pq HVS.out W _ _ B (HPP.out W hW) (HG.out W hW0).tab)
            have HQB : Hid (BytP pq ∧ cntP pq ≤ 1000000) := mkHid ⟨byt_form pq (valid_form HVS.out), by have := small_of HVS.out; omega⟩
            have HPQ := mkHid (fun W (hW : Below wb.heap.size wb W) (hW0 : Below w.heap.size w W) => print_any W B pn pq (fun g => g < W.heap.size) [.int .i64 v0, .string v1, .string v2, .int .i64 v3, .slice va vn vc] (HG.out W hW0).tab (HG.out W hW0).pow HNL.out.1 HNL.out.2 HQB.out.1 HQB.out.2 ((HPP.out W hW).mono (fun g _ hg => hg)) (fun g hg => hg))
            obtain ⟨yp, hyp⟩ : ∃ yp, strN pn = yp := ⟨_, rfl⟩
            have HYP := mkHid hyp
            rw [hyp] at HPQ ⊢
            clear hyp
            go_upto_region 12 with (fail)
            go_wp2_with (refine wpList_load_row rfl 25 (.tmp 15) rfl AV ?la3 25 #[.int .i64 v0, .string v1, .string v2, .int .i64 v3, .slice va vn vc] (0, 0) _ Vb.out Tryz.underlying25 rfl (inf_pred _ rfl) ?_; (case la3 => rfl))
            refine (HFQ.out wb Zb.out).mono ?_
            rintro e wc ⟨rfl, bc⟩
            have Bc := mkHid (Bb.out.trans (bc.mono Bb.out.size))
            have Vc := mkHid (Vb.out.step bc)
            have Zc := mkHid (Zb.out.trans (bc.mono Zb.out.size))
            clear bc HFQ Bb Vb Zb
            go_wp2_with (refine wpList_load_wanted (by rfl) 25 (.tmp 15) rfl AV (by rfl) 25 #[.int .i64 v0, .string v1, .string v2, .int .i64 v3, .slice va vn vc] (0, 0) _ Vc.out Tryz.underlying25 rfl (inf_pred _ rfl) ?_)
            refine (HVQ.out wc Zc.out Bc.out).mono ?_
            rintro e wd ⟨rfl, bd⟩
            have Bd := mkHid (Bc.out.trans (bd.mono Bc.out.size))
            have Vd := mkHid (Vc.out.step bd)
            have Zd := mkHid (Zc.out.trans (bd.mono Zc.out.size))
            clear bd HVQ Bc Vc Zc
            go_upto_region 14 with (fail)
            go_wp2_with (refine wpList_load_row rfl 25 (.tmp 15) rfl AV ?la4 25 #[.int .i64 v0, .string v1, .string v2, .int .i64 v3, .slice va vn vc] (0, 0) _ Vd.out Tryz.underlying25 rfl (inf_pred _ rfl) ?_; (case la4 => rfl))
            refine (HPQ.out wd Zd.out Bd.out).mono ?_
            obtain ⟨pu, hpu⟩ : ∃ pu, prnP pn pq = pu := ⟨_, rfl⟩
            rw [hpu]
            have HU := mkHid hpu
            clear hpu HPQ
            rintro e we ⟨rfl, be⟩
            have Be := mkHid (Bd.out.trans (be.mono Bd.out.size))
            have Ve := mkHid (Vd.out.step be)
            have Ze := mkHid (Zd.out.trans (be.mono Zd.out.size))
            clear be Bd Vd Zd
            cases pu with
            | none =>
              unfold prnV
              go_wp2
              go_ret
              exact ⟨rfl, Be.out⟩
            | some u =>
              obtain ⟨hu1, hu2, hu3, hu4⟩ := prn_some HU.out
              have HPU := mkHid (fun W (hW0 : Below w.heap.size w W) => parse_any u W B (HG.out W hW0).tab (by omega) hu4)
              unfold ParseR at HPU
              rw [hu1] at HPU
              rw [HYP.out] at HPU
              clear hu1 hu2 hu3 hu4 HU
              unfold prnV
              go_upto_region 17 with (fail)
              go_wp2_with fail
              refine (HPU.out we Be.out).mono ?_
              rintro e wf ⟨vf, rfl, hvf, bf⟩
              have Bf := mkHid (Be.out.trans (bf.mono Be.out.size))
              have Vf := mkHid (Ve.out.step bf)
              have Zf := mkHid (Ze.out.trans (bf.mono Ze.out.size))
              clear bf HPU Be Ve Ze
              have hvf' : PredV we.heap.size wf pq vf := hvf
              clear hvf
              obtain ⟨ua, un, uc, rfl, hpu⟩ := PredV.open hvf'
              clear hvf'
              have bx := (Below.refl wf.heap.size wf).alloc (Nat.le_refl _) (.cells #[.int .i64 pq.k, .string (strN pq.l), .string (strN pq.r), .int .i64 pq.c, .slice ua un uc] 25)
              have Ug : Hid (HasV (wf.alloc (.cells #[.int .i64 pq.k, .string (strN pq.l), .string (strN pq.r), .int .i64 pq.c, .slice ua un uc] 25)) wf.heap.size 25 [.int .i64 pq.k, .string (strN pq.l), .string (strN pq.r), .int .i64 pq.c, .slice ua un uc]) := mkHid (heap_alloc_new _ _)
              have Bg := mkHid (Bf.out.trans (bx.mono Bf.out.size))
              have Vg := mkHid (Vf.out.step bx)
              have Zg := mkHid (Zf.out.trans (bx.mono Zf.out.size))
              have PUg := mkHid (hpu.below bx)
              clear bx hpu Bf Vf Zf
              have HFU := mkHid (fun W (hW : Below (wf.alloc (.cells #[.int .i64 pq.k, .string (strN pq.l), .string (strN pq.r), .int .i64 pq.c, .slice ua un uc] 25)).heap.size (wf.alloc (.cells #[.int .i64 pq.k, .string (strN pq.l), .string (strN pq.r), .int .i64 pq.c, .slice ua un uc] 25)) W) => few_true pq 100 12 (by omega) (by omega) HVS.out (by omega) (by omega) W _ _ (PUg.out.below hW))
              have HSU := mkHid (fun W (hW : Below (wf.alloc (.cells #[.int .i64 pq.k, .string (strN pq.l), .string (strN pq.r), .int .i64 pq.c, .slice ua un uc] 25)).heap.size (wf.alloc (.cells #[.int .i64 pq.k, .string (strN pq.l), .string (strN pq.r), .int .i64 pq.c, .slice ua un uc] 25)) W) (hW0 : Below wb.heap.size wb W) => same_self pq W _ _ _ _ HQB.out.2 HQB.out.1 (HPP.out W hW0) (PUg.out.below hW))
              clear PUg
              generalize pq.k = u0 at *
              generalize strN pq.l = u1 at *
              generalize strN pq.r = u2 at *
              generalize pq.c = u3 at *
              go_upto_region 18 with (fail)
              generalize wf.heap.size = AU at *
              generalize wf.alloc (.cells #[.int .i64 u0, .string u1, .string u2, .int .i64 u3, .slice ua un uc] 25) = wg at *
              have Yg : Hid (Below wg.heap.size wg wg) := mkHid (Below.refl _ _)
              go_wp2_with (refine wpList_load_wanted (by rfl) 25 (.tmp 21) rfl AU (by rfl) 25 #[.int .i64 u0, .string u1, .string u2, .int .i64 u3, .slice ua un uc] (0, 0) _ Ug.out Tryz.underlying25 rfl (inf_pred _ rfl) ?_)
              refine (HFU.out wg Yg.out).mono ?_
              rintro e wh ⟨rfl, bh⟩
              have Bh := mkHid (Bg.out.trans (bh.mono Bg.out.size))
              have Vh := mkHid (Vg.out.step bh)
              have Uh := mkHid (Ug.out.step bh)
              have Zh := mkHid (Zg.out.trans (bh.mono Zg.out.size))
              have Yh := mkHid (Yg.out.trans (bh.mono Yg.out.size))
              clear bh HFU Bg Vg Ug Zg Yg
              go_wp2_with (first | (refine wpList_load_wanted (by rfl) 25 (.tmp 15) rfl AV (by rfl) 25 #[.int .i64 v0, .string v1, .string v2, .int .i64 v3, .slice va vn vc] (0, 0) _ Vh.out Tryz.underlying25 rfl (inf_pred _ rfl) ?_) | (refine wpList_load_wanted (by rfl) 25 (.tmp 21) rfl AU (by rfl) 25 #[.int .i64 u0, .string u1, .string u2, .int .i64 u3, .slice ua un uc] (0, 0) _ Uh.out Tryz.underlying25 rfl (inf_pred _ rfl) ?_))
              refine (HSU.out wh Yh.out Zh.out).mono ?_
              rintro e wi ⟨rfl, bi⟩
              have Bi := mkHid (Bh.out.trans (bi.mono Bh.out.size))
              clear bi HSU Bh Vh Uh Zh Yh
              go_wp2
              go_ret
              exact ⟨rfl, Bi.out⟩
          · have he1 : (pe == 0) = false := beq_eq_false_iff_ne.mpr he0
            obtain ⟨hb1, hb2⟩ := HPB.out he0
            have hn0 : vn = 0 := by rw [HV0.out, hb2]; rfl
            have HSQ := mkHid (fun W (hW : Below wb.heap.size wb W) => (show Calls Tryz.prog 20 #[.agg #[.int .i64 v0, .string v1, .string v2, .int .i64 v3, .slice va vn vc], .agg #[.int .i64 0, .string ⟨#[]⟩, .string ⟨#[]⟩, .int .i64 0, .slice none 0 0]] W fun e w' => e = .returned (.bool true) ∧ Below W.heap.size W w' from
              same_self pq W _ (fun _ => True) _ pred0 (by rw [hb2]; decide) (by rw [hb2]; exact byt0) (HPP.out W hW) (by rw [hb2]; unfold prd0 PredC; exact ⟨none, 0, rfl, .inl rfl⟩)))
            have hyp : strN pn = ⟨#[]⟩ := by rw [hb1]; rfl
            rw [hyp]
            subst hn0
            clear hb1 hb2 HPB he0 hyp HV0
            have c4 := Vb.out.cell 4 _ rfl
            go_wp2_with (refine wpList_load_wanted (by rfl) 25 (.tmp 15) rfl AV (by rfl) 25 #[.int .i64 v0, .string v1, .string v2, .int .i64 v3, .slice va 0 vc] (0, 0) _ Vb.out Tryz.underlying25 rfl (inf_pred _ rfl) ?_)
            refine (HSQ.out wb Zb.out).mono ?_
            rintro e wj ⟨rfl, bj⟩
            have Bj := mkHid (Bb.out.trans (bj.mono Bb.out.size))
            clear bj
            go_wp2
            go_ret
            exact ⟨rfl, Bj.out⟩
        | some t =>
          obtain ⟨hp1, hp2, hp3, hp4⟩ := prn_some HQ.out
          have HP3 := mkHid hp3
          have HPT := mkHid (fun W (hW : Below w.heap.size w W) => parse_any t W B (HG.out W hW).tab (by omega) hp4)
          unfold ParseR at HPT
          rw [hp1] at HPT
          have hz3 := strN_size t
          obtain ⟨lt, hlt⟩ : ∃ lt, t.length = lt := ⟨_, rfl⟩
          rw [hlt] at hz3 hp2
          rw [HYN.out] at HPT
          have h4000 : ¬ (4000 : Int) < (lt : Int) := by omega
          clear hp1 hp2 hp3 hp4 hlt HQ
          have HPC0 := mkHid (fun W (hW : Below w.heap.size w W) => HPC.out W hW)
          unfold prnV
          go_upto_region 6 with (fail)
          go_wp2_with fail
          refine (HPT.out w4 B4.out).mono ?_
          rintro e w5 ⟨v5, rfl, hv5, b5⟩
          have B5 := mkHid (B4.out.trans (b5.mono B4.out.size))
          have X5 := mkHid (X4.out.step b5)
          clear b5 HPT B4 X4
          have hv5' : PredV w4.heap.size w5 p v5 := hv5
          clear hv5
          obtain ⟨ra, rn, rc, rfl, hpb⟩ := PredV.open hv5'
          clear hv5'
          have bx := (Below.refl w5.heap.size w5).alloc (Nat.le_refl _) (.cells #[.int .i64 p.k, .string (strN p.l), .string (strN p.r), .int .i64 p.c, .slice ra rn rc] 25)
          have R6 : Hid (HasV (w5.alloc (.cells #[.int .i64 p.k, .string (strN p.l), .string (strN p.r), .int .i64 p.c, .slice ra rn rc] 25)) w5.heap.size 25 [.int .i64 p.k, .string (strN p.l), .string (strN p.r), .int .i64 p.c, .slice ra rn rc]) := mkHid (heap_alloc_new _ _)
          have X6 := mkHid (X5.out.step bx)
          have B6 := mkHid (B5.out.trans (bx.mono B5.out.size))
          have PB6 := mkHid (hpb.below bx)
          clear bx hpb X5 B5
          have HVP := mkHid (fun W (hW : Below w.heap.size w W) => valid_true p HP3.out W P _ B (HPC0.out W hW) (HG.out W hW).tab)
          have HFW := mkHid (fun W (hW : Below (w5.alloc (.cells #[.int .i64 p.k, .string (strN p.l), .string (strN p.r), .int .i64 p.c, .slice ra rn rc] 25)).heap.size (w5.alloc (.cells #[.int .i64 p.k, .string (strN p.l), .string (strN p.r), .int .i64 p.c, .slice ra rn rc] 25)) W) => few_true p 100 12 (by omega) (by omega) HP3.out (by omega) (by omega) W _ _ (PB6.out.below hW))
          have HSM := mkHid (fun W (hW : Below (w5.alloc (.cells #[.int .i64 p.k, .string (strN p.l), .string (strN p.r), .int .i64 p.c, .slice ra rn rc] 25)).heap.size (w5.alloc (.cells #[.int .i64 p.k, .string (strN p.l), .string (strN p.r), .int .i64 p.c, .slice ra rn rc] 25)) W) (hW0 : Below w.heap.size w W) => same_self p W P _ _ _ HCN.out HBY.out (HPC0.out W hW0) (PB6.out.below hW))
          clear PB6 HPC0
          generalize p.k = r0 at *
          generalize strN p.l = r1 at *
          generalize strN p.r = r2 at *
          generalize p.c = r3 at *
          go_upto_region 7 with (fail)
          generalize w5.heap.size = AR at *
          generalize w5.alloc (.cells #[.int .i64 r0, .string r1, .string r2, .int .i64 r3, .slice ra rn rc] 25) = w6 at *
          have Z6 : Hid (Below w6.heap.size w6 w6) := mkHid (Below.refl _ _)
          go_wp2_with (refine wpList_load_wanted (by rfl) 25 (.tmp 3) rfl w.heap.size (by rfl) 25 #[.int .i64 q0, .string q1, .string q2, .int .i64 q3, .slice qa qn qc] (0, 0) _ X6.out Tryz.underlying25 rfl (inf_pred _ rfl) ?_)
          refine (HVP.out w6 B6.out).mono ?_
          rintro e w7 ⟨rfl, b7⟩
          have B7 := mkHid (B6.out.trans (b7.mono B6.out.size))
          have X7 := mkHid (X6.out.step b7)
          have R7 := mkHid (R6.out.step b7)
          have Z7 := mkHid (Z6.out.trans (b7.mono Z6.out.size))
          clear b7 HVP X6 R6 Z6 B6
          go_wp2_with (refine wpList_load_wanted (by rfl) 25 (.tmp 11) rfl AR (by rfl) 25 #[.int .i64 r0, .string r1, .string r2, .int .i64 r3, .slice ra rn rc] (0, 0) _ R7.out Tryz.underlying25 rfl (inf_pred _ rfl) ?_)
          refine (HFW.out w7 Z7.out).mono ?_
          rintro e w8 ⟨rfl, b8⟩
          have B8 := mkHid (B7.out.trans (b8.mono B7.out.size))
          have X8 := mkHid (X7.out.step b8)
          have R8 := mkHid (R7.out.step b8)
          have Z8 := mkHid (Z7.out.trans (b8.mono Z7.out.size))
          clear b8 HFW X7 R7 Z7 B7
          go_wp2_with (first | (refine wpList_load_wanted (by rfl) 25 (.tmp 3) rfl w.heap.size (by rfl) 25 #[.int .i64 q0, .string q1, .string q2, .int .i64 q3, .slice qa qn qc] (0, 0) _ X8.out Tryz.underlying25 rfl (inf_pred _ rfl) ?_) | (refine wpList_load_wanted (by rfl) 25 (.tmp 11) rfl AR (by rfl) 25 #[.int .i64 r0, .string r1, .string r2, .int .i64 r3, .slice ra rn rc] (0, 0) _ R8.out Tryz.underlying25 rfl (inf_pred _ rfl) ?_))
          refine (HSM.out w8 Z8.out B8.out).mono ?_
          rintro e w9 ⟨rfl, b9⟩
          have B9 := mkHid (B8.out.trans (b9.mono B8.out.size))
          clear b9 HSM X8 R8 Z8 B8
          go_upto_region 9 with (fail)
          go_wp2_with fail
          refine (HREST.out _ B9.out).mono ?_
          rintro e wa ⟨va, rfl, hva, ba⟩
          have Ba := mkHid (B9.out.trans (ba.mono B9.out.size))
          clear ba HREST B9
          have HPB := mkHid (fun (hh : (parseF s).2.2.2 ≠ 0) => parse_bad hh)
          have HXN : Hid ((parseF s).2.2.2 = 0 → True) := mkHid (fun _ => trivial)
          obtain ⟨va1, va2, va3, rfl, hpv⟩ := PredV.open hva
          clear hva
          obtain ⟨pn, hpn⟩ : ∃ pn, (parseF s).1 = pn := ⟨_, rfl⟩
          obtain ⟨pq, hpq⟩ : ∃ pq, (parseF s).2.1 = pq := ⟨_, rfl⟩
          obtain ⟨pe, hpe⟩ : ∃ pe, (parseF s).2.2.2 = pe := ⟨_, rfl⟩
          rw [hpn, hpe, hpq] at HPB
          rw [hpq] at HVS hpv
          have HNL : Hid (pn.length ≤ 1000000 ∧ ∀ y ∈ pn, y < 256) := mkHid (by rw [← hpn]; exact name_of s HSB.out)
          rw [hpn, hpe, hpq]
          clear hpn hpq hpe HXN
          have bx := (Below.refl wa.heap.size wa).alloc (Nat.le_refl _) (.cells #[.int .i64 pq.k, .string (strN pq.l), .string (strN pq.r), .int .i64 pq.c, .slice va1 va2 va3] 25)
          have Vb : Hid (HasV (wa.alloc (.cells #[.int .i64 pq.k, .string (strN pq.l), .string (strN pq.r), .int .i64 pq.c, .slice va1 va2 va3] 25)) wa.heap.size 25 [.int .i64 pq.k, .string (strN pq.l), .string (strN pq.r), .int .i64 pq.c, .slice va1 va2 va3]) := mkHid (heap_alloc_new _ _)
          have Bb := mkHid (Ba.out.trans (bx.mono Ba.out.size))
          have PVb := mkHid (hpv.below bx)
          clear bx hpv Ba
          have HV0 : Hid (va2 = pq.ks.length) := mkHid (by
            obtain ⟨a', n', c', e', hn'⟩ := PVb.out.form
            injection e' with _ e'
            injection e' with _ e'
            injection e' with _ e'
            injection e' with _ e'
            injection e' with e' _
            injection e' with _ e' _
            rw [e', hn'])
          have HPP := mkHid (fun W (hW : Below (wa.alloc (.cells #[.int .i64 pq.k, .string (strN pq.l), .string (strN pq.r), .int .i64 pq.c, .slice va1 va2 va3] 25)).heap.size (wa.alloc (.cells #[.int .i64 pq.k, .string (strN pq.l), .string (strN pq.r), .int .i64 pq.c, .slice va1 va2 va3] 25)) W) => PVb.out.below hW)
          clear PVb
          generalize pq.k = v0 at *
          generalize strN pq.l = v1 at *
          generalize strN pq.r = v2 at *
          generalize pq.c = v3 at *
          generalize va1 = va at *
          generalize va2 = vn at *
          generalize va3 = vc at *
          go_upto_region 10 with (fail)
          generalize wa.heap.size = AV at *
          generalize wa.alloc (.cells #[.int .i64 v0, .string v1, .string v2, .int .i64 v3, .slice va vn vc] 25) = wb at *
          have Zb : Hid (Below wb.heap.size wb wb) := mkHid (Below.refl _ _)
          by_cases he0 : pe = 0
          · subst he0
            clear HPB
            have HFQ := mkHid (fun W (hW : Below wb.heap.size wb W) => few_true pq 100 12 (by omega) (by omega) HVS.out (by omega) (by omega) W _ _ (HPP.out W hW))
            have HVQ := mkHid (fun W (hW : Below wb.heap.size wb W) (hW0 : Below w.heap.size w W) => valid_true pq HVS.out W _ _ B (HPP.out W hW) (HG.out W hW0).tab)
            have HQB : Hid (BytP pq ∧ cntP pq ≤ 1000000) := mkHid ⟨byt_form pq (valid_form HVS.out), by have := small_of HVS.out; omega⟩
            have HPQ := mkHid (fun W (hW : Below wb.heap.size wb W) (hW0 : Below w.heap.size w W) => print_any W B pn pq (fun g => g < W.heap.size) [.int .i64 v0, .string v1, .string v2, .int .i64 v3, .slice va vn vc] (HG.out W hW0).tab (HG.out W hW0).pow HNL.out.1 HNL.out.2 HQB.out.1 HQB.out.2 ((HPP.out W hW).mono (fun g _ hg => hg)) (fun g hg => hg))
            obtain ⟨yp, hyp⟩ : ∃ yp, strN pn = yp := ⟨_, rfl⟩
            have HYP := mkHid hyp
            rw [hyp] at HPQ ⊢
            clear hyp
            go_upto_region 12 with (fail)
            go_wp2_with (refine wpList_load_row rfl 25 (.tmp 15) rfl AV ?la5 25 #[.int .i64 v0, .string v1, .string v2, .int .i64 v3, .slice va vn vc] (0, 0) _ Vb.out Tryz.underlying25 rfl (inf_pred _ rfl) ?_; (case la5 => rfl))
            refine (HFQ.out wb Zb.out).mono ?_
            rintro e wc ⟨rfl, bc⟩
            have Bc := mkHid (Bb.out.trans (bc.mono Bb.out.size))
            have Vc := mkHid (Vb.out.step bc)
            have Zc := mkHid (Zb.out.trans (bc.mono Zb.out.size))
            clear bc HFQ Bb Vb Zb
            go_wp2_with (refine wpList_load_wanted (by rfl) 25 (.tmp 15) rfl AV (by rfl) 25 #[.int .i64 v0, .string v1, .string v2, .int .i64 v3, .slice va vn vc] (0, 0) _ Vc.out Tryz.underlying25 rfl (inf_pred _ rfl) ?_)
            refine (HVQ.out wc Zc.out Bc.out).mono ?_
            rintro e wd ⟨rfl, bd⟩
            have Bd := mkHid (Bc.out.trans (bd.mono Bc.out.size))
            have Vd := mkHid (Vc.out.step bd)
            have Zd := mkHid (Zc.out.trans (bd.mono Zc.out.size))
            clear bd HVQ Bc Vc Zc
            go_upto_region 14 with (fail)
            go_wp2_with (refine wpList_load_row rfl 25 (.tmp 15) rfl AV ?la6 25 #[.int .i64 v0, .string v1, .string v2, .int .i64 v3, .slice va vn vc] (0, 0) _ Vd.out Tryz.underlying25 rfl (inf_pred _ rfl) ?_; (case la6 => rfl))
            refine (HPQ.out wd Zd.out Bd.out).mono ?_
            obtain ⟨pu, hpu⟩ : ∃ pu, prnP pn pq = pu := ⟨_, rfl⟩
            rw [hpu]
            have HU := mkHid hpu
            clear hpu HPQ
            rintro e we ⟨rfl, be⟩
            have Be := mkHid (Bd.out.trans (be.mono Bd.out.size))
            have Ve := mkHid (Vd.out.step be)
            have Ze := mkHid (Zd.out.trans (be.mono Zd.out.size))
            clear be Bd Vd Zd
            cases pu with
            | none =>
              unfold prnV
              go_wp2
              go_ret
              exact ⟨rfl, Be.out⟩
            | some u =>
              obtain ⟨hu1, hu2, hu3, hu4⟩ := prn_some HU.out
              have HPU := mkHid (fun W (hW0 : Below w.heap.size w W) => parse_any u W B (HG.out W hW0).tab (by omega) hu4)
              unfold ParseR at HPU
              rw [hu1] at HPU
              rw [HYP.out] at HPU
              clear hu1 hu2 hu3 hu4 HU
              unfold prnV
              go_upto_region 17 with (fail)
              go_wp2_with fail
              refine (HPU.out we Be.out).mono ?_
              rintro e wf ⟨vf, rfl, hvf, bf⟩
              have Bf := mkHid (Be.out.trans (bf.mono Be.out.size))
              have Vf := mkHid (Ve.out.step bf)
              have Zf := mkHid (Ze.out.trans (bf.mono Ze.out.size))
              clear bf HPU Be Ve Ze
              have hvf' : PredV we.heap.size wf pq vf := hvf
              clear hvf
              obtain ⟨ua, un, uc, rfl, hpu⟩ := PredV.open hvf'
              clear hvf'
              have bx := (Below.refl wf.heap.size wf).alloc (Nat.le_refl _) (.cells #[.int .i64 pq.k, .string (strN pq.l), .string (strN pq.r), .int .i64 pq.c, .slice ua un uc] 25)
              have Ug : Hid (HasV (wf.alloc (.cells #[.int .i64 pq.k, .string (strN pq.l), .string (strN pq.r), .int .i64 pq.c, .slice ua un uc] 25)) wf.heap.size 25 [.int .i64 pq.k, .string (strN pq.l), .string (strN pq.r), .int .i64 pq.c, .slice ua un uc]) := mkHid (heap_alloc_new _ _)
              have Bg := mkHid (Bf.out.trans (bx.mono Bf.out.size))
              have Vg := mkHid (Vf.out.step bx)
              have Zg := mkHid (Zf.out.trans (bx.mono Zf.out.size))
              have PUg := mkHid (hpu.below bx)
              clear bx hpu Bf Vf Zf
              have HFU := mkHid (fun W (hW : Below (wf.alloc (.cells #[.int .i64 pq.k, .string (strN pq.l), .string (strN pq.r), .int .i64 pq.c, .slice ua un uc] 25)).heap.size (wf.alloc (.cells #[.int .i64 pq.k, .string (strN pq.l), .string (strN pq.r), .int .i64 pq.c, .slice ua un uc] 25)) W) => few_true pq 100 12 (by omega) (by omega) HVS.out (by omega) (by omega) W _ _ (PUg.out.below hW))
              have HSU := mkHid (fun W (hW : Below (wf.alloc (.cells #[.int .i64 pq.k, .string (strN pq.l), .string (strN pq.r), .int .i64 pq.c, .slice ua un uc] 25)).heap.size (wf.alloc (.cells #[.int .i64 pq.k, .string (strN pq.l), .string (strN pq.r), .int .i64 pq.c, .slice ua un uc] 25)) W) (hW0 : Below wb.heap.size wb W) => same_self pq W _ _ _ _ HQB.out.2 HQB.out.1 (HPP.out W hW0) (PUg.out.below hW))
              clear PUg
              generalize pq.k = u0 at *
              generalize strN pq.l = u1 at *
              generalize strN pq.r = u2 at *
              generalize pq.c = u3 at *
              go_upto_region 18 with (fail)
              generalize wf.heap.size = AU at *
              generalize wf.alloc (.cells #[.int .i64 u0, .string u1, .string u2, .int .i64 u3, .slice ua un uc] 25) = wg at *
              have Yg : Hid (Below wg.heap.size wg wg) := mkHid (Below.refl _ _)
              go_wp2_with (refine wpList_load_wanted (by rfl) 25 (.tmp 21) rfl AU (by rfl) 25 #[.int .i64 u0, .string u1, .string u2, .int .i64 u3, .slice ua un uc] (0, 0) _ Ug.out Tryz.underlying25 rfl (inf_pred _ rfl) ?_)
              refine (HFU.out wg Yg.out).mono ?_
              rintro e wh ⟨rfl, bh⟩
              have Bh := mkHid (Bg.out.trans (bh.mono Bg.out.size))
              have Vh := mkHid (Vg.out.step bh)
              have Uh := mkHid (Ug.out.step bh)
              have Zh := mkHid (Zg.out.trans (bh.mono Zg.out.size))
              have Yh := mkHid (Yg.out.trans (bh.mono Yg.out.size))
              clear bh HFU Bg Vg Ug Zg Yg
              go_wp2_with (first | (refine wpList_load_wanted (by rfl) 25 (.tmp 15) rfl AV (by rfl) 25 #[.int .i64 v0, .string v1, .string v2, .int .i64 v3, .slice va vn vc] (0, 0) _ Vh.out Tryz.underlying25 rfl (inf_pred _ rfl) ?_) | (refine wpList_load_wanted (by rfl) 25 (.tmp 21) rfl AU (by rfl) 25 #[.int .i64 u0, .string u1, .string u2, .int .i64 u3, .slice ua un uc] (0, 0) _ Uh.out Tryz.underlying25 rfl (inf_pred _ rfl) ?_))
              refine (HSU.out wh Yh.out Zh.out).mono ?_
              rintro e wi ⟨rfl, bi⟩
              have Bi := mkHid (Bh.out.trans (bi.mono Bh.out.size))
              clear bi HSU Bh Vh Uh Zh Yh
              go_wp2
              go_ret
              exact ⟨rfl, Bi.out⟩
          · have he1 : (pe == 0) = false := beq_eq_false_iff_ne.mpr he0
            obtain ⟨hb1, hb2⟩ := HPB.out he0
            have hn0 : vn = 0 := by rw [HV0.out, hb2]; rfl
            have HSQ := mkHid (fun W (hW : Below wb.heap.size wb W) => (show Calls Tryz.prog 20 #[.agg #[.int .i64 v0, .string v1, .string v2, .int .i64 v3, .slice va vn vc], .agg #[.int .i64 0, .string ⟨#[]⟩, .string ⟨#[]⟩, .int .i64 0, .slice none 0 0]] W fun e w' => e = .returned (.bool true) ∧ Below W.heap.size W w' from
              same_self pq W _ (fun _ => True) _ pred0 (by rw [hb2]; decide) (by rw [hb2]; exact byt0) (HPP.out W hW) (by rw [hb2]; unfold prd0 PredC; exact ⟨none, 0, rfl, .inl rfl⟩)))
            have hyp : strN pn = ⟨#[]⟩ := by rw [hb1]; rfl
            rw [hyp]
            subst hn0
            clear hb1 hb2 HPB he0 hyp HV0
            have c4 := Vb.out.cell 4 _ rfl
            go_wp2_with (refine wpList_load_wanted (by rfl) 25 (.tmp 15) rfl AV (by rfl) 25 #[.int .i64 v0, .string v1, .string v2, .int .i64 v3, .slice va 0 vc] (0, 0) _ Vb.out Tryz.underlying25 rfl (inf_pred _ rfl) ?_)
            refine (HSQ.out wb Zb.out).mono ?_
            rintro e wj ⟨rfl, bj⟩
            have Bj := mkHid (Bb.out.trans (bj.mono Bb.out.size))
            clear bj
            go_wp2
            go_ret
            exact ⟨rfl, Bj.out⟩
end Go.Proofs.YtmkdfbelbcocpaaGreatDoor
