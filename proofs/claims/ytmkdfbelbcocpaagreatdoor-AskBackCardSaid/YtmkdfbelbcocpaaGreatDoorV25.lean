/- The examples hold (walk of cloaklaw05.sane; printed by wip/tools/gensane5.py). Printed questions, parsed (plain). No program in sight. What is parsed is valid (plain). No program in sight. The bytes of what is printed (plain). No program in sight. -/
import Derived.Test.YtmkdfbelbcocpaaGreatDoorV24
set_option linter.unusedVariables false
set_option linter.unusedSimpArgs false
namespace Go.Proofs.YtmkdfbelbcocpaaGreatDoor
open Go.RowKit Go.Sort
theorem sS1 : strN exS1 = ⟨#[113, 117, 101, 115, 116, 105, 111, 110, 32, 97, 100, 117, 108, 116, 32, 123, 32, 105, 100, 32, 46, 32, 97, 103, 101, 32, 62, 61, 32, 49, 56, 32, 125]⟩ := by kernel_rfl
theorem sT1 : strN exT1 = ⟨#[113, 117, 101, 115, 116, 105, 111, 110, 32, 97, 100, 117, 108, 116, 32, 123, 32, 48, 32, 60, 61, 32, 105, 100, 32, 46, 32, 97, 103, 101, 32, 45, 32, 49, 56, 32, 125]⟩ := by kernel_rfl
theorem sS2 : strN exS2 = ⟨#[113, 117, 101, 115, 116, 105, 111, 110, 32, 97, 32, 123, 32, 120, 46, 121, 32, 105, 110, 32, 123, 32, 51, 32, 44, 32, 53, 32, 46, 46, 32, 55, 32, 125, 32, 125]⟩ := by kernel_rfl
theorem sT2 : strN exT2 = ⟨#[113, 117, 101, 115, 116, 105, 111, 110, 32, 97, 32, 123, 32, 40, 32, 48, 32, 60, 61, 32, 120, 32, 46, 32, 121, 32, 45, 32, 51, 32, 97, 110, 100, 32, 120, 32, 46, 32, 121, 32, 60, 61, 32, 51, 32, 41, 32, 111, 114, 32, 40, 32, 48, 32, 60, 61, 32, 120, 32, 46, 32, 121, 32, 45, 32, 53, 32, 97, 110, 100, 32, 120, 32, 46, 32, 121, 32, 60, 61, 32, 55, 32, 41, 32, 125]⟩ := by kernel_rfl
theorem sS3 : strN exS3 = ⟨#[113, 117, 101, 115, 116, 105, 111, 110, 32, 97, 32, 123, 32, 110, 111, 116, 32, 40, 32, 120, 46, 121, 32, 60, 32, 51, 32, 97, 110, 100, 32, 120, 46, 122, 32, 61, 32, 49, 32, 41, 32, 125]⟩ := by kernel_rfl
theorem sT3 : strN exT3 = ⟨#[113, 117, 101, 115, 116, 105, 111, 110, 32, 97, 32, 123, 32, 48, 32, 60, 61, 32, 120, 32, 46, 32, 121, 32, 45, 32, 51, 32, 111, 114, 32, 40, 32, 48, 32, 60, 61, 32, 120, 32, 46, 32, 122, 32, 45, 32, 50, 32, 111, 114, 32, 120, 32, 46, 32, 122, 32, 60, 61, 32, 48, 32, 41, 32, 125]⟩ := by kernel_rfl
theorem sS4 : strN exS4 = ⟨#[113, 117, 101, 115, 116, 105, 111, 110, 32, 97, 32, 123, 32, 120, 46, 121, 32, 60, 32, 125]⟩ := by kernel_rfl
theorem sS5 : strN exS5 = ⟨#[113, 117, 101, 115, 116, 105, 111, 110, 32, 97, 32, 123, 32, 97, 116, 32, 108, 101, 97, 115, 116, 32, 51, 32, 111, 102, 32, 40, 32, 120, 46, 121, 32, 60, 32, 49, 32, 44, 32, 120, 46, 121, 32, 62, 32, 53, 32, 41, 32, 125]⟩ := by kernel_rfl
theorem sS6 : strN exS6 = ⟨#[120, 46, 97, 32, 60, 61, 32, 51, 32, 97, 110, 100, 32, 97, 116, 32, 108, 101, 97, 115, 116, 32, 50, 32, 111, 102, 32, 40, 32, 120, 46, 97, 32, 60, 61, 32, 49, 32, 44, 32, 120, 46, 98, 32, 60, 61, 32, 50, 32, 44, 32, 120, 46, 99, 32, 60, 61, 32, 53, 32, 41]⟩ := by kernel_rfl
theorem sS7 : strN exS7 = ⟨#[40, 32, 120, 46, 97, 32, 60, 61, 32, 49, 32, 97, 110, 100, 32, 120, 46, 98, 32, 60, 61, 32, 50, 32, 41, 32, 111, 114, 32, 120, 46, 99, 32, 60, 61, 32, 53]⟩ := by kernel_rfl
theorem byte_of {l : List Nat} (h : nmB l = true) : ∀ y ∈ l, y < 256 := (nmB_ok h).1
set_option maxHeartbeats 8000000 in
set_option maxRecDepth 100000 in
theorem sane5_any (w : World) (B : Nat) (hG : Good w B) : Calls Tryz.prog 16 #[] w fun e w' => e = .returned (.bool true) ∧ Below w.heap.size w w' := by
  have H1 := mkHid (fun W (hW : Below w.heap.size w W) => prints_true exS1 exT1 W B (hG.step hW) (of_decide_eq_true (by kernel_rfl)) (byte_of (by kernel_rfl)) _ _ ex1 pr1 (of_decide_eq_true (by kernel_rfl)) (byte_of (by kernel_rfl)) (bytB_ok _ (by kernel_rfl)) (of_decide_eq_true (by kernel_rfl)))
  have H2 := mkHid (fun W (hW : Below w.heap.size w W) => prints_true exS2 exT2 W B (hG.step hW) (of_decide_eq_true (by kernel_rfl)) (byte_of (by kernel_rfl)) _ _ ex2 pr2 (of_decide_eq_true (by kernel_rfl)) (byte_of (by kernel_rfl)) (bytB_ok _ (by kernel_rfl)) (of_decide_eq_true (by kernel_rfl)))
  have H3 := mkHid (fun W (hW : Below w.heap.size w W) => prints_true exS3 exT3 W B (hG.step hW) (of_decide_eq_true (by kernel_rfl)) (byte_of (by kernel_rfl)) _ _ ex3 pr3 (of_decide_eq_true (by kernel_rfl)) (byte_of (by kernel_rfl)) (bytB_ok _ (by kernel_rfl)) (of_decide_eq_true (by kernel_rfl)))
  have H4 := mkHid (fun W (hW : Below w.heap.size w W) => fails_true exS4 W B (hG.step hW) (of_decide_eq_true (by kernel_rfl)) (byte_of (by kernel_rfl)) 19 12 ex4)
  have H5 := mkHid (fun W (hW : Below w.heap.size w W) => fails_true exS5 W B (hG.step hW) (of_decide_eq_true (by kernel_rfl)) (byte_of (by kernel_rfl)) 13 3 ex5)
  have H6 := mkHid (fun W (hW : Below w.heap.size w W) => quest_any exS6 W B (hG.step hW) (of_decide_eq_true (by kernel_rfl)) (byte_of (by kernel_rfl)) exL6 rfl)
  have H7 := mkHid (fun W (hW : Below w.heap.size w W) => quest_any exS7 W B (hG.step hW) (of_decide_eq_true (by kernel_rfl)) (byte_of (by kernel_rfl)) exL7 rfl)
  have HN6 := mkHid (fun W vs (hW : Below w.heap.size w W) (h : PredC W (fun g => g < W.heap.size) exP6 vs) => normal_any exP6 W _ vs B (of_decide_eq_true (by kernel_rfl)) (bytB_ok _ (by kernel_rfl)) h (fun g hg => hg) (hG.step hW).tab)
  have HN7 := mkHid (fun W vs (hW : Below w.heap.size w W) (h : PredC W (fun g => g < W.heap.size) exP7 vs) => normal_any exP7 W _ vs B (of_decide_eq_true (by kernel_rfl)) (bytB_ok _ (by kernel_rfl)) h (fun g hg => hg) (hG.step hW).tab)
  rw [sS1, sT1] at H1
  rw [sS2, sT2] at H2
  rw [sS3, sT3] at H3
  rw [sS4] at H4
  rw [sS5] at H5
  rw [sS6, ex6] at H6
  rw [sS7, ex7] at H7
  rw [nm6] at HN6
  rw [nm7] at HN7
  have B0 := mkHid (Below.refl w.heap.size w)
  clear hG
  go_enter Tryz.func16, Tryz.ntmps16
  go_wp2_with fail
  refine (H1.out w B0.out).mono ?_
  rintro e w1 ⟨rfl, b1⟩
  have B1 := mkHid b1
  clear b1 B0 H1
  go_wp2_with fail
  refine (H2.out w1 B1.out).mono ?_
  rintro e w2 ⟨rfl, b2⟩
  have B2 := mkHid (B1.out.trans (b2.mono B1.out.size))
  clear b2 B1 H2
  go_wp2_with fail
  refine (H3.out w2 B2.out).mono ?_
  rintro e w3 ⟨rfl, b3⟩
  have B3 := mkHid (B2.out.trans (b3.mono B2.out.size))
  clear b3 B2 H3
  go_wp2_with fail
  refine (H4.out w3 B3.out).mono ?_
  rintro e w4 ⟨rfl, b4⟩
  have B4 := mkHid (B3.out.trans (b4.mono B3.out.size))
  clear b4 B3 H4
  go_wp2_with fail
  refine (H5.out w4 B4.out).mono ?_
  rintro e w5 ⟨rfl, b5⟩
  have B5 := mkHid (B4.out.trans (b5.mono B4.out.size))
  clear b5 B4 H5
  go_wp2_with fail
  refine (catom_any _ _ _ w5).mono ?_
  rintro e w6 ⟨rfl, b6⟩
  have B6 := mkHid (B5.out.trans (b6.mono B5.out.size))
  clear b6 B5
  have bx := (Below.refl w6.heap.size w6).alloc (Nat.le_refl _) (.cells #[.int .i64 0, .string ⟨#[120, 46, 97]⟩, .string ⟨#[]⟩, .int .i64 1, .slice none 0 0] 25)
  have XA : Hid (HasV (w6.alloc (.cells #[.int .i64 0, .string ⟨#[120, 46, 97]⟩, .string ⟨#[]⟩, .int .i64 1, .slice none 0 0] 25)) w6.heap.size 25 [.int .i64 0, .string ⟨#[120, 46, 97]⟩, .string ⟨#[]⟩, .int .i64 1, .slice none 0 0]) := mkHid (heap_alloc_new w6 _)
  have B7 := mkHid (B6.out.trans (bx.mono B6.out.size))
  clear bx B6
  go_upto_region 4 with (fail)
  generalize hA : w6.heap.size = A at *
  clear hA
  generalize w6.alloc (.cells #[.int .i64 0, .string ⟨#[120, 46, 97]⟩, .string ⟨#[]⟩, .int .i64 1, .slice none 0 0] 25) = w7 at *
  go_wp2_with fail
  refine (catom_any _ _ _ w7).mono ?_
  rintro e w8 ⟨rfl, b8⟩
  have XA8 := mkHid (XA.out.step b8)
  have B8 := mkHid (B7.out.trans (b8.mono B7.out.size))
  clear b8 B7 XA
  have bx := (Below.refl w8.heap.size w8).alloc (Nat.le_refl _) (.cells #[.int .i64 0, .string ⟨#[120, 46, 98]⟩, .string ⟨#[]⟩, .int .i64 2, .slice none 0 0] 25)
  have XB : Hid (HasV (w8.alloc (.cells #[.int .i64 0, .string ⟨#[120, 46, 98]⟩, .string ⟨#[]⟩, .int .i64 2, .slice none 0 0] 25)) w8.heap.size 25 [.int .i64 0, .string ⟨#[120, 46, 98]⟩, .string ⟨#[]⟩, .int .i64 2, .slice none 0 0]) := mkHid (heap_alloc_new w8 _)
  have XA9 := mkHid (XA8.out.step bx)
  have B9 := mkHid (B8.out.trans (bx.mono B8.out.size))
  clear bx B8 XA8
  go_upto_region 5 with (fail)
  generalize hA : w8.heap.size = AB at *
  clear hA
  generalize w8.alloc (.cells #[.int .i64 0, .string ⟨#[120, 46, 98]⟩, .string ⟨#[]⟩, .int .i64 2, .slice none 0 0] 25) = w9 at *
  go_wp2_with fail
  refine (catom_any _ _ _ w9).mono ?_
  rintro e w10 ⟨rfl, b10⟩
  have XA10 := mkHid (XA9.out.step b10)
  have XB10 := mkHid (XB.out.step b10)
  have B10 := mkHid (B9.out.trans (b10.mono B9.out.size))
  clear b10 B9 XA9 XB
  have bx := (Below.refl w10.heap.size w10).alloc (Nat.le_refl _) (.cells #[.int .i64 0, .string ⟨#[120, 46, 99]⟩, .string ⟨#[]⟩, .int .i64 5, .slice none 0 0] 25)
  have XC : Hid (HasV (w10.alloc (.cells #[.int .i64 0, .string ⟨#[120, 46, 99]⟩, .string ⟨#[]⟩, .int .i64 5, .slice none 0 0] 25)) w10.heap.size 25 [.int .i64 0, .string ⟨#[120, 46, 99]⟩, .string ⟨#[]⟩, .int .i64 5, .slice none 0 0]) := mkHid (heap_alloc_new w10 _)
  have XA11 := mkHid (XA10.out.step bx)
  have XB11 := mkHid (XB10.out.step bx)
  have B11 := mkHid (B10.out.trans (bx.mono B10.out.size))
  clear bx B10 XA10 XB10
  go_upto_region 6 with (fail)
  generalize hA : w10.heap.size = AC at *
  clear hA
  generalize w10.alloc (.cells #[.int .i64 0, .string ⟨#[120, 46, 99]⟩, .string ⟨#[]⟩, .int .i64 5, .slice none 0 0] 25) = w11 at *
  go_wp2_with fail
  refine (H6.out w11 B11.out).mono ?_
  rintro e w12 ⟨v, rfl, hv, b12⟩
  have XA12 := mkHid (XA11.out.step b12)
  have XB12 := mkHid (XB11.out.step b12)
  have XC12 := mkHid (XC.out.step b12)
  have B12 := mkHid (B11.out.trans (b12.mono B11.out.size))
  obtain ⟨ka, kn, kc, rfl, hc⟩ := hv.open
  have hnm := mkHid (HN6.out w12 _ B12.out (hc.mono (fun g h _ => h.2)))
  clear b12 B11 H6 XA11 XB11 XC hv hc HN6
  go_wp2_with fail
  refine hnm.out.mono ?_
  rintro e w13 ⟨b13, a13, c13, v13, rfl, r13⟩
  have XA13 := mkHid (XA12.out.step b13)
  have XB13 := mkHid (XB12.out.step b13)
  have XC13 := mkHid (XC12.out.step b13)
  have B13 := mkHid (B12.out.trans (b13.mono B12.out.size))
  have C6 := mkHid (ChsR.of_row r13)
  clear b13 r13 B12 XA12 XB12 XC12 hnm
  go_wp2_with fail
  refine (H7.out w13 B13.out).mono ?_
  rintro e w14 ⟨v, rfl, hv, b14⟩
  have XA14 := mkHid (XA13.out.step b14)
  have XB14 := mkHid (XB13.out.step b14)
  have XC14 := mkHid (XC13.out.step b14)
  have B14 := mkHid (B13.out.trans (b14.mono B13.out.size))
  have C614 := mkHid (C6.out.below b14)
  obtain ⟨ka, kn, kc, rfl, hc⟩ := hv.open
  have hnm := mkHid (HN7.out w14 _ B14.out (hc.mono (fun g h _ => h.2)))
  clear b14 B13 H7 XA13 XB13 XC13 C6 hv hc HN7
  go_wp2_with fail
  refine hnm.out.mono ?_
  rintro e w15 ⟨b15, a15, c15, v15, rfl, r15⟩
  have XA15 := mkHid (XA14.out.step b15)
  have XB15 := mkHid (XB14.out.step b15)
  have XC15 := mkHid (XC14.out.step b15)
  have B15 := mkHid (B14.out.trans (b15.mono B14.out.size))
  have C615 := mkHid (C614.out.below b15)
  have C7 := mkHid (ChsR.of_row r15)
  clear b15 r15 B14 XA14 XB14 XC14 C614 hnm
  go_upto_region 10 with (fail)
  have HLA : Hid (∀ q ∈ [exPA, exPB, exPC, exPD], q.ks = [] ∧ BytP q) := mkHid (by
    intro q hq
    simp only [List.mem_cons, List.not_mem_nil, or_false] at hq
    rcases hq with rfl | rfl | rfl | rfl <;> exact ⟨rfl, bytB_ok _ (by kernel_rfl)⟩)
  have HC6 : Hid (∀ c ∈ exC6, c.atoms.length ≤ 1000000 ∧ ∀ q ∈ c.atoms, q.ks = [] ∧ BytP q) := mkHid (by
    intro c hc
    simp only [exC6, List.mem_cons, List.not_mem_nil, or_false] at hc
    rcases hc with rfl | rfl
    · exact ⟨by decide, fun q hq => HLA.out q (by simp at hq ⊢; simp [hq])⟩
    · exact ⟨by decide, fun q hq => HLA.out q (by simp at hq ⊢; rcases hq with h | h | h <;> simp [h])⟩)
  have HC7 : Hid (∀ c ∈ exC7, c.atoms.length ≤ 1000000 ∧ ∀ q ∈ c.atoms, q.ks = [] ∧ BytP q) := mkHid (by
    intro c hc
    simp only [exC7, List.mem_cons, List.not_mem_nil, or_false] at hc
    rcases hc with rfl | rfl
    · exact ⟨by decide, fun q hq => HLA.out q (by simp at hq ⊢; rcases hq with h | h <;> simp [h])⟩
    · exact ⟨by decide, fun q hq => HLA.out q (by simp at hq ⊢; rcases hq with h | h <;> simp [h])⟩)
  refine wp_region_mid (sF (.slice a13 2 c13) (.slice a15 2 c15)) (by kernel_rfl) (sF_step _ _) (hdst_of (by kernel_rfl)) (hin_of (by kernel_rfl)) (hacyc_of (by kernel_rfl)) ?hs ?he
  case he =>
    intro listed a' w' H hall
    have hdn := H.done 24 _ 0 rfl (hall 24 (by decide)) rfl
    have hb := mkHid H.below
    have hdf := H.defers
    have hts := H.tsize
    clear H
    obtain ⟨t, df⟩ := a'
    obtain ⟨x0, x1, x2, x3, x4, x5, x6, x7, x8, x9, x10, x11, x12, x13, x14, x15, x16, x17, x18, x19, x20, x21, x22, x23, x24, x25, x26, x27, x28, x29, x30, x31, x32, x33, x34, x35, x36, x37, x38, x39, x40, x41, x42, x43, x44, x45, x46, x47, x48, x49, x50, x51, x52, x53, x54, x55, x56, x57, x58, x59, x60, x61, x62, x63, x64, x65, x66, x67, x68, x69, x70, x71, rfl⟩ := arr72 t hts
    have hdf' : df = [] := hdf
    subst hdf'
    have h0 : x0 = .bool true := hdn
    subst h0
    clear hdn hdf hts
    have BF := mkHid (B15.out.trans (hb.out.mono B15.out.size))
    go_wp2
    go_ret
    exact ⟨rfl, BF.out⟩
  case hs =>
    intro i o hi listed a' w' H hl
    have hl2 := after_listed hl
    have hb := mkHid H.below
    have e3 := H.same 3 (nodst_of (by kernel_rfl))
    have e4 := H.same 4 (nodst_of (by kernel_rfl))
    have e5 := H.same 5 (nodst_of (by kernel_rfl))
    have e6 := H.same 6 (nodst_of (by kernel_rfl))
    have e8 := H.same 8 (nodst_of (by kernel_rfl))
    have hdn := H.done
    have hdf := H.defers
    have hts := H.tsize
    clear hl
    obtain ⟨t, df⟩ := a'
    obtain ⟨x0, x1, x2, x3, x4, x5, x6, x7, x8, x9, x10, x11, x12, x13, x14, x15, x16, x17, x18, x19, x20, x21, x22, x23, x24, x25, x26, x27, x28, x29, x30, x31, x32, x33, x34, x35, x36, x37, x38, x39, x40, x41, x42, x43, x44, x45, x46, x47, x48, x49, x50, x51, x52, x53, x54, x55, x56, x57, x58, x59, x60, x61, x62, x63, x64, x65, x66, x67, x68, x69, x70, x71, rfl⟩ := arr72 t hts
    have hdf' : df = [] := hdf
    subst hdf'
    have e3' : x3 = .pointer (some ⟨A, 0, none⟩) := e3
    have e4' : x4 = .pointer (some ⟨AB, 0, none⟩) := e4
    have e5' : x5 = .pointer (some ⟨AC, 0, none⟩) := e5
    have e6' : x6 = .slice a13 2 c13 := e6
    have e8' : x8 = .slice a15 2 c15 := e8
    clear e3 e4 e5 e6 e8 hdf hts H
    subst e3' e4' e5' e6' e8'
    match i, hi with
    | 0, hi =>
      obtain rfl := Option.some.inj hi
      refine wpOp_list rfl ?_
      go_wp2_with fail
      exact postOf_normal ⟨_, rfl, Below.refl _ _, rfl⟩
    | 1, hi =>
      obtain rfl := Option.some.inj hi
      refine wpOp_list rfl ?_
      go_wp2_with fail
      refine (catom_any _ _ _ w').mono ?_
      rintro e w2 ⟨rfl, b2⟩
      go_wp2_with fail
      exact postOf_normal ⟨_, rfl, b2, rfl⟩
    | 2, hi =>
      obtain rfl := Option.some.inj hi
      have d1 : sF (.slice a13 2 c13) (.slice a15 2 c15) 1 w' x49 := hdn 1 _ 49 rfl (hl2 1 (by rfl)) rfl
      have y1 : x49 = atV sxa 3 := d1
      subst y1
      unfold atV
      refine wpOp_list rfl ?_
      go_wp2_with fail
      exact postOf_normal ⟨_, rfl, (Below.refl _ _).alloc (Nat.le_refl _) _, ⟨_, rfl, kidR_new w' [exPD] [atL sxa 3] _ _ rfl rfl (fun w' P i p vs h1 h2 => by
        match i, h1, h2 with
        | 0, h1, h2 =>
          obtain rfl := Option.some.inj h1
          obtain rfl := Option.some.inj h2
          exact atL_pred rfl (by kernel_rfl)
        | i + 1, h1, h2 => simp at h1)⟩⟩
    | 3, hi =>
      obtain rfl := Option.some.inj hi
      have d2 : sF (.slice a13 2 c13) (.slice a15 2 c15) 2 w' x50 := hdn 2 _ 50 rfl (hl2 2 (by rfl)) rfl
      obtain ⟨g2, hg2, k2⟩ := d2
      subst hg2
      refine wpOp_list rfl ?_
      go_wp2_with fail
      exact postOf_normal ⟨_, rfl, Below.refl _ _, ⟨g2, rfl, k2⟩⟩
    | 4, hi =>
      obtain rfl := Option.some.inj hi
      have XW := mkHid (XA15.out.step hb.out)
      refine wpOp_list rfl ?_
      go_wp2_with (refine wpList_load_wanted (by rfl) 25 (.tmp 3) rfl A (by rfl) 25 #[.int .i64 0, .string ⟨#[120, 46, 97]⟩, .string ⟨#[]⟩, .int .i64 1, .slice none 0 0] (0, 0) _ XW.out Tryz.underlying25 rfl (inf_pred _ rfl) ?_)
      exact postOf_normal ⟨_, rfl, Below.refl _ _, rfl⟩
    | 5, hi =>
      obtain rfl := Option.some.inj hi
      have XW := mkHid (XB15.out.step hb.out)
      refine wpOp_list rfl ?_
      go_wp2_with (refine wpList_load_wanted (by rfl) 25 (.tmp 4) rfl AB (by rfl) 25 #[.int .i64 0, .string ⟨#[120, 46, 98]⟩, .string ⟨#[]⟩, .int .i64 2, .slice none 0 0] (0, 0) _ XW.out Tryz.underlying25 rfl (inf_pred _ rfl) ?_)
      exact postOf_normal ⟨_, rfl, Below.refl _ _, rfl⟩
    | 6, hi =>
      obtain rfl := Option.some.inj hi
      have XW := mkHid (XC15.out.step hb.out)
      refine wpOp_list rfl ?_
      go_wp2_with (refine wpList_load_wanted (by rfl) 25 (.tmp 5) rfl AC (by rfl) 25 #[.int .i64 0, .string ⟨#[120, 46, 99]⟩, .string ⟨#[]⟩, .int .i64 5, .slice none 0 0] (0, 0) _ XW.out Tryz.underlying25 rfl (inf_pred _ rfl) ?_)
      exact postOf_normal ⟨_, rfl, Below.refl _ _, rfl⟩
    | 7, hi =>
      obtain rfl := Option.some.inj hi
      have d4 : sF (.slice a13 2 c13) (.slice a15 2 c15) 4 w' x52 := hdn 4 _ 52 rfl (hl2 4 (by rfl)) rfl
      have d5 : sF (.slice a13 2 c13) (.slice a15 2 c15) 5 w' x53 := hdn 5 _ 53 rfl (hl2 5 (by rfl)) rfl
      have d6 : sF (.slice a13 2 c13) (.slice a15 2 c15) 6 w' x54 := hdn 6 _ 54 rfl (hl2 6 (by rfl)) rfl
      have y4 : x52 = atV sxa 1 := d4
      subst y4
      have y5 : x53 = atV sxb 2 := d5
      subst y5
      have y6 : x54 = atV sxc 5 := d6
      subst y6
      unfold atV
      refine wpOp_list rfl ?_
      go_wp2_with fail
      exact postOf_normal ⟨_, rfl, (Below.refl _ _).alloc (Nat.le_refl _) _, ⟨_, rfl, kidR_new w' [exPA, exPB, exPC] [atL sxa 1, atL sxb 2, atL sxc 5] _ _ rfl rfl (fun w' P i p vs h1 h2 => by
        match i, h1, h2 with
        | 0, h1, h2 =>
          obtain rfl := Option.some.inj h1
          obtain rfl := Option.some.inj h2
          exact atL_pred rfl (by kernel_rfl)
        | 1, h1, h2 =>
          obtain rfl := Option.some.inj h1
          obtain rfl := Option.some.inj h2
          exact atL_pred rfl (by kernel_rfl)
        | 2, h1, h2 =>
          obtain rfl := Option.some.inj h1
          obtain rfl := Option.some.inj h2
          exact atL_pred rfl (by kernel_rfl)
        | i + 3, h1, h2 => simp at h1)⟩⟩
    | 8, hi =>
      obtain rfl := Option.some.inj hi
      have d7 : sF (.slice a13 2 c13) (.slice a15 2 c15) 7 w' x55 := hdn 7 _ 55 rfl (hl2 7 (by rfl)) rfl
      obtain ⟨g7, hg7, k7⟩ := d7
      subst hg7
      refine wpOp_list rfl ?_
      go_wp2_with fail
      exact postOf_normal ⟨_, rfl, Below.refl _ _, ⟨g7, rfl, k7⟩⟩
    | 9, hi =>
      obtain rfl := Option.some.inj hi
      have d3 : sF (.slice a13 2 c13) (.slice a15 2 c15) 3 w' x51 := hdn 3 _ 51 rfl (hl2 3 (by rfl)) rfl
      have d8 : sF (.slice a13 2 c13) (.slice a15 2 c15) 8 w' x56 := hdn 8 _ 56 rfl (hl2 8 (by rfl)) rfl
      obtain ⟨g3, hg3, k3⟩ := d3
      subst hg3
      obtain ⟨g8, hg8, k8⟩ := d8
      subst hg8
      refine wpOp_list rfl ?_
      go_wp2_with fail
      exact postOf_normal ⟨_, rfl, (Below.refl _ _).alloc (Nat.le_refl _) _, ⟨_, rfl, chsR_new w' ⟨1, [exPD]⟩ ⟨2, [exPA, exPB, exPC]⟩ g3 g8 _ k3 k8⟩⟩
    | 10, hi =>
      obtain rfl := Option.some.inj hi
      have d0 : sF (.slice a13 2 c13) (.slice a15 2 c15) 0 w' x48 := hdn 0 _ 48 rfl (hl2 0 (by rfl)) rfl
      have d9 : sF (.slice a13 2 c13) (.slice a15 2 c15) 9 w' x57 := hdn 9 _ 57 rfl (hl2 9 (by rfl)) rfl
      have y0 : x48 = .slice a13 2 c13 := d0
      subst y0
      obtain ⟨g9, hg9, k9⟩ := d9
      subst hg9
      have hc := mkHid (schoices_true w' exC6 a13 (some ⟨g9, 0, none⟩) 2 c13 2 rfl (by omega) HC6.out (C615.out.below hb.out) k9)
      refine wpOp_list rfl ?_
      go_wp2_with fail
      refine hc.out.mono ?_
      rintro e w2 ⟨rfl, b2⟩
      go_wp2_with fail
      exact postOf_normal ⟨_, rfl, b2, rfl⟩
    | 11, hi =>
      obtain rfl := Option.some.inj hi
      have d10 : sF (.slice a13 2 c13) (.slice a15 2 c15) 10 w' x58 := hdn 10 _ 58 rfl (hl2 10 (by rfl)) rfl
      have y10 : x58 = .bool true := d10
      subst y10
      refine wpOp_list rfl ?_
      go_wp2_with fail
      exact postOf_normal ⟨_, rfl, Below.refl _ _, rfl⟩
    | 12, hi =>
      obtain rfl := Option.some.inj hi
      have d11 : sF (.slice a13 2 c13) (.slice a15 2 c15) 11 w' x59 := hdn 11 _ 59 rfl (hl2 11 (by rfl)) rfl
      have y11 : x59 = .bool true := d11
      subst y11
      refine wpOp_list rfl ?_
      go_wp2_with fail
      exact postOf_normal ⟨_, rfl, Below.refl _ _, rfl⟩
    | 13, hi =>
      obtain rfl := Option.some.inj hi
      have d11 : sF (.slice a13 2 c13) (.slice a15 2 c15) 11 w' x59 := hdn 11 _ 59 rfl (hl2 11 (by rfl)) rfl
      have y11 : x59 = .bool true := d11
      subst y11
      have XW := mkHid (XA15.out.step hb.out)
      refine wpOp_list rfl ?_
      go_wp2_with (refine wpList_load_wanted (by rfl) 25 (.tmp 3) rfl A (by rfl) 25 #[.int .i64 0, .string ⟨#[120, 46, 97]⟩, .string ⟨#[]⟩, .int .i64 1, .slice none 0 0] (0, 0) _ XW.out Tryz.underlying25 rfl (inf_pred _ rfl) ?_)
      exact postOf_normal ⟨_, rfl, Below.refl _ _, rfl⟩
    | 14, hi =>
      obtain rfl := Option.some.inj hi
      have d11 : sF (.slice a13 2 c13) (.slice a15 2 c15) 11 w' x59 := hdn 11 _ 59 rfl (hl2 11 (by rfl)) rfl
      have y11 : x59 = .bool true := d11
      subst y11
      have XW := mkHid (XC15.out.step hb.out)
      refine wpOp_list rfl ?_
      go_wp2_with (refine wpList_load_wanted (by rfl) 25 (.tmp 5) rfl AC (by rfl) 25 #[.int .i64 0, .string ⟨#[120, 46, 99]⟩, .string ⟨#[]⟩, .int .i64 5, .slice none 0 0] (0, 0) _ XW.out Tryz.underlying25 rfl (inf_pred _ rfl) ?_)
      exact postOf_normal ⟨_, rfl, Below.refl _ _, rfl⟩
    | 15, hi =>
      obtain rfl := Option.some.inj hi
      have d11 : sF (.slice a13 2 c13) (.slice a15 2 c15) 11 w' x59 := hdn 11 _ 59 rfl (hl2 11 (by rfl)) rfl
      have d13 : sF (.slice a13 2 c13) (.slice a15 2 c15) 13 w' x61 := hdn 13 _ 61 rfl (hl2 13 (by rfl)) rfl
      have d14 : sF (.slice a13 2 c13) (.slice a15 2 c15) 14 w' x62 := hdn 14 _ 62 rfl (hl2 14 (by rfl)) rfl
      have y11 : x59 = .bool true := d11
      subst y11
      have y13 : x61 = atV sxa 1 := d13
      subst y13
      have y14 : x62 = atV sxc 5 := d14
      subst y14
      unfold atV
      refine wpOp_list rfl ?_
      go_wp2_with fail
      exact postOf_normal ⟨_, rfl, (Below.refl _ _).alloc (Nat.le_refl _) _, ⟨_, rfl, kidR_new w' [exPA, exPC] [atL sxa 1, atL sxc 5] _ _ rfl rfl (fun w' P i p vs h1 h2 => by
        match i, h1, h2 with
        | 0, h1, h2 =>
          obtain rfl := Option.some.inj h1
          obtain rfl := Option.some.inj h2
          exact atL_pred rfl (by kernel_rfl)
        | 1, h1, h2 =>
          obtain rfl := Option.some.inj h1
          obtain rfl := Option.some.inj h2
          exact atL_pred rfl (by kernel_rfl)
        | i + 2, h1, h2 => simp at h1)⟩⟩
    | 16, hi =>
      obtain rfl := Option.some.inj hi
      have d11 : sF (.slice a13 2 c13) (.slice a15 2 c15) 11 w' x59 := hdn 11 _ 59 rfl (hl2 11 (by rfl)) rfl
      have d15 : sF (.slice a13 2 c13) (.slice a15 2 c15) 15 w' x63 := hdn 15 _ 63 rfl (hl2 15 (by rfl)) rfl
      have y11 : x59 = .bool true := d11
      subst y11
      obtain ⟨g15, hg15, k15⟩ := d15
      subst hg15
      refine wpOp_list rfl ?_
      go_wp2_with fail
      exact postOf_normal ⟨_, rfl, Below.refl _ _, ⟨g15, rfl, k15⟩⟩
    | 17, hi =>
      obtain rfl := Option.some.inj hi
      have d11 : sF (.slice a13 2 c13) (.slice a15 2 c15) 11 w' x59 := hdn 11 _ 59 rfl (hl2 11 (by rfl)) rfl
      have y11 : x59 = .bool true := d11
      subst y11
      have XW := mkHid (XB15.out.step hb.out)
      refine wpOp_list rfl ?_
      go_wp2_with (refine wpList_load_wanted (by rfl) 25 (.tmp 4) rfl AB (by rfl) 25 #[.int .i64 0, .string ⟨#[120, 46, 98]⟩, .string ⟨#[]⟩, .int .i64 2, .slice none 0 0] (0, 0) _ XW.out Tryz.underlying25 rfl (inf_pred _ rfl) ?_)
      exact postOf_normal ⟨_, rfl, Below.refl _ _, rfl⟩
    | 18, hi =>
      obtain rfl := Option.some.inj hi
      have d11 : sF (.slice a13 2 c13) (.slice a15 2 c15) 11 w' x59 := hdn 11 _ 59 rfl (hl2 11 (by rfl)) rfl
      have y11 : x59 = .bool true := d11
      subst y11
      have XW := mkHid (XC15.out.step hb.out)
      refine wpOp_list rfl ?_
      go_wp2_with (refine wpList_load_wanted (by rfl) 25 (.tmp 5) rfl AC (by rfl) 25 #[.int .i64 0, .string ⟨#[120, 46, 99]⟩, .string ⟨#[]⟩, .int .i64 5, .slice none 0 0] (0, 0) _ XW.out Tryz.underlying25 rfl (inf_pred _ rfl) ?_)
      exact postOf_normal ⟨_, rfl, Below.refl _ _, rfl⟩
    | 19, hi =>
      obtain rfl := Option.some.inj hi
      have d11 : sF (.slice a13 2 c13) (.slice a15 2 c15) 11 w' x59 := hdn 11 _ 59 rfl (hl2 11 (by rfl)) rfl
      have d17 : sF (.slice a13 2 c13) (.slice a15 2 c15) 17 w' x65 := hdn 17 _ 65 rfl (hl2 17 (by rfl)) rfl
      have d18 : sF (.slice a13 2 c13) (.slice a15 2 c15) 18 w' x66 := hdn 18 _ 66 rfl (hl2 18 (by rfl)) rfl
      have y11 : x59 = .bool true := d11
      subst y11
      have y17 : x65 = atV sxb 2 := d17
      subst y17
      have y18 : x66 = atV sxc 5 := d18
      subst y18
      unfold atV
      refine wpOp_list rfl ?_
      go_wp2_with fail
      exact postOf_normal ⟨_, rfl, (Below.refl _ _).alloc (Nat.le_refl _) _, ⟨_, rfl, kidR_new w' [exPB, exPC] [atL sxb 2, atL sxc 5] _ _ rfl rfl (fun w' P i p vs h1 h2 => by
        match i, h1, h2 with
        | 0, h1, h2 =>
          obtain rfl := Option.some.inj h1
          obtain rfl := Option.some.inj h2
          exact atL_pred rfl (by kernel_rfl)
        | 1, h1, h2 =>
          obtain rfl := Option.some.inj h1
          obtain rfl := Option.some.inj h2
          exact atL_pred rfl (by kernel_rfl)
        | i + 2, h1, h2 => simp at h1)⟩⟩
    | 20, hi =>
      obtain rfl := Option.some.inj hi
      have d11 : sF (.slice a13 2 c13) (.slice a15 2 c15) 11 w' x59 := hdn 11 _ 59 rfl (hl2 11 (by rfl)) rfl
      have d19 : sF (.slice a13 2 c13) (.slice a15 2 c15) 19 w' x67 := hdn 19 _ 67 rfl (hl2 19 (by rfl)) rfl
      have y11 : x59 = .bool true := d11
      subst y11
      obtain ⟨g19, hg19, k19⟩ := d19
      subst hg19
      refine wpOp_list rfl ?_
      go_wp2_with fail
      exact postOf_normal ⟨_, rfl, Below.refl _ _, ⟨g19, rfl, k19⟩⟩
    | 21, hi =>
      obtain rfl := Option.some.inj hi
      have d11 : sF (.slice a13 2 c13) (.slice a15 2 c15) 11 w' x59 := hdn 11 _ 59 rfl (hl2 11 (by rfl)) rfl
      have d16 : sF (.slice a13 2 c13) (.slice a15 2 c15) 16 w' x64 := hdn 16 _ 64 rfl (hl2 16 (by rfl)) rfl
      have d20 : sF (.slice a13 2 c13) (.slice a15 2 c15) 20 w' x68 := hdn 20 _ 68 rfl (hl2 20 (by rfl)) rfl
      have y11 : x59 = .bool true := d11
      subst y11
      obtain ⟨g16, hg16, k16⟩ := d16
      subst hg16
      obtain ⟨g20, hg20, k20⟩ := d20
      subst hg20
      refine wpOp_list rfl ?_
      go_wp2_with fail
      exact postOf_normal ⟨_, rfl, (Below.refl _ _).alloc (Nat.le_refl _) _, ⟨_, rfl, chsR_new w' ⟨1, [exPA, exPC]⟩ ⟨1, [exPB, exPC]⟩ g16 g20 _ k16 k20⟩⟩
    | 22, hi =>
      obtain rfl := Option.some.inj hi
      have d11 : sF (.slice a13 2 c13) (.slice a15 2 c15) 11 w' x59 := hdn 11 _ 59 rfl (hl2 11 (by rfl)) rfl
      have d12 : sF (.slice a13 2 c13) (.slice a15 2 c15) 12 w' x60 := hdn 12 _ 60 rfl (hl2 12 (by rfl)) rfl
      have d21 : sF (.slice a13 2 c13) (.slice a15 2 c15) 21 w' x69 := hdn 21 _ 69 rfl (hl2 21 (by rfl)) rfl
      have y11 : x59 = .bool true := d11
      subst y11
      have y12 : x60 = .slice a15 2 c15 := d12
      subst y12
      obtain ⟨g21, hg21, k21⟩ := d21
      subst hg21
      have hc := mkHid (schoices_true w' exC7 a15 (some ⟨g21, 0, none⟩) 2 c15 2 rfl (by omega) HC7.out (C7.out.below hb.out) k21)
      refine wpOp_list rfl ?_
      go_wp2_with fail
      refine hc.out.mono ?_
      rintro e w2 ⟨rfl, b2⟩
      go_wp2_with fail
      exact postOf_normal ⟨_, rfl, b2, rfl⟩
    | 23, hi =>
      obtain rfl := Option.some.inj hi
      have d11 : sF (.slice a13 2 c13) (.slice a15 2 c15) 11 w' x59 := hdn 11 _ 59 rfl (hl2 11 (by rfl)) rfl
      have d22 : sF (.slice a13 2 c13) (.slice a15 2 c15) 22 w' x70 := hdn 22 _ 70 rfl (hl2 22 (by rfl)) rfl
      have y11 : x59 = .bool true := d11
      subst y11
      have y22 : x70 = .bool true := d22
      subst y22
      refine wpOp_list rfl ?_
      go_wp2_with fail
      exact postOf_normal ⟨_, rfl, Below.refl _ _, rfl⟩
    | 24, hi =>
      obtain rfl := Option.some.inj hi
      have d23 : sF (.slice a13 2 c13) (.slice a15 2 c15) 23 w' x71 := hdn 23 _ 71 rfl (hl2 23 (by rfl)) rfl
      have y23 : x71 = .bool true := d23
      subst y23
      refine wpOp_list rfl ?_
      go_wp2_with fail
      exact postOf_normal ⟨_, rfl, Below.refl _ _, rfl⟩
    | i + 25, hi => simp at hi
end Go.Proofs.YtmkdfbelbcocpaaGreatDoor
namespace Go.Proofs.YtmkdfbelbcocpaaGreatDoor
theorem good_free {s : List Nat} (h : freeB s = true) : goodT s = true := by
  have hn : nameB s = true := by unfold freeB at h; rw [Bool.and_eq_true] at h; exact h.1
  unfold goodT
  rw [hn]
  rfl
theorem good_num {c : Int} (h0 : 0 ≤ c) (h1 : c ≤ 1099511627776) : goodT (itoaN c) = true := by
  unfold goodT
  rw [(itoa_num h0 h1).1]
  simp
theorem attL_good {l : List Nat} (h : optN l = true) : ∀ s ∈ attL l, goodT s = true := by
  intro s hs
  by_cases h0 : l = []
  · subst h0
    have : attL [] = [] := rfl
    rw [this] at hs
    cases hs
  · have hv : validN l = true := by unfold optN at h; simpa [h0] using h
    obtain ⟨a, b, _, h1, h2, h3⟩ := val_split hv
    rw [h3] at hs
    simp only [List.mem_cons, List.not_mem_nil, or_false] at hs
    rcases hs with rfl | rfl | rfl
    · exact good_free h1
    · decide
    · exact good_free h2
theorem atomT_good {l r : List Nat} {c : Int} (hl : optN l = true) (hr : optN r = true) (hc : inC c = true) : ∀ s ∈ atomT l r c, goodT s = true := by
  have hcc : -1099511627776 ≤ c ∧ c < 1099511627776 := by unfold inC at hc; simpa using hc
  intro s hs
  unfold atomT at hs
  simp only [List.mem_append] at hs
  rcases hs with (((hs | hs) | hs) | hs) | hs
  · unfold zerT at hs
    split at hs
    · simp at hs; rw [hs]; decide
    · cases hs
  · exact attL_good hl s hs
  · simp at hs; rw [hs]; decide
  · exact attL_good hr s hs
  · unfold conT at hs
    split at hs
    · simp at hs
      rcases hs with rfl | rfl
      · decide
      · exact good_num (by omega) (by omega)
    · split at hs
      · simp at hs; rw [hs]; exact good_num (by omega) (by omega)
      · split at hs
        · simp at hs
          rcases hs with rfl | rfl
          · decide
          · exact good_num (by omega) (by omega)
        · cases hs
theorem betT_good {k : Int} (h : k = 1 ∨ k = 2 ∨ k = 3) : goodT (betT k) = true := by
  rcases h with rfl | rfl | rfl <;> decide
theorem list_kind {k : Int} {n : Nat} {c : Int} (h : listB k n c = true) : k = 1 ∨ k = 2 ∨ k = 3 := by
  unfold listB at h
  simp only [Bool.or_eq_true, Bool.and_eq_true, beq_iff_eq, decide_eq_true_eq] at h
  omega
mutual
theorem prdT_good : ∀ p : Prd, formP p = true → cntP p ≤ 1000000 → ∀ s ∈ prdT p, goodT s = true
  | .mk k l r c ks, hf, hN, s, hs => by
    have hN2 : cntL ks ≤ 1000000 := by unfold cntP at hN; omega
    have hlc := len_cntL ks
    unfold formP at hf
    by_cases h0 : k = 0
    · rw [if_pos h0] at hf
      simp only [Bool.and_eq_true] at hf
      rw [prdT, if_pos h0] at hs
      exact atomT_good hf.1.1.2 hf.1.2 hf.2 s hs
    · rw [if_neg h0] at hf
      simp only [Bool.and_eq_true] at hf
      have hlb := hf.1.1.1
      by_cases h3 : k = 3
      · rw [prdT, if_neg h0, if_pos h3] at hs
        have hc : 1 ≤ c ∧ c ≤ (ks.length : Int) := by
          unfold listB at hlb
          simp [h3] at hlb
          exact hlb
        simp only [List.mem_append, List.mem_cons, List.not_mem_nil, or_false] at hs
        rcases hs with (hs | hs) | hs
        · rcases hs with hs | hs | hs | hs | hs <;> rw [hs]
          · decide
          · decide
          · exact good_num (by omega) (by omega)
          · decide
          · decide
        · exact kidT_good 3 (by simp) ks hf.2 hN2 0 s hs
        · rw [hs]; decide
      · rw [prdT, if_neg h0, if_neg h3] at hs
        exact kidT_good k (list_kind hlb) ks hf.2 hN2 0 s hs
theorem kidT_good (k : Int) (hk : k = 1 ∨ k = 2 ∨ k = 3) : ∀ (ks : List Prd), formL ks = true → cntL ks ≤ 1000000 → ∀ (i : Nat), ∀ s ∈ kidT k i ks, goodT s = true
  | [], _, _, i, s, hs => by rw [kidT] at hs; cases hs
  | q :: qs, hf, hN, i, s, hs => by
    have hN2 : cntP q ≤ 1000000 ∧ cntL qs ≤ 1000000 := by unfold cntL at hN; omega
    unfold formL at hf
    rw [Bool.and_eq_true] at hf
    rw [kidT] at hs
    rcases List.mem_append.1 hs with hs | hs
    · split at hs
      · cases hs
      · simp at hs; rw [hs]; exact betT_good hk
    · rcases List.mem_append.1 hs with hs | hs
      · split at hs
        · simp only [List.mem_append, List.mem_singleton] at hs
          rcases hs with (hs | hs) | hs
          · rw [hs]; decide
          · exact prdT_good q hf.1 hN2.1 s hs
          · rw [hs]; decide
        · exact prdT_good q hf.1 hN2.1 s hs
      · exact kidT_good k hk qs hf.2 hN2.2 (i + 1) s hs
end
theorem kidE_ge (k : Int) (q : Prd) : (prdT q).length ≤ (kidE k q).length := by
  unfold kidE prdU
  split
  · split
    · simp only [List.length_append]; omega
    · exact Nat.le_refl _
  · exact Nat.le_refl _
theorem kidS_mem (k : Int) : ∀ (qs : List Prd) (q : Prd), q ∈ qs → 1 + (prdT q).length ≤ (kidS k qs).length
  | [], q, h => by cases h
  | x :: qs, q, h => by
    rw [kidS, List.length_cons, List.length_append]
    rcases List.mem_cons.1 h with h | h
    · subst h
      have := kidE_ge k q
      omega
    · have := kidS_mem k qs q h
      omega
theorem depL_max : ∀ (ks : List Prd) (n : Nat), (∀ q ∈ ks, depP q ≤ n) → depL ks ≤ n
  | [], n, _ => by rw [depL]; omega
  | q :: qs, n, h => by
    rw [depL]
    have h1 := h q (List.mem_cons_self ..)
    have h2 := depL_max qs n (fun x hx => h x (List.mem_cons_of_mem _ hx))
    omega
theorem dep_len : ∀ (N : Nat) (p : Prd), cntP p ≤ N → formP p = true → depP p ≤ (prdT p).length
  | 0, p, h, _ => by cases p; rw [cntP] at h; omega
  | N + 1, .mk k l r c ks, h, hf => by
    have hcl : cntL ks ≤ N := by rw [cntP] at h; omega
    unfold formP at hf
    by_cases hk0 : k = 0
    · rw [if_pos hk0] at hf
      simp only [Bool.and_eq_true] at hf
      have hkn : ks = [] := by simpa using hf.1.1.1
      subst hkn
      rw [prdT, if_pos hk0, depP, depL]
      unfold atomT
      simp only [List.length_append, List.length_cons, List.length_nil]
      omega
    · rw [if_neg hk0] at hf
      simp only [Bool.and_eq_true] at hf
      have ih : ∀ q ∈ ks, depP q ≤ (prdT q).length := fun q hq => by
        have hc : cntP q ≤ cntL ks := by
          obtain ⟨a, b, rfl⟩ := List.append_of_mem hq
          rw [cntL_append, cntL]; omega
        exact dep_len N q (by omega) ((formL_iff ks).1 hf.2 q hq)
      rw [depP]
      match ks, ih, hf with
      | [], _, hf =>
        exfalso
        have hl := hf.1.1.1
        unfold listB at hl
        simp only [Bool.or_eq_true, Bool.and_eq_true, beq_iff_eq, decide_eq_true_eq, List.length_nil] at hl
        omega
      | q :: qs, ih, hf =>
        have hkid : ∀ x ∈ q :: qs, (prdT x).length ≤ (kidE k q ++ kidS k qs).length := fun x hx => by
          rw [List.length_append]
          rcases List.mem_cons.1 hx with hx | hx
          · subst hx
            have := kidE_ge k x
            omega
          · have := kidS_mem k qs x hx
            omega
        by_cases h3 : k = 3
        · subst h3
          rw [prdT, if_neg hk0, if_pos rfl, kidT_zero]
          have := depL_max (q :: qs) (kidE 3 q ++ kidS 3 qs).length (fun x hx => Nat.le_trans (ih x hx) (hkid x hx))
          simp only [List.length_append, List.length_cons, List.length_nil] at this ⊢
          omega
        · rw [prdT, if_neg hk0, if_neg h3, kidT_zero]
          have hl := hf.1.1.1
          unfold listB at hl
          simp only [Bool.or_eq_true, Bool.and_eq_true, beq_iff_eq, decide_eq_true_eq] at hl
          have h2 : 2 ≤ (q :: qs).length := by omega
          have := depL_max (q :: qs) ((kidE k q ++ kidS k qs).length - 1) (fun x hx => by
            have h4 := ih x hx
            rw [List.length_append]
            have h5 := kidS_len k qs
            rw [List.length_cons] at h2
            rcases List.mem_cons.1 hx with hx | hx
            · subst hx
              have := kidE_ge k x
              omega
            · have h6 := kidS_mem k qs x hx
              have h7 := kidE_ge k q
              have h8 := ih q (List.mem_cons_self ..)
              have h9 : 1 ≤ depP q := by cases q; rw [depP]; omega
              omega)
          have h5 := kidS_len k qs
          rw [List.length_cons] at h2
          rw [List.length_append] at this ⊢
          omega
theorem map_at {l : List (List Nat × Nat)} {a : Nat} {T : List (List Nat)} (h : l.map (·.1) = T) : SeqT (toksG a l) 0 T := fun j s hj => by
  rw [← h, List.getElem?_map] at hj
  obtain ⟨e, he, rfl⟩ := Option.map_eq_some_iff.1 hj
  rw [Nat.zero_add]
  exact toks_at l a j e he
/-- A text of tokens that is a question. -/
theorem parse_txt (l : List (List Nat × Nat)) (g : Nat) (name : List Nat) (body : List (List Nat)) (p : Prd) (hok : okG l = true) (hl : l.map (·.1) = [[113, 117, 101, 115, 116, 105, 111, 110], name, [123]] ++ body ++ [[125]]) (hn : freeB name = true)
    (hr : ∀ (ts : List Tok) (sz f : Nat), body.length + 4 ≤ f → SeqT ts 3 body → NotT ts (3 + body.length) [[111, 114], [97, 110, 100], [43], [45]] → someP ts (unitP ts sz f) 3 = .ok (p, 3 + body.length)) :
    parseF (List.replicate g 32 ++ txtG l) = if (List.replicate g 32 ++ txtG l).length ≤ 4000 ∧ smallP p = true then (name, p, 0, 0) else ([], prd0, 0, 6) := by
  by_cases h4 : (List.replicate g 32 ++ txtG l).length ≤ 4000
  · have hs := map_at (a := g) hl
    have hlen := congrArg List.length hl
    rw [List.length_map] at hlen
    simp only [List.length_append, List.length_cons, List.length_nil] at hlen
    have htl := toks_len l g
    obtain ⟨s1, s2⟩ := SeqT.app hs
    obtain ⟨s3, s4⟩ := SeqT.app s1
    generalize hts : toksG g l = ts at *
    have t0 : AtT ts 0 [113, 117, 101, 115, 116, 105, 111, 110] := s3 0 _ rfl
    have t1 : AtT ts 1 name := s3 1 _ rfl
    have t2 : AtT ts 2 [123] := s3 2 _ rfl
    obtain ⟨t3, _⟩ := SeqT.cons s2
    have e1 : 0 + ([[113, 117, 101, 115, 116, 105, 111, 110], name, [123]] ++ body).length = 3 + body.length := by simp only [List.length_append, List.length_cons, List.length_nil]; omega
    rw [e1] at t3
    have hsc := scanF_txt l g hok h4
    rw [hts] at hsc
    unfold parseF
    rw [hsc, if_pos rfl]
    have k0 : ∀ sz, takeP ts sz [113, 117, 101, 115, 116, 105, 111, 110] 0 = .ok 1 := fun sz => by unfold takeP; rw [at_word t0 (by decide), if_pos (by decide)]
    have k1 : ∀ sz, nameP ts sz 1 = .ok (name, 2) := fun sz => by unfold nameP; rw [if_pos (at_nam t1 hn).1, (at_nam t1 hn).2]
    have k2 : ∀ sz, takeP ts sz [123] 2 = .ok 3 := fun sz => by unfold takeP; rw [at_word t2 (by decide), if_pos (by decide)]
    have k3 : ∀ sz, takeP ts sz [125] (3 + body.length) = .ok (3 + body.length + 1) := fun sz => by unfold takeP; rw [at_word t3 (by decide), if_pos (by decide)]
    have hq : questP ts (List.replicate g 32 ++ txtG l).length = if smallP p = true then .ok (name, p) else .error (6, 0) := by
      unfold questP
      rw [k0]
      show Except.bind (nameP ts _ 1) _ = _
      rw [k1]
      show Except.bind (takeP ts _ [123] 2) _ = _
      rw [k2]
      show Except.bind (someP ts (unitP ts _ (ts.length + 1)) 3) _ = _
      rw [hr ts _ (ts.length + 1) (by omega) s4 (fun v hv => by
        rw [at_word t3 (by decide), beq_eq_false_iff_ne]
        rintro rfl
        revert hv; decide)]
      show Except.bind (takeP ts _ [125] (3 + body.length)) _ = _
      rw [k3]
      show (if 3 + body.length + 1 < ts.length then _ else _) = _
      rw [if_neg (by omega)]
    rw [hq]
    by_cases hsm : smallP p = true
    · rw [if_pos hsm, if_pos ⟨h4, hsm⟩]
    · rw [if_neg hsm, if_neg (fun h => hsm h.2)]
  · rw [if_neg (fun h => h4 h.1)]
    have hsc : scanF (List.replicate g 32 ++ txtG l) = ([], 0, 6) := by unfold scanF; rw [if_pos (by omega)]
    unfold parseF
    rw [hsc, if_neg (by decide)]
/-- Tokens with one blank between each two. -/
def gapL : List (List Nat) → List (List Nat × Nat)
  | [] => []
  | [s] => [(s, 0)]
  | s :: t :: r => (s, 1) :: gapL (t :: r)
theorem gapL_map : ∀ ss : List (List Nat), (gapL ss).map (·.1) = ss
  | [] => rfl
  | [s] => rfl
  | s :: t :: r => by rw [gapL, List.map_cons, gapL_map (t :: r)]
theorem gapL_txt : ∀ ss : List (List Nat), txtG (gapL ss) = joinT ss
  | [] => rfl
  | [s] => by simp [gapL, txtG, joinT]
  | s :: t :: r => by
    show s ++ (List.replicate 1 32 ++ txtG (gapL (t :: r))) = s ++ 32 :: joinT (t :: r)
    rw [gapL_txt (t :: r)]
    rfl
theorem gapL_ok : ∀ ss : List (List Nat), (∀ s ∈ ss, goodT s = true) → okG (gapL ss) = true
  | [], _ => rfl
  | [s], h => by
    have := h s (by simp)
    simp [gapL, okG, this]
  | s :: t :: r, h => by
    have h1 := h s (by simp)
    have h2 := gapL_ok (t :: r) (fun x hx => h x (List.mem_cons_of_mem _ hx))
    rw [gapL, okG, h1, h2]
    simp
/-- What is printed is read as the same question. -/
theorem parse_print {name t : List Nat} {p : Prd} (h : prnP name p = some t) : parseF t = (name, p, 0, 0) ∧ t.length ≤ 4000 ∧ validP p = true ∧ freeB name = true := by
  unfold prnP at h
  by_cases h1 : (freeB name && validP p) = true
  · rw [if_pos h1] at h
    rw [Bool.and_eq_true] at h1
    by_cases h2 : (qstL name p).length ≤ 4000
    · rw [if_pos h2] at h
      obtain rfl := Option.some.inj h
      have hsm := small_of h1.2
      have hf := valid_form h1.2
      have hg : ∀ s ∈ qstT name p, goodT s = true := fun s hs => by
        unfold qstT at hs
        simp only [List.mem_append, List.mem_cons, List.not_mem_nil, or_false] at hs
        rcases hs with (hs | hs) | hs
        · rcases hs with rfl | rfl | rfl
          · decide
          · exact good_free h1.1
          · decide
        · exact prdT_good p hf (by omega) s hs
        · rw [hs]; decide
      have hread := (read_at (cntP p) p (Nat.le_refl _) (by omega) hf).2
      have := parse_txt (gapL (qstT name p)) 0 name (prdT p) p (gapL_ok _ hg) (gapL_map _) h1.1 (fun ts sz f hf2 hs hn => by
        have hd := dep_len (cntP p) p (Nat.le_refl _) hf
        exact hread ts sz 3 f (by split <;> omega) hs hn)
      rw [gapL_txt] at this
      have e0 : List.replicate 0 32 ++ joinT (qstT name p) = qstL name p := rfl
      rw [e0, if_pos ⟨h2, by have := h1.2; unfold validP at this; rw [Bool.and_eq_true] at this; exact this.1⟩] at this
      exact ⟨this, h2, h1.2, h1.1⟩
    · rw [if_neg h2] at h; cases h
  · rw [if_neg h1] at h; cases h
end Go.Proofs.YtmkdfbelbcocpaaGreatDoor
namespace Go.Proofs.YtmkdfbelbcocpaaGreatDoor
theorem validN_of {a b : List Nat} (ha : freeB a = true) (hb : freeB b = true) : validN (a ++ 46 :: b) = true := by
  have hna : nameB a = true := by unfold freeB at ha; rw [Bool.and_eq_true] at ha; exact ha.1
  have hr : runN notDot (a ++ 46 :: b) = a.length := run_app notDot a _ (fun y hy => by have := ((name_byte hna).1 y hy).2; simpa [notDot] using this) (.inr (show notDot 46 = false by decide))
  unfold validN
  rw [hr, List.take_left' rfl]
  have hd : (a ++ 46 :: b).drop (a.length + 1) = b := by rw [← List.drop_drop, List.drop_left' rfl]; rfl
  rw [hd, ha, hb]
  simp
theorem nam_free {ts : List Tok} {i : Nat} (h : isNamP ts i = true) : freeB (txtP ts i) = true := by
  unfold isNamP at h
  unfold txtP
  cases hi : ts[i]? with
  | none => rw [hi] at h; cases h
  | some t =>
    rw [hi] at h
    rw [Bool.and_eq_true] at h
    exact h.2
theorem sum_opt {ts : List Tok} {sz i : Nat} {r : SumV × Nat} (h : sumP ts sz i = .ok r) : optN r.1.1 = true := by
  unfold sumP at h
  split at h
  · obtain ⟨m, -, h2⟩ := ex_bind h
    cases h2; rfl
  · split at h
    · cases h; rfl
    · obtain ⟨a, h1, h2⟩ := ex_bind h
      obtain ⟨j, h3, h4⟩ := ex_bind h2
      obtain ⟨b, h5, h6⟩ := ex_bind h4
      obtain ⟨q1, rfl, -⟩ := nameP_ok h1
      obtain ⟨q2, rfl, -⟩ := nameP_ok h5
      have hv : optN (txtP ts i ++ 46 :: txtP ts j) = true := by
        unfold optN
        rw [validN_of (nam_free q1) (nam_free q2), Bool.or_true]
      split at h6
      · obtain ⟨m, -, h7⟩ := ex_bind h6
        cases h7; exact hv
      · split at h6
        · obtain ⟨m, -, h7⟩ := ex_bind h6
          cases h7; exact hv
        · cases h6; exact hv
theorem most_form {a b : SumV} {less : Int} (ha : optN a.1 = true) (hb : optN b.1 = true) (h : inP (mostP a b less) = true) : formP (mostP a b less) = true := by
  have hc : inC (mostP a b less).c = true := h
  unfold mostP at hc ⊢
  unfold formP
  have hc2 : inC (b.2 - a.2 - less) = true := hc
  rw [if_pos rfl, ha, hb, hc2]
  rfl
theorem two_form {k : Int} {p q : Prd} (hk : k = 1 ∨ k = 2) (hp : formP p = true) (hq : formP q = true) : formP (.mk k [] [] 0 [p, q]) = true := by
  unfold formP
  rw [if_neg (by omega)]
  rcases hk with rfl | rfl <;> simp [listB, formL, hp, hq]
/-- What an element of the parser gives is of one of the forms. -/
def Form (el : Nat → PR Prd) : Prop := ∀ i r, el i = .ok r → formP r.1 = true
theorem compare_form {ts : List Tok} {sz : Nat} {a : SumV} {u : Nat} (ha : optN a.1 = true) : Form (compareP ts sz a u) := by
  intro i r h
  unfold compareP at h
  split at h
  · cases h
  · rename_i n hn
    obtain ⟨b, h1, h2⟩ := ex_bind h
    split at h2
    · rename_i hok
      cases h2
      have hb := sum_opt h1
      show formP (makeP n a b.1) = true
      unfold okP at hok
      unfold makeP
      split at hok
      · rw [if_pos (by assumption)]; exact most_form ha hb hok
      · rw [if_neg (by assumption)]
        split at hok
        · rw [if_pos (by assumption)]; exact most_form ha hb hok
        · rw [if_neg (by assumption)]
          split at hok
          · rw [if_pos (by assumption)]; exact most_form hb ha hok
          · rw [if_neg (by assumption)]
            split at hok
            · rw [if_pos (by assumption)]; exact most_form hb ha hok
            · rw [if_neg (by assumption)]
              split at hok
              · rw [if_pos (by assumption)]
                rw [Bool.and_eq_true] at hok
                exact two_form (.inl rfl) (most_form ha hb hok.1) (most_form hb ha hok.2)
              · rw [if_neg (by assumption)]
                rw [Bool.and_eq_true] at hok
                exact two_form (.inr rfl) (most_form ha hb hok.1) (most_form hb ha hok.2)
    · cases h2
theorem one_form {k : Int} {ps : List Prd} (hk : k = 1 ∨ k = 2) (h0 : 0 < ps.length) (h : ∀ q ∈ ps, formP q = true) : formP (oneP k ps) = true := by
  match ps, h0, h with
  | [p], _, h => exact h p (by simp)
  | a :: b :: r, _, h =>
    show formP (.mk k [] [] 0 (a :: b :: r)) = true
    unfold formP
    rw [if_neg (by omega)]
    have hl := (formL_iff (a :: b :: r)).2 h
    rw [hl]
    rcases hk with rfl | rfl <;> simp [listB]
theorem member_form {ts : List Tok} {sz : Nat} {a : SumV} {u : Nat} (ha : optN a.1 = true) : Form (memberP ts sz a u) := by
  intro i r h
  unfold memberP at h
  obtain ⟨j, -, h2⟩ := ex_bind h
  obtain ⟨rs, h3, h4⟩ := ex_bind h2
  obtain ⟨k, -, h6⟩ := ex_bind h4
  split at h6
  · rename_i hall
    cases h6
    have hlen := (ranges_few _ _ _ _ h3).2.1
    refine one_form (.inr rfl) (by rw [List.length_map]; exact hlen) (fun q hq => ?_)
    obtain ⟨m, hm, rfl⟩ := List.mem_map.1 hq
    have := List.all_eq_true.1 hall m hm
    unfold rngOk at this
    rw [Bool.and_eq_true] at this
    exact two_form (.inl rfl) (most_form rfl ha this.1) (most_form ha rfl this.2)
  · cases h6
theorem list_form {ts : List Tok} {word : List Nat} {el : Nat → PR Prd} (hel : Form el) : ∀ (f i : Nat) (acc : List Prd) (r : List Prd × Nat), (∀ q ∈ acc, formP q = true) → listP ts word el f i acc = .ok r → acc.length < r.1.length ∧ ∀ q ∈ r.1, formP q = true
  | 0, _, _, _, _, h => by cases h
  | f + 1, i, acc, r, ha, h => by
    unfold listP at h
    obtain ⟨p, h1, h2⟩ := ex_bind h
    have hp := hel i p h1
    have ha2 : ∀ q ∈ acc ++ [p.1], formP q = true := fun q hq => by
      rcases List.mem_append.1 hq with hq | hq
      · exact ha q hq
      · rw [List.mem_singleton] at hq; rw [hq]; exact hp
    split at h2
    · have := list_form hel f _ _ r ha2 h2
      refine ⟨?_, this.2⟩
      have h3 := this.1
      rw [List.length_append] at h3
      omega
    · cases h2
      exact ⟨by simp, ha2⟩
theorem all_form {ts : List Tok} {unit : Nat → PR Prd} (h : Form unit) : Form (allP ts unit) := by
  intro i r hr
  unfold allP at hr
  obtain ⟨ps, h1, h2⟩ := ex_bind hr
  cases h2
  have := list_form h _ _ _ _ (by simp) h1
  exact one_form (.inl rfl) (by simpa using this.1) this.2
theorem some_form {ts : List Tok} {unit : Nat → PR Prd} (h : Form unit) : Form (someP ts unit) := by
  intro i r hr
  unfold someP at hr
  obtain ⟨ps, h1, h2⟩ := ex_bind hr
  cases h2
  have := list_form (all_form h) _ _ _ _ (by simp) h1
  exact one_form (.inr rfl) (by simpa using this.1) this.2
theorem least_form {ts : List Tok} {sz : Nat} {unit : Nat → PR Prd} {u : Nat} (h : Form unit) : Form (leastP ts sz unit u) := by
  intro i r hr
  unfold leastP at hr
  obtain ⟨j1, -, h1⟩ := ex_bind hr
  obtain ⟨n, -, h2⟩ := ex_bind h1
  obtain ⟨j2, -, h3⟩ := ex_bind h2
  obtain ⟨j3, -, h4⟩ := ex_bind h3
  obtain ⟨ps, h5, h6⟩ := ex_bind h4
  obtain ⟨j4, -, h7⟩ := ex_bind h6
  split at h7
  · rename_i hn
    cases h7
    have := list_form (some_form h) _ _ _ _ (by simp) h5
    unfold formP
    rw [if_neg (by decide), (formL_iff ps.1).2 this.2]
    unfold listB
    simp only [Bool.and_true, Bool.or_eq_true, Bool.and_eq_true, beq_iff_eq, decide_eq_true_eq]
    refine ⟨⟨.inr ⟨⟨?_, by omega⟩, by omega⟩, ?_⟩, ?_⟩ <;> simp
  · cases h7
theorem unit_form {ts : List Tok} {sz : Nat} (hts : ∀ t ∈ ts, TokOk t) (hn : ts.length ≤ 100000) : ∀ f, Form (unitP ts sz f)
  | 0 => by intro i r h; cases h
  | f + 1 => by
    have ih := unit_form (sz := sz) hts hn f
    intro i r h
    unfold unitP at h
    split at h
    · obtain ⟨p, h1, h2⟩ := ex_bind h
      cases h2
      have hf := ih _ _ h1
      have hc := unit_few (sz := sz) hts f _ _ h1
      have hg := unitP_ok (sz := sz) hts f _ _ h1
      exact (neg_form p.1 hf (by have := hg.2; have := hc.2; omega)).1
    · split at h
      · obtain ⟨p, h1, h2⟩ := ex_bind h
        obtain ⟨j, -, h3⟩ := ex_bind h2
        cases h3
        have := some_form ih _ _ h1
        exact this
      · split at h
        · exact least_form ih _ _ h
        · obtain ⟨a, h1, h2⟩ := ex_bind h
          split at h2
          · exact member_form (sum_opt h1) _ _ h2
          · exact compare_form (sum_opt h1) _ _ h2
/-- What Parse gives with OK is valid. -/
theorem parse_valid {l : List Nat} (hb : ∀ y ∈ l, y < 256) (h : (parseF l).2.2.2 = 0) : validP (parseF l).2.1 = true := by
  unfold parseF at h ⊢
  by_cases h0 : (scanF l).2.2 = 0
  · rw [if_pos h0] at h ⊢
    cases hq : questP (scanF l).1 l.length with
    | error e => show validP prd0 = true; decide
    | ok r =>
      show validP r.2 = true
      unfold questP at hq
      obtain ⟨j1, -, h1⟩ := ex_bind hq
      obtain ⟨n, h2, h3⟩ := ex_bind h1
      obtain ⟨j2, -, h4⟩ := ex_bind h3
      obtain ⟨p, h5, h6⟩ := ex_bind h4
      obtain ⟨j3, -, h7⟩ := ex_bind h6
      split at h7
      · cases h7
      · split at h7
        · rename_i hs
          cases h7
          have hf := some_form (unit_form (sz := l.length) (scanF_ok l hb) (Nat.le_trans (scanF_count l) (by decide)) _) _ _ h5
          unfold validP
          rw [hs, hf]
          rfl
        · cases h7
  · rw [if_neg h0] at h
    exact absurd h h0
/-- What Parse gives with an error. -/
theorem parse_bad {l : List Nat} (h : (parseF l).2.2.2 ≠ 0) : (parseF l).1 = [] ∧ (parseF l).2.1 = prd0 := by
  unfold parseF at h ⊢
  by_cases h0 : (scanF l).2.2 = 0
  · rw [if_pos h0] at h ⊢
    cases hq : questP (scanF l).1 l.length with
    | error e => exact ⟨rfl, rfl⟩
    | ok r =>
      rw [hq] at h
      exact absurd rfl h
  · rw [if_neg h0]
    exact ⟨rfl, rfl⟩
end Go.Proofs.YtmkdfbelbcocpaaGreatDoor
namespace Go.Proofs.YtmkdfbelbcocpaaGreatDoor
theorem good_byte {s : List Nat} (h : goodT s = true) : ∀ y ∈ s, y < 256 := by
  unfold goodT at h
  simp only [Bool.or_eq_true] at h
  intro y hy
  rcases h with (h | h) | h
  · have := innB_lt ((name_parts h).2.2 y hy); omega
  · have := (num_parts h).2 y hy
    simp only [digB, Bool.and_eq_true, decide_eq_true_eq] at this
    omega
  · have hall : ∀ t ∈ sgnsP, ∀ z ∈ t, z < 256 := by decide
    exact hall s (by simpa using h) y hy
theorem txtG_byte : ∀ l : List (List Nat × Nat), okG l = true → ∀ y ∈ txtG l, y < 256
  | [], _, y, hy => by cases hy
  | e :: l, h, y, hy => by
    unfold okG at h
    simp only [Bool.and_eq_true] at h
    rw [txtG] at hy
    rcases List.mem_append.1 hy with hy | hy
    · exact good_byte h.1.1 y hy
    · rcases List.mem_append.1 hy with hy | hy
      · have := (List.mem_replicate.1 hy).2; omega
      · exact txtG_byte l h.2 y hy
theorem qstT_good {name : List Nat} {p : Prd} (hn : freeB name = true) (hv : validP p = true) : ∀ s ∈ qstT name p, goodT s = true := fun s hs => by
  have hsm := small_of hv
  unfold qstT at hs
  simp only [List.mem_append, List.mem_cons, List.not_mem_nil, or_false] at hs
  rcases hs with (hs | hs) | hs
  · rcases hs with rfl | rfl | rfl
    · decide
    · exact good_free hn
    · decide
  · exact prdT_good p (valid_form hv) (by omega) s hs
  · rw [hs]; decide
theorem print_byte {name t : List Nat} {p : Prd} (h : prnP name p = some t) : ∀ y ∈ t, y < 256 := by
  obtain ⟨_, _, hv, hn⟩ := parse_print h
  unfold prnP at h
  rw [hn, hv, if_pos (show (true && true) = true from rfl)] at h
  split at h
  · obtain rfl := Option.some.inj h
    unfold qstL
    rw [← gapL_txt]
    exact txtG_byte _ (gapL_ok _ (qstT_good hn hv))
  · cases h
/-- The name that Parse gives. -/
theorem name_of (l : List Nat) (hb : ∀ y ∈ l, y < 256) : (parseF l).1.length ≤ 1000000 ∧ ∀ y ∈ (parseF l).1, y < 256 := by
  unfold parseF
  by_cases h0 : (scanF l).2.2 = 0
  · rw [if_pos h0]
    cases hq : questP (scanF l).1 l.length with
    | error e => exact ⟨Nat.zero_le _, fun y hy => by cases hy⟩
    | ok r =>
      show r.1.length ≤ 1000000 ∧ ∀ y ∈ r.1, y < 256
      unfold questP at hq
      obtain ⟨j1, -, h1⟩ := ex_bind hq
      obtain ⟨n, h2, h3⟩ := ex_bind h1
      obtain ⟨j2, -, h4⟩ := ex_bind h3
      obtain ⟨p, h5, h6⟩ := ex_bind h4
      obtain ⟨j3, -, h7⟩ := ex_bind h6
      split at h7
      · cases h7
      · split at h7
        · cases h7
          obtain ⟨q1, hn, -⟩ := nameP_ok h2
          rw [hn]
          exact ⟨by have := txtP_len q1; show (txtP (scanF l).1 j1).length ≤ _; omega, txtP_byte (scanF_ok l hb) j1⟩
        · cases h7
  · rw [if_neg h0]
    exact ⟨Nat.zero_le _, fun y hy => by cases hy⟩
end Go.Proofs.YtmkdfbelbcocpaaGreatDoor
