import Derived.Test.YtmkdfbelbcocpaaGreatDoorBS25
set_option linter.unusedVariables false
set_option linter.unusedSimpArgs false
namespace Go.Proofs.YtmkdfbelbcocpaaGreatDoor
open Go.RowKit Go.Sort
theorem sS1:strN exS1 = ⟨#[113,117,101,115,116,105,111,110,32,97,100,117,108,116,32,123,32,105,100,32,46,32,97,103,101,32,62,61,32,49,56,32,125]⟩:=by kernel_rfl
theorem sT1:strN exT1 = ⟨#[113,117,101,115,116,105,111,110,32,97,100,117,108,116,32,123,32,48,32,60,61,32,105,100,32,46,32,97,103,101,32,45,32,49,56,32,125]⟩:=by kernel_rfl
theorem sS2:strN exS2 = ⟨#[113,117,101,115,116,105,111,110,32,97,32,123,32,120,46,121,32,105,110,32,123,32,51,32,44,32,53,32,46,46,32,55,32,125,32,125]⟩:=by kernel_rfl
theorem sT2:strN exT2 = ⟨#[113,117,101,115,116,105,111,110,32,97,32,123,32,40,32,48,32,60,61,32,120,32,46,32,121,32,45,32,51,32,97,110,100,32,120,32,46,32,121,32,60,61,32,51,32,41,32,111,114,32,40,32,48,32,60,61,32,120,32,46,32,121,32,45,32,53,32,97,110,100,32,120,32,46,32,121,32,60,61,32,55,32,41,32,125]⟩:=by kernel_rfl
theorem sS3:strN exS3 = ⟨#[113,117,101,115,116,105,111,110,32,97,32,123,32,110,111,116,32,40,32,120,46,121,32,60,32,51,32,97,110,100,32,120,46,122,32,61,32,49,32,41,32,125]⟩:=by kernel_rfl
theorem sT3:strN exT3 = ⟨#[113,117,101,115,116,105,111,110,32,97,32,123,32,48,32,60,61,32,120,32,46,32,121,32,45,32,51,32,111,114,32,40,32,48,32,60,61,32,120,32,46,32,122,32,45,32,50,32,111,114,32,120,32,46,32,122,32,60,61,32,48,32,41,32,125]⟩:=by kernel_rfl
theorem sS4:strN exS4 = ⟨#[113,117,101,115,116,105,111,110,32,97,32,123,32,120,46,121,32,60,32,125]⟩:=by kernel_rfl
theorem sS5:strN exS5 = ⟨#[113,117,101,115,116,105,111,110,32,97,32,123,32,97,116,32,108,101,97,115,116,32,51,32,111,102,32,40,32,120,46,121,32,60,32,49,32,44,32,120,46,121,32,62,32,53,32,41,32,125]⟩:=by kernel_rfl
theorem sS6:strN exS6 = ⟨#[120,46,97,32,60,61,32,51,32,97,110,100,32,97,116,32,108,101,97,115,116,32,50,32,111,102,32,40,32,120,46,97,32,60,61,32,49,32,44,32,120,46,98,32,60,61,32,50,32,44,32,120,46,99,32,60,61,32,53,32,41]⟩:=by kernel_rfl
theorem sS7:strN exS7 = ⟨#[40,32,120,46,97,32,60,61,32,49,32,97,110,100,32,120,46,98,32,60,61,32,50,32,41,32,111,114,32,120,46,99,32,60,61,32,53]⟩:=by kernel_rfl
theorem byte_of {l:List Nat} (h:nmB l = true):∀ y∈l,y < 256:=(nmB_ok h).1
set_option maxHeartbeats 8000000 in
set_option maxRecDepth 100000 in
theorem sane5_any (w:World) (B:Nat) (hG:Good w B):Calls Tryz.prog 16 #[] w fun e w'=>e = .returned (.bool true)∧Below w.heap.size w w':=by
 have H1:=mkHid (fun W (hW:Below w.heap.size w W)=>prints_true exS1 exT1 W B (hG.step hW) (of_decide_eq_true (by kernel_rfl)) (byte_of (by kernel_rfl)) _ _ ex1 pr1 (of_decide_eq_true (by kernel_rfl)) (byte_of (by kernel_rfl)) (bytB_ok _ (by kernel_rfl)) (of_decide_eq_true (by kernel_rfl)))
 have H2:=mkHid (fun W (hW:Below w.heap.size w W)=>prints_true exS2 exT2 W B (hG.step hW) (of_decide_eq_true (by kernel_rfl)) (byte_of (by kernel_rfl)) _ _ ex2 pr2 (of_decide_eq_true (by kernel_rfl)) (byte_of (by kernel_rfl)) (bytB_ok _ (by kernel_rfl)) (of_decide_eq_true (by kernel_rfl)))
 have H3:=mkHid (fun W (hW:Below w.heap.size w W)=>prints_true exS3 exT3 W B (hG.step hW) (of_decide_eq_true (by kernel_rfl)) (byte_of (by kernel_rfl)) _ _ ex3 pr3 (of_decide_eq_true (by kernel_rfl)) (byte_of (by kernel_rfl)) (bytB_ok _ (by kernel_rfl)) (of_decide_eq_true (by kernel_rfl)))
 have H4:=mkHid (fun W (hW:Below w.heap.size w W)=>fails_true exS4 W B (hG.step hW) (of_decide_eq_true (by kernel_rfl)) (byte_of (by kernel_rfl)) 19 12 ex4)
 have H5:=mkHid (fun W (hW:Below w.heap.size w W)=>fails_true exS5 W B (hG.step hW) (of_decide_eq_true (by kernel_rfl)) (byte_of (by kernel_rfl)) 13 3 ex5)
 have H6:=mkHid (fun W (hW:Below w.heap.size w W)=>quest_any exS6 W B (hG.step hW) (of_decide_eq_true (by kernel_rfl)) (byte_of (by kernel_rfl)) exL6 rfl)
 have H7:=mkHid (fun W (hW:Below w.heap.size w W)=>quest_any exS7 W B (hG.step hW) (of_decide_eq_true (by kernel_rfl)) (byte_of (by kernel_rfl)) exL7 rfl)
 have HN6:=mkHid (fun W vs (hW:Below w.heap.size w W) (h:PredC W (fun g=>g < W.heap.size) exP6 vs)=>normal_any exP6 W _ vs B (of_decide_eq_true (by kernel_rfl)) (bytB_ok _ (by kernel_rfl)) h (fun g hg=>hg) (hG.step hW).tab)
 have HN7:=mkHid (fun W vs (hW:Below w.heap.size w W) (h:PredC W (fun g=>g < W.heap.size) exP7 vs)=>normal_any exP7 W _ vs B (of_decide_eq_true (by kernel_rfl)) (bytB_ok _ (by kernel_rfl)) h (fun g hg=>hg) (hG.step hW).tab)
 rw [sS1,sT1] at H1
 rw [sS2,sT2] at H2
 rw [sS3,sT3] at H3
 rw [sS4] at H4
 rw [sS5] at H5
 rw [sS6,ex6] at H6
 rw [sS7,ex7] at H7
 rw [nm6] at HN6
 rw [nm7] at HN7
 have B0:=mkHid (Below.refl w.heap.size w)
 clear hG
 go_enter Tryz.func16,Tryz.ntmps16
 go_wp2_with fail
 refine (H1.out w B0.out).mono ?_
 rintro e w1 ⟨rfl,b1⟩
 have B1:=mkHid b1
 clear b1 B0 H1
 go_wp2_with fail
 refine (H2.out w1 B1.out).mono ?_
 rintro e w2 ⟨rfl,b2⟩
 have B2:=mkHid (B1.out.trans (b2.mono B1.out.size))
 clear b2 B1 H2
 go_wp2_with fail
 refine (H3.out w2 B2.out).mono ?_
 rintro e w3 ⟨rfl,b3⟩
 have B3:=mkHid (B2.out.trans (b3.mono B2.out.size))
 clear b3 B2 H3
 go_wp2_with fail
 refine (H4.out w3 B3.out).mono ?_
 rintro e w4 ⟨rfl,b4⟩
 have B4:=mkHid (B3.out.trans (b4.mono B3.out.size))
 clear b4 B3 H4
 go_wp2_with fail
 refine (H5.out w4 B4.out).mono ?_
 rintro e w5 ⟨rfl,b5⟩
 have B5:=mkHid (B4.out.trans (b5.mono B4.out.size))
 clear b5 B4 H5
 go_wp2_with fail
 refine (catom_any _ _ _ w5).mono ?_
 rintro e w6 ⟨rfl,b6⟩
 have B6:=mkHid (B5.out.trans (b6.mono B5.out.size))
 clear b6 B5
 have bx:=(Below.refl w6.heap.size w6).alloc (Nat.le_refl _) (.cells #[.int .i64 0,.string ⟨#[120,46,97]⟩,.string ⟨#[]⟩,.int .i64 1,.slice none 0 0] 25)
 have XA:Hid (HasV (w6.alloc (.cells #[.int .i64 0,.string ⟨#[120,46,97]⟩,.string ⟨#[]⟩,.int .i64 1,.slice none 0 0] 25)) w6.heap.size 25 [.int .i64 0,.string ⟨#[120,46,97]⟩,.string ⟨#[]⟩,.int .i64 1,.slice none 0 0]):=mkHid (heap_alloc_new w6 _)
 have B7:=mkHid (B6.out.trans (bx.mono B6.out.size))
 clear bx B6
 go_upto_region 4 with (fail)
 generalize hA:w6.heap.size = A at *
 clear hA
 generalize w6.alloc (.cells #[.int .i64 0,.string ⟨#[120,46,97]⟩,.string ⟨#[]⟩,.int .i64 1,.slice none 0 0] 25) = w7 at *
 go_wp2_with fail
 refine (catom_any _ _ _ w7).mono ?_
 rintro e w8 ⟨rfl,b8⟩
 have XA8:=mkHid (XA.out.step b8)
 have B8:=mkHid (B7.out.trans (b8.mono B7.out.size))
 clear b8 B7 XA
 have bx:=(Below.refl w8.heap.size w8).alloc (Nat.le_refl _) (.cells #[.int .i64 0,.string ⟨#[120,46,98]⟩,.string ⟨#[]⟩,.int .i64 2,.slice none 0 0] 25)
 have XB:Hid (HasV (w8.alloc (.cells #[.int .i64 0,.string ⟨#[120,46,98]⟩,.string ⟨#[]⟩,.int .i64 2,.slice none 0 0] 25)) w8.heap.size 25 [.int .i64 0,.string ⟨#[120,46,98]⟩,.string ⟨#[]⟩,.int .i64 2,.slice none 0 0]):=mkHid (heap_alloc_new w8 _)
 have XA9:=mkHid (XA8.out.step bx)
 have B9:=mkHid (B8.out.trans (bx.mono B8.out.size))
 clear bx B8 XA8
 go_upto_region 5 with (fail)
 generalize hA:w8.heap.size = AB at *
 clear hA
 generalize w8.alloc (.cells #[.int .i64 0,.string ⟨#[120,46,98]⟩,.string ⟨#[]⟩,.int .i64 2,.slice none 0 0] 25) = w9 at *
 go_wp2_with fail
 refine (catom_any _ _ _ w9).mono ?_
 rintro e w10 ⟨rfl,b10⟩
 have XA10:=mkHid (XA9.out.step b10)
 have XB10:=mkHid (XB.out.step b10)
 have B10:=mkHid (B9.out.trans (b10.mono B9.out.size))
 clear b10 B9 XA9 XB
 have bx:=(Below.refl w10.heap.size w10).alloc (Nat.le_refl _) (.cells #[.int .i64 0,.string ⟨#[120,46,99]⟩,.string ⟨#[]⟩,.int .i64 5,.slice none 0 0] 25)
 have XC:Hid (HasV (w10.alloc (.cells #[.int .i64 0,.string ⟨#[120,46,99]⟩,.string ⟨#[]⟩,.int .i64 5,.slice none 0 0] 25)) w10.heap.size 25 [.int .i64 0,.string ⟨#[120,46,99]⟩,.string ⟨#[]⟩,.int .i64 5,.slice none 0 0]):=mkHid (heap_alloc_new w10 _)
 have XA11:=mkHid (XA10.out.step bx)
 have XB11:=mkHid (XB10.out.step bx)
 have B11:=mkHid (B10.out.trans (bx.mono B10.out.size))
 clear bx B10 XA10 XB10
 go_upto_region 6 with (fail)
 generalize hA:w10.heap.size = AC at *
 clear hA
 generalize w10.alloc (.cells #[.int .i64 0,.string ⟨#[120,46,99]⟩,.string ⟨#[]⟩,.int .i64 5,.slice none 0 0] 25) = w11 at *
 go_wp2_with fail
 refine (H6.out w11 B11.out).mono ?_
 rintro e w12 ⟨v,rfl,hv,b12⟩
 have XA12:=mkHid (XA11.out.step b12)
 have XB12:=mkHid (XB11.out.step b12)
 have XC12:=mkHid (XC.out.step b12)
 have B12:=mkHid (B11.out.trans (b12.mono B11.out.size))
 obtain ⟨ka,kn,kc,rfl,hc⟩:=hv.open
 have hnm:=mkHid (HN6.out w12 _ B12.out (hc.mono (fun g h _=>h.2)))
 clear b12 B11 H6 XA11 XB11 XC hv hc HN6
 go_wp2_with fail
 refine hnm.out.mono ?_
 rintro e w13 ⟨b13,a13,c13,v13,rfl,r13⟩
 have XA13:=mkHid (XA12.out.step b13)
 have XB13:=mkHid (XB12.out.step b13)
 have XC13:=mkHid (XC12.out.step b13)
 have B13:=mkHid (B12.out.trans (b13.mono B12.out.size))
 have C6:=mkHid (ChsR.of_row r13)
 clear b13 r13 B12 XA12 XB12 XC12 hnm
 go_wp2_with fail
 refine (H7.out w13 B13.out).mono ?_
 rintro e w14 ⟨v,rfl,hv,b14⟩
 have XA14:=mkHid (XA13.out.step b14)
 have XB14:=mkHid (XB13.out.step b14)
 have XC14:=mkHid (XC13.out.step b14)
 have B14:=mkHid (B13.out.trans (b14.mono B13.out.size))
 have C614:=mkHid (C6.out.below b14)
 obtain ⟨ka,kn,kc,rfl,hc⟩:=hv.open
 have hnm:=mkHid (HN7.out w14 _ B14.out (hc.mono (fun g h _=>h.2)))
 clear b14 B13 H7 XA13 XB13 XC13 C6 hv hc HN7
 go_wp2_with fail
 refine hnm.out.mono ?_
 rintro e w15 ⟨b15,a15,c15,v15,rfl,r15⟩
 have XA15:=mkHid (XA14.out.step b15)
 have XB15:=mkHid (XB14.out.step b15)
 have XC15:=mkHid (XC14.out.step b15)
 have B15:=mkHid (B14.out.trans (b15.mono B14.out.size))
 have C615:=mkHid (C614.out.below b15)
 have C7:=mkHid (ChsR.of_row r15)
 clear b15 r15 B14 XA14 XB14 XC14 C614 hnm
 go_upto_region 10 with (fail)
 have HLA:Hid (∀ q∈[exPA,exPB,exPC,exPD],q.ks = []∧BytP q):=mkHid (by
  intro q hq
  simp only [List.mem_cons,List.not_mem_nil,or_false] at hq
  rcases hq with rfl | rfl | rfl | rfl <;> exact ⟨rfl,bytB_ok _ (by kernel_rfl)⟩)
 have HC6:Hid (∀ c∈exC6,c.atoms.length≤1000000∧∀ q∈c.atoms,q.ks = []∧BytP q):=mkHid (by
  intro c hc
  simp only [exC6,List.mem_cons,List.not_mem_nil,or_false] at hc
  rcases hc with rfl | rfl
  ·exact ⟨by decide,fun q hq=>HLA.out q (by simp at hq ⊢; simp [hq])⟩
  ·exact ⟨by decide,fun q hq=>HLA.out q (by simp at hq ⊢; rcases hq with h | h | h <;> simp [h])⟩)
 have HC7:Hid (∀ c∈exC7,c.atoms.length≤1000000∧∀ q∈c.atoms,q.ks = []∧BytP q):=mkHid (by
  intro c hc
  simp only [exC7,List.mem_cons,List.not_mem_nil,or_false] at hc
  rcases hc with rfl | rfl
  ·exact ⟨by decide,fun q hq=>HLA.out q (by simp at hq ⊢; rcases hq with h | h <;> simp [h])⟩
  ·exact ⟨by decide,fun q hq=>HLA.out q (by simp at hq ⊢; rcases hq with h | h <;> simp [h])⟩)
 refine wp_region_mid (sF (.slice a13 2 c13) (.slice a15 2 c15)) (by kernel_rfl) (sF_step _ _) (hdst_of (by kernel_rfl)) (hin_of (by kernel_rfl)) (hacyc_of (by kernel_rfl)) ?hs ?he
 case he =>
  intro listed a' w' H hall
  have hdn:=H.done 24 _ 0 rfl (hall 24 (by decide)) rfl
  have hb:=mkHid H.below
  have hdf:=H.defers
  have hts:=H.tsize
  clear H
  obtain ⟨t,df⟩:=a'
  obtain ⟨x0,x1,x2,x3,x4,x5,x6,x7,x8,x9,x10,x11,x12,x13,x14,x15,x16,x17,x18,x19,x20,x21,x22,x23,x24,x25,x26,x27,x28,x29,x30,x31,x32,x33,x34,x35,x36,x37,x38,x39,x40,x41,x42,x43,x44,x45,x46,x47,x48,x49,x50,x51,x52,x53,x54,x55,x56,x57,x58,x59,x60,x61,x62,x63,x64,x65,x66,x67,x68,x69,x70,x71,rfl⟩:=arr72 t hts
  have hdf':df = []:=hdf
  subst hdf'
  have h0:x0 = .bool true:=hdn
  subst h0
  clear hdn hdf hts
  have BF:=mkHid (B15.out.trans (hb.out.mono B15.out.size))
  go_wp2
  go_ret
  exact ⟨rfl,BF.out⟩
 case hs =>
  intro i o hi listed a' w' H hl
  have hl2:=after_listed hl
  have hb:=mkHid H.below
  have e3:=H.same 3 (nodst_of (by kernel_rfl))
  have e4:=H.same 4 (nodst_of (by kernel_rfl))
  have e5:=H.same 5 (nodst_of (by kernel_rfl))
  have e6:=H.same 6 (nodst_of (by kernel_rfl))
  have e8:=H.same 8 (nodst_of (by kernel_rfl))
  have hdn:=H.done
  have hdf:=H.defers
  have hts:=H.tsize
  clear hl
  obtain ⟨t,df⟩:=a'
  obtain ⟨x0,x1,x2,x3,x4,x5,x6,x7,x8,x9,x10,x11,x12,x13,x14,x15,x16,x17,x18,x19,x20,x21,x22,x23,x24,x25,x26,x27,x28,x29,x30,x31,x32,x33,x34,x35,x36,x37,x38,x39,x40,x41,x42,x43,x44,x45,x46,x47,x48,x49,x50,x51,x52,x53,x54,x55,x56,x57,x58,x59,x60,x61,x62,x63,x64,x65,x66,x67,x68,x69,x70,x71,rfl⟩:=arr72 t hts
  have hdf':df = []:=hdf
  subst hdf'
  have e3':x3 = .pointer (some ⟨A,0,none⟩):=e3
  have e4':x4 = .pointer (some ⟨AB,0,none⟩):=e4
  have e5':x5 = .pointer (some ⟨AC,0,none⟩):=e5
  have e6':x6 = .slice a13 2 c13:=e6
  have e8':x8 = .slice a15 2 c15:=e8
  clear e3 e4 e5 e6 e8 hdf hts H
  subst e3' e4' e5' e6' e8'
  match i,hi with
  | 0,hi =>
   obtain rfl:=Option.some.inj hi
   refine wpOp_list rfl ?_
   go_wp2_with fail
   exact postOf_normal ⟨_,rfl,Below.refl _ _,rfl⟩
  | 1,hi =>
   obtain rfl:=Option.some.inj hi
   refine wpOp_list rfl ?_
   go_wp2_with fail
   refine (catom_any _ _ _ w').mono ?_
   rintro e w2 ⟨rfl,b2⟩
   go_wp2_with fail
   exact postOf_normal ⟨_,rfl,b2,rfl⟩
  | 2,hi =>
   obtain rfl:=Option.some.inj hi
   have d1:sF (.slice a13 2 c13) (.slice a15 2 c15) 1 w' x49:=hdn 1 _ 49 rfl (hl2 1 (by rfl)) rfl
   have y1:x49 = atV sxa 3:=d1
   subst y1
   unfold atV
   refine wpOp_list rfl ?_
   go_wp2_with fail
   exact postOf_normal ⟨_,rfl,(Below.refl _ _).alloc (Nat.le_refl _) _,⟨_,rfl,kidR_new w' [exPD] [atL sxa 3] _ _ rfl rfl (fun w' P i p vs h1 h2=>by
    match i,h1,h2 with
    | 0,h1,h2 =>
     obtain rfl:=Option.some.inj h1
     obtain rfl:=Option.some.inj h2
     exact atL_pred rfl (by kernel_rfl)
    | i + 1,h1,h2=>simp at h1)⟩⟩
  | 3,hi =>
   obtain rfl:=Option.some.inj hi
   have d2:sF (.slice a13 2 c13) (.slice a15 2 c15) 2 w' x50:=hdn 2 _ 50 rfl (hl2 2 (by rfl)) rfl
   obtain ⟨g2,hg2,k2⟩:=d2
   subst hg2
   refine wpOp_list rfl ?_
   go_wp2_with fail
   exact postOf_normal ⟨_,rfl,Below.refl _ _,⟨g2,rfl,k2⟩⟩
  | 4,hi =>
   obtain rfl:=Option.some.inj hi
   have XW:=mkHid (XA15.out.step hb.out)
   refine wpOp_list rfl ?_
   go_wp2_with (refine wpList_load_wanted (by rfl) 25 (.tmp 3) rfl A (by rfl) 25 #[.int .i64 0,.string ⟨#[120,46,97]⟩,.string ⟨#[]⟩,.int .i64 1,.slice none 0 0] (0,0) _ XW.out Tryz.underlying25 rfl (inf_pred _ rfl) ?_)
   exact postOf_normal ⟨_,rfl,Below.refl _ _,rfl⟩
  | 5,hi =>
   obtain rfl:=Option.some.inj hi
   have XW:=mkHid (XB15.out.step hb.out)
   refine wpOp_list rfl ?_
   go_wp2_with (refine wpList_load_wanted (by rfl) 25 (.tmp 4) rfl AB (by rfl) 25 #[.int .i64 0,.string ⟨#[120,46,98]⟩,.string ⟨#[]⟩,.int .i64 2,.slice none 0 0] (0,0) _ XW.out Tryz.underlying25 rfl (inf_pred _ rfl) ?_)
   exact postOf_normal ⟨_,rfl,Below.refl _ _,rfl⟩
  | 6,hi =>
   obtain rfl:=Option.some.inj hi
   have XW:=mkHid (XC15.out.step hb.out)
   refine wpOp_list rfl ?_
   go_wp2_with (refine wpList_load_wanted (by rfl) 25 (.tmp 5) rfl AC (by rfl) 25 #[.int .i64 0,.string ⟨#[120,46,99]⟩,.string ⟨#[]⟩,.int .i64 5,.slice none 0 0] (0,0) _ XW.out Tryz.underlying25 rfl (inf_pred _ rfl) ?_)
   exact postOf_normal ⟨_,rfl,Below.refl _ _,rfl⟩
  | 7,hi =>
   obtain rfl:=Option.some.inj hi
   have d4:sF (.slice a13 2 c13) (.slice a15 2 c15) 4 w' x52:=hdn 4 _ 52 rfl (hl2 4 (by rfl)) rfl
   have d5:sF (.slice a13 2 c13) (.slice a15 2 c15) 5 w' x53:=hdn 5 _ 53 rfl (hl2 5 (by rfl)) rfl
   have d6:sF (.slice a13 2 c13) (.slice a15 2 c15) 6 w' x54:=hdn 6 _ 54 rfl (hl2 6 (by rfl)) rfl
   have y4:x52 = atV sxa 1:=d4
   subst y4
   have y5:x53 = atV sxb 2:=d5
   subst y5
   have y6:x54 = atV sxc 5:=d6
   subst y6
   unfold atV
   refine wpOp_list rfl ?_
   go_wp2_with fail
   exact postOf_normal ⟨_,rfl,(Below.refl _ _).alloc (Nat.le_refl _) _,⟨_,rfl,kidR_new w' [exPA,exPB,exPC] [atL sxa 1,atL sxb 2,atL sxc 5] _ _ rfl rfl (fun w' P i p vs h1 h2=>by
    match i,h1,h2 with
    | 0,h1,h2 =>
     obtain rfl:=Option.some.inj h1
     obtain rfl:=Option.some.inj h2
     exact atL_pred rfl (by kernel_rfl)
    | 1,h1,h2 =>
     obtain rfl:=Option.some.inj h1
     obtain rfl:=Option.some.inj h2
     exact atL_pred rfl (by kernel_rfl)
    | 2,h1,h2 =>
     obtain rfl:=Option.some.inj h1
     obtain rfl:=Option.some.inj h2
     exact atL_pred rfl (by kernel_rfl)
    | i + 3,h1,h2=>simp at h1)⟩⟩
  | 8,hi =>
   obtain rfl:=Option.some.inj hi
   have d7:sF (.slice a13 2 c13) (.slice a15 2 c15) 7 w' x55:=hdn 7 _ 55 rfl (hl2 7 (by rfl)) rfl
   obtain ⟨g7,hg7,k7⟩:=d7
   subst hg7
   refine wpOp_list rfl ?_
   go_wp2_with fail
   exact postOf_normal ⟨_,rfl,Below.refl _ _,⟨g7,rfl,k7⟩⟩
  | 9,hi =>
   obtain rfl:=Option.some.inj hi
   have d3:sF (.slice a13 2 c13) (.slice a15 2 c15) 3 w' x51:=hdn 3 _ 51 rfl (hl2 3 (by rfl)) rfl
   have d8:sF (.slice a13 2 c13) (.slice a15 2 c15) 8 w' x56:=hdn 8 _ 56 rfl (hl2 8 (by rfl)) rfl
   obtain ⟨g3,hg3,k3⟩:=d3
   subst hg3
   obtain ⟨g8,hg8,k8⟩:=d8
   subst hg8
   refine wpOp_list rfl ?_
   go_wp2_with fail
   exact postOf_normal ⟨_,rfl,(Below.refl _ _).alloc (Nat.le_refl _) _,⟨_,rfl,chsR_new w' ⟨1,[exPD]⟩ ⟨2,[exPA,exPB,exPC]⟩ g3 g8 _ k3 k8⟩⟩
  | 10,hi =>
   obtain rfl:=Option.some.inj hi
   have d0:sF (.slice a13 2 c13) (.slice a15 2 c15) 0 w' x48:=hdn 0 _ 48 rfl (hl2 0 (by rfl)) rfl
   have d9:sF (.slice a13 2 c13) (.slice a15 2 c15) 9 w' x57:=hdn 9 _ 57 rfl (hl2 9 (by rfl)) rfl
   have y0:x48 = .slice a13 2 c13:=d0
   subst y0
   obtain ⟨g9,hg9,k9⟩:=d9
   subst hg9
   have hc:=mkHid (schoices_true w' exC6 a13 (some ⟨g9,0,none⟩) 2 c13 2 rfl (by omega) HC6.out (C615.out.below hb.out) k9)
   refine wpOp_list rfl ?_
   go_wp2_with fail
   refine hc.out.mono ?_
   rintro e w2 ⟨rfl,b2⟩
   go_wp2_with fail
   exact postOf_normal ⟨_,rfl,b2,rfl⟩
  | 11,hi =>
   obtain rfl:=Option.some.inj hi
   have d10:sF (.slice a13 2 c13) (.slice a15 2 c15) 10 w' x58:=hdn 10 _ 58 rfl (hl2 10 (by rfl)) rfl
   have y10:x58 = .bool true:=d10
   subst y10
   refine wpOp_list rfl ?_
   go_wp2_with fail
   exact postOf_normal ⟨_,rfl,Below.refl _ _,rfl⟩
  | 12,hi =>
   obtain rfl:=Option.some.inj hi
   have d11:sF (.slice a13 2 c13) (.slice a15 2 c15) 11 w' x59:=hdn 11 _ 59 rfl (hl2 11 (by rfl)) rfl
   have y11:x59 = .bool true:=d11
   subst y11
   refine wpOp_list rfl ?_
   go_wp2_with fail
   exact postOf_normal ⟨_,rfl,Below.refl _ _,rfl⟩
  | 13,hi =>
   obtain rfl:=Option.some.inj hi
   have d11:sF (.slice a13 2 c13) (.slice a15 2 c15) 11 w' x59:=hdn 11 _ 59 rfl (hl2 11 (by rfl)) rfl
   have y11:x59 = .bool true:=d11
   subst y11
   have XW:=mkHid (XA15.out.step hb.out)
   refine wpOp_list rfl ?_
   go_wp2_with (refine wpList_load_wanted (by rfl) 25 (.tmp 3) rfl A (by rfl) 25 #[.int .i64 0,.string ⟨#[120,46,97]⟩,.string ⟨#[]⟩,.int .i64 1,.slice none 0 0] (0,0) _ XW.out Tryz.underlying25 rfl (inf_pred _ rfl) ?_)
   exact postOf_normal ⟨_,rfl,Below.refl _ _,rfl⟩
  | 14,hi =>
   obtain rfl:=Option.some.inj hi
   have d11:sF (.slice a13 2 c13) (.slice a15 2 c15) 11 w' x59:=hdn 11 _ 59 rfl (hl2 11 (by rfl)) rfl
   have y11:x59 = .bool true:=d11
   subst y11
   have XW:=mkHid (XC15.out.step hb.out)
   refine wpOp_list rfl ?_
   go_wp2_with (refine wpList_load_wanted (by rfl) 25 (.tmp 5) rfl AC (by rfl) 25 #[.int .i64 0,.string ⟨#[120,46,99]⟩,.string ⟨#[]⟩,.int .i64 5,.slice none 0 0] (0,0) _ XW.out Tryz.underlying25 rfl (inf_pred _ rfl) ?_)
   exact postOf_normal ⟨_,rfl,Below.refl _ _,rfl⟩
  | 15,hi =>
   obtain rfl:=Option.some.inj hi
   have d11:sF (.slice a13 2 c13) (.slice a15 2 c15) 11 w' x59:=hdn 11 _ 59 rfl (hl2 11 (by rfl)) rfl
   have d13:sF (.slice a13 2 c13) (.slice a15 2 c15) 13 w' x61:=hdn 13 _ 61 rfl (hl2 13 (by rfl)) rfl
   have d14:sF (.slice a13 2 c13) (.slice a15 2 c15) 14 w' x62:=hdn 14 _ 62 rfl (hl2 14 (by rfl)) rfl
   have y11:x59 = .bool true:=d11
   subst y11
   have y13:x61 = atV sxa 1:=d13
   subst y13
   have y14:x62 = atV sxc 5:=d14
   subst y14
   unfold atV
   refine wpOp_list rfl ?_
   go_wp2_with fail
   exact postOf_normal ⟨_,rfl,(Below.refl _ _).alloc (Nat.le_refl _) _,⟨_,rfl,kidR_new w' [exPA,exPC] [atL sxa 1,atL sxc 5] _ _ rfl rfl (fun w' P i p vs h1 h2=>by
    match i,h1,h2 with
    | 0,h1,h2 =>
     obtain rfl:=Option.some.inj h1
     obtain rfl:=Option.some.inj h2
     exact atL_pred rfl (by kernel_rfl)
    | 1,h1,h2 =>
     obtain rfl:=Option.some.inj h1
     obtain rfl:=Option.some.inj h2
     exact atL_pred rfl (by kernel_rfl)
    | i + 2,h1,h2=>simp at h1)⟩⟩
  | 16,hi =>
   obtain rfl:=Option.some.inj hi
   have d11:sF (.slice a13 2 c13) (.slice a15 2 c15) 11 w' x59:=hdn 11 _ 59 rfl (hl2 11 (by rfl)) rfl
   have d15:sF (.slice a13 2 c13) (.slice a15 2 c15) 15 w' x63:=hdn 15 _ 63 rfl (hl2 15 (by rfl)) rfl
   have y11:x59 = .bool true:=d11
   subst y11
   obtain ⟨g15,hg15,k15⟩:=d15
   subst hg15
   refine wpOp_list rfl ?_
   go_wp2_with fail
   exact postOf_normal ⟨_,rfl,Below.refl _ _,⟨g15,rfl,k15⟩⟩
  | 17,hi =>
   obtain rfl:=Option.some.inj hi
   have d11:sF (.slice a13 2 c13) (.slice a15 2 c15) 11 w' x59:=hdn 11 _ 59 rfl (hl2 11 (by rfl)) rfl
   have y11:x59 = .bool true:=d11
   subst y11
   have XW:=mkHid (XB15.out.step hb.out)
   refine wpOp_list rfl ?_
   go_wp2_with (refine wpList_load_wanted (by rfl) 25 (.tmp 4) rfl AB (by rfl) 25 #[.int .i64 0,.string ⟨#[120,46,98]⟩,.string ⟨#[]⟩,.int .i64 2,.slice none 0 0] (0,0) _ XW.out Tryz.underlying25 rfl (inf_pred _ rfl) ?_)
   exact postOf_normal ⟨_,rfl,Below.refl _ _,rfl⟩
  | 18,hi =>
   obtain rfl:=Option.some.inj hi
   have d11:sF (.slice a13 2 c13) (.slice a15 2 c15) 11 w' x59:=hdn 11 _ 59 rfl (hl2 11 (by rfl)) rfl
   have y11:x59 = .bool true:=d11
   subst y11
   have XW:=mkHid (XC15.out.step hb.out)
   refine wpOp_list rfl ?_
   go_wp2_with (refine wpList_load_wanted (by rfl) 25 (.tmp 5) rfl AC (by rfl) 25 #[.int .i64 0,.string ⟨#[120,46,99]⟩,.string ⟨#[]⟩,.int .i64 5,.slice none 0 0] (0,0) _ XW.out Tryz.underlying25 rfl (inf_pred _ rfl) ?_)
   exact postOf_normal ⟨_,rfl,Below.refl _ _,rfl⟩
  | 19,hi =>
   obtain rfl:=Option.some.inj hi
   have d11:sF (.slice a13 2 c13) (.slice a15 2 c15) 11 w' x59:=hdn 11 _ 59 rfl (hl2 11 (by rfl)) rfl
   have d17:sF (.slice a13 2 c13) (.slice a15 2 c15) 17 w' x65:=hdn 17 _ 65 rfl (hl2 17 (by rfl)) rfl
   have d18:sF (.slice a13 2 c13) (.slice a15 2 c15) 18 w' x66:=hdn 18 _ 66 rfl (hl2 18 (by rfl)) rfl
   have y11:x59 = .bool true:=d11
   subst y11
   have y17:x65 = atV sxb 2:=d17
   subst y17
   have y18:x66 = atV sxc 5:=d18
   subst y18
   unfold atV
   refine wpOp_list rfl ?_
   go_wp2_with fail
   exact postOf_normal ⟨_,rfl,(Below.refl _ _).alloc (Nat.le_refl _) _,⟨_,rfl,kidR_new w' [exPB,exPC] [atL sxb 2,atL sxc 5] _ _ rfl rfl (fun w' P i p vs h1 h2=>by
    match i,h1,h2 with
    | 0,h1,h2 =>
     obtain rfl:=Option.some.inj h1
     obtain rfl:=Option.some.inj h2
     exact atL_pred rfl (by kernel_rfl)
    | 1,h1,h2 =>
     obtain rfl:=Option.some.inj h1
     obtain rfl:=Option.some.inj h2
     exact atL_pred rfl (by kernel_rfl)
    | i + 2,h1,h2=>simp at h1)⟩⟩
  | 20,hi =>
   obtain rfl:=Option.some.inj hi
   have d11:sF (.slice a13 2 c13) (.slice a15 2 c15) 11 w' x59:=hdn 11 _ 59 rfl (hl2 11 (by rfl)) rfl
   have d19:sF (.slice a13 2 c13) (.slice a15 2 c15) 19 w' x67:=hdn 19 _ 67 rfl (hl2 19 (by rfl)) rfl
   have y11:x59 = .bool true:=d11
   subst y11
   obtain ⟨g19,hg19,k19⟩:=d19
   subst hg19
   refine wpOp_list rfl ?_
   go_wp2_with fail
   exact postOf_normal ⟨_,rfl,Below.refl _ _,⟨g19,rfl,k19⟩⟩
  | 21,hi =>
   obtain rfl:=Option.some.inj hi
   have d11:sF (.slice a13 2 c13) (.slice a15 2 c15) 11 w' x59:=hdn 11 _ 59 rfl (hl2 11 (by rfl)) rfl
   have d16:sF (.slice a13 2 c13) (.slice a15 2 c15) 16 w' x64:=hdn 16 _ 64 rfl (hl2 16 (by rfl)) rfl
   have d20:sF (.slice a13 2 c13) (.slice a15 2 c15) 20 w' x68:=hdn 20 _ 68 rfl (hl2 20 (by rfl)) rfl
   have y11:x59 = .bool true:=d11
   subst y11
   obtain ⟨g16,hg16,k16⟩:=d16
   subst hg16
   obtain ⟨g20,hg20,k20⟩:=d20
   subst hg20
   refine wpOp_list rfl ?_
   go_wp2_with fail
   exact postOf_normal ⟨_,rfl,(Below.refl _ _).alloc (Nat.le_refl _) _,⟨_,rfl,chsR_new w' ⟨1,[exPA,exPC]⟩ ⟨1,[exPB,exPC]⟩ g16 g20 _ k16 k20⟩⟩
  | 22,hi =>
   obtain rfl:=Option.some.inj hi
   have d11:sF (.slice a13 2 c13) (.slice a15 2 c15) 11 w' x59:=hdn 11 _ 59 rfl (hl2 11 (by rfl)) rfl
   have d12:sF (.slice a13 2 c13) (.slice a15 2 c15) 12 w' x60:=hdn 12 _ 60 rfl (hl2 12 (by rfl)) rfl
   have d21:sF (.slice a13 2 c13) (.slice a15 2 c15) 21 w' x69:=hdn 21 _ 69 rfl (hl2 21 (by rfl)) rfl
   have y11:x59 = .bool true:=d11
   subst y11
   have y12:x60 = .slice a15 2 c15:=d12
   subst y12
   obtain ⟨g21,hg21,k21⟩:=d21
   subst hg21
   have hc:=mkHid (schoices_true w' exC7 a15 (some ⟨g21,0,none⟩) 2 c15 2 rfl (by omega) HC7.out (C7.out.below hb.out) k21)
   refine wpOp_list rfl ?_
   go_wp2_with fail
   refine hc.out.mono ?_
   rintro e w2 ⟨rfl,b2⟩
   go_wp2_with fail
   exact postOf_normal ⟨_,rfl,b2,rfl⟩
  | 23,hi =>
   obtain rfl:=Option.some.inj hi
   have d11:sF (.slice a13 2 c13) (.slice a15 2 c15) 11 w' x59:=hdn 11 _ 59 rfl (hl2 11 (by rfl)) rfl
   have d22:sF (.slice a13 2 c13) (.slice a15 2 c15) 22 w' x70:=hdn 22 _ 70 rfl (hl2 22 (by rfl)) rfl
   have y11:x59 = .bool true:=d11
   subst y11
   have y22:x70 = .bool true:=d22
   subst y22
   refine wpOp_list rfl ?_
   go_wp2_with fail
   exact postOf_normal ⟨_,rfl,Below.refl _ _,rfl⟩
  | 24,hi =>
   obtain rfl:=Option.some.inj hi
   have d23:sF (.slice a13 2 c13) (.slice a15 2 c15) 23 w' x71:=hdn 23 _ 71 rfl (hl2 23 (by rfl)) rfl
   have y23:x71 = .bool true:=d23
   subst y23
   refine wpOp_list rfl ?_
   go_wp2_with fail
   exact postOf_normal ⟨_,rfl,Below.refl _ _,rfl⟩
  | i + 25,hi=>simp at hi
end Go.Proofs.YtmkdfbelbcocpaaGreatDoor
