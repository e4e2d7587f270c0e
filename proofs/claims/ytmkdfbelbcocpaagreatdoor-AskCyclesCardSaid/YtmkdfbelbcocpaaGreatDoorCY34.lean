import Derived.Test.YtmkdfbelbcocpaaGreatDoorCY33
import Derived.Test.YtmkdfbelbcocpaaGreatDoorCY27
import Derived.Test.YtmkdfbelbcocpaaGreatDoorCY28
import Derived.Test.YtmkdfbelbcocpaaGreatDoorCY29
import Derived.Test.YtmkdfbelbcocpaaGreatDoorCY22
import Derived.Test.YtmkdfbelbcocpaaGreatDoorCY24
set_option linter.unusedVariables false
set_option linter.unusedSimpArgs false
namespace Go.Proofs.YtmkdfbelbcocpaaGreatDoor
set_option maxRecDepth 100000
def dS1:List Nat:=[120,46,97,32,62,61,32,120,46,98,32,43,32,51,32,97,110,100,32,120,46,98,32,33,61,32,48]
def dL1:List Nat:=[113,117,101,115,116,105,111,110,32,97,32,123,32] ++ dS1 ++ [32,125]
theorem sD1:strN dS1 = ⟨#[120,46,97,32,62,61,32,120,46,98,32,43,32,51,32,97,110,100,32,120,46,98,32,33,61,32,48]⟩:=by kernel_rfl
def dS2:List Nat:=[120,46,97,32,60,32,120,46,98]
def dL2:List Nat:=[113,117,101,115,116,105,111,110,32,97,32,123,32] ++ dS2 ++ [32,125]
theorem sD2:strN dS2 = ⟨#[120,46,97,32,60,32,120,46,98]⟩:=by kernel_rfl
def dS3:List Nat:=[120,46,97,32,60,61,32,120,46,98,32,45,32,50]
def dL3:List Nat:=[113,117,101,115,116,105,111,110,32,97,32,123,32] ++ dS3 ++ [32,125]
theorem sD3:strN dS3 = ⟨#[120,46,97,32,60,61,32,120,46,98,32,45,32,50]⟩:=by kernel_rfl
def dS4:List Nat:=[120,46,97,32,62,61,32,49,56,32,97,110,100,32,120,46,97,32,60,61,32,54,52]
def dL4:List Nat:=[113,117,101,115,116,105,111,110,32,97,32,123,32] ++ dS4 ++ [32,125]
theorem sD4:strN dS4 = ⟨#[120,46,97,32,62,61,32,49,56,32,97,110,100,32,120,46,97,32,60,61,32,54,52]⟩:=by kernel_rfl
def dS5:List Nat:=[120,46,97,32,62,61,32,49,56]
def dL5:List Nat:=[113,117,101,115,116,105,111,110,32,97,32,123,32] ++ dS5 ++ [32,125]
theorem sD5:strN dS5 = ⟨#[120,46,97,32,62,61,32,49,56]⟩:=by kernel_rfl
def two:List (List Nat):=[nmA,nmB']
def dq1:Prd:=.mk 1 [] [] 0 [.mk 0 nmB' nmA (-3) [],.mk 2 [] [] 0 [.mk 0 nmB' [] (-1) [],.mk 0 [] nmB' (-1) []]]
def dq2:Prd:=.mk 0 nmA nmB' (-1) []
def dq3:Prd:=.mk 0 nmA nmB' (-2) []
def dq4:Prd:=.mk 1 [] [] 0 [.mk 0 [] nmA (-18) [],.mk 0 nmA [] 64 []]
def dq5:Prd:=.mk 0 [] nmA (-18) []
def odd1:Prd:=.mk 0 nmB' nmA (-3) []
def odd2:Prd:=.mk 0 nmA nmB' 2 []
theorem exD1:(parseF dL1).2.1 = dq1:=by kernel_rfl
theorem exD2:(parseF dL2).2.1 = dq2:=by kernel_rfl
theorem exD3:(parseF dL3).2.1 = dq3:=by kernel_rfl
theorem exD4:(parseF dL4).2.1 = dq4:=by kernel_rfl
theorem exD5:(parseF dL5).2.1 = dq5:=by kernel_rfl
theorem de1:openE two 9 [dq1] = 0:=by kernel_rfl
theorem de2:openE two 3 [dq1] = 0:=by kernel_rfl
theorem de3:openE two 9 [dq2] = 0:=by kernel_rfl
theorem dn4:nomP [dq2,dq3] = two:=by kernel_rfl
theorem de4:openE two 9 [dq2,dq3] = 0:=by kernel_rfl
theorem dn5:nomP [dq4,dq5] = [nmA]:=by kernel_rfl
theorem de5:openE [nmA] 100 [dq4,dq5] = 0:=by kernel_rfl
theorem dcyc:askCycle two 9 [odd1,odd2] = some [0,1]:=by kernel_rfl
theorem dcon:askContr two 9 [odd1,odd2] [0,1] = true:=by kernel_rfl
theorem dcnt:cntP' two 9 dq2 = 45:=by kernel_rfl
theorem knw_of {ns:List (List Nat)} {most:Int} {ps:List Prd} (h:openE ns most ps = 0):KnwK ns (compsP ps):=fun k hk=>((openE_cmp h).2.1 k hk).2.1
theorem cells_ex {ns:List (List Nat)} {most:Int} {ps:List Prd} (h:openE ns most ps = 0) (U l:List (List Int × List Bool)) (hU:cellsU ns most (compsP ps) ps (2 ^ (compsP ps).length) = U) (hp:l.isPerm U = true) (hs:decide (l.Pairwise (fun a b=>leV a b = true)) = true):cellsP ns most (compsP ps) ps = l :=
 (sorted_cells (knw_of h) (by rw [hU]; exact List.isPerm_iff.1 hp) (of_decide_eq_true hs)).symm
theorem dc1:cellsP two 9 (compsP [dq1]) [dq1] = [([0,0,0],[false]),([0,0,1],[false]),([0,3,0],[false]),([0,4,1],[true])] :=
 cells_ex de1 [([0,3,0],[false]),([0,4,1],[true]),([0,0,0],[false]),([0,0,1],[false])] _ (by kernel_rfl) (by kernel_rfl) (by kernel_rfl)
theorem dc2:cellsP two 3 (compsP [dq1]) [dq1] = [([0,0,0],[false]),([0,0,1],[false]),([0,3,0],[false])] :=
 cells_ex de2 [([0,3,0],[false]),([0,0,0],[false]),([0,0,1],[false])] _ (by kernel_rfl) (by kernel_rfl) (by kernel_rfl)
theorem dc4:cellsP two 9 (compsP [dq2,dq3]) [dq2,dq3] = [([0,0,0],[false,false]),([0,0,1],[true,false]),([0,0,2],[true,true])] :=
 cells_ex de4 [([0,0,0],[false,false]),([0,0,1],[true,false]),([0,0,2],[true,true])] _ (by kernel_rfl) (by kernel_rfl) (by kernel_rfl)
theorem dc5:cellsP [nmA] 100 (compsP [dq4,dq5]) [dq4,dq5] = [([0,0],[false,false]),([0,18],[true,true]),([0,65],[false,true])] :=
 cells_ex de5 [([0,0],[false,false]),([0,18],[true,true]),([0,65],[false,true])] _ (by kernel_rfl) (by kernel_rfl) (by kernel_rfl)
theorem df1:findP two 9 (compsP [dq1]) [dq1] (fun l=>l.getD 0 false) = some [0,4,1]:=by unfold findP; rw [dc1]; rfl
theorem df2:findP two 3 (compsP [dq1]) [dq1] (fun l=>l.getD 0 false) = none:=by unfold findP; rw [dc2]; rfl
theorem df4:findP two 9 (compsP [dq2,dq3]) [dq2,dq3] (fun l=>l.getD 0 false && !l.getD 1 false) = some [0,0,1]:=by unfold findP; rw [dc4]; rfl
theorem df5:disF (cellsP [nmA] 100 (compsP [dq4,dq5]) [dq4,dq5]) = some ([0,18],[0,65]):=by rw [dc5]; kernel_rfl
theorem two_asc:AscN two:=(ascB_iff two).1 (by kernel_rfl)
theorem two_nm:∀ s∈two,NmB s:=by
 intro s hs
 simp only [two,List.mem_cons,List.not_mem_nil,or_false] at hs
 rcases hs with rfl | rfl
 ·exact nmB_ok (by kernel_rfl)
 ·exact nmB_ok (by kernel_rfl)
end Go.Proofs.YtmkdfbelbcocpaaGreatDoor
namespace Go.Proofs.YtmkdfbelbcocpaaGreatDoor
open Go.RowKit Go.Sort Go.Maps
theorem SatQ.hit {w w':World} {ns:List (List Nat)} {c:Int} {r:Option (List Int)} {b:Bool} {u:List Int} {e:Ending} (h:SatQ w ns c r b e w') (hc:c = 0) (hr:r = some u):∃ ro rc,e = .returned (.tuple #[.slice ro ns.length rc,.bool b,.int .i64 0])∧FlatR bndC w' ro (bndsP ns u)∧Below w.heap.size w w':=by
 obtain ⟨h1,h2⟩:=h
 rw [if_pos hc,hr] at h1
 obtain ⟨v,h3,ro,rc,rfl,h4⟩:=h1
 exact ⟨ro,rc,h3,h4.flatR bndC_len2 (by unfold bndsP bndsU; simp),h2⟩
theorem SatQ.miss {w w':World} {ns:List (List Nat)} {c:Int} {r:Option (List Int)} {b:Bool} {e:Ending} (h:SatQ w ns c r b e w') (hc:c = 0) (hr:r = none):e = .returned (.tuple #[.slice none 0 0,.bool b,.int .i64 0])∧Below w.heap.size w w':=by
 obtain ⟨h1,h2⟩:=h
 rw [if_pos hc,hr] at h1
 obtain ⟨v,h3,h4⟩:=h1
 have h5:v = .slice none 0 0:=h4
 subst h5
 exact ⟨h3,h2⟩
theorem DisQ.hit {w w':World} {ns:List (List Nat)} {c:Int} {r:Option (List Int × List Int)} {u v:List Int} {e:Ending} (h:DisQ w ns c r e w') (hc:c = 0) (hr:r = some (u,v)):∃ ro rc so sc,e = .returned (.tuple #[.slice ro ns.length rc,.slice so ns.length sc,.bool true,.int .i64 0])∧FlatR bndC w' ro (bndsP ns u)∧FlatR bndC w' so (bndsP ns v)∧Below w.heap.size w w':=by
 obtain ⟨h1,h2⟩:=h
 rw [if_pos hc,hr] at h1
 obtain ⟨x,y,h3,⟨ro,rc,rfl,h4⟩,⟨so,sc,rfl,h5⟩⟩:=h1
 exact ⟨ro,rc,so,sc,h3,h4.flatR bndC_len2 (by unfold bndsP bndsU; simp),h5.flatR bndC_len2 (by unfold bndsP bndsU; simp),h2⟩
theorem IntsQ.hit {w w':World} {r:Option (List Int)} {l:List Int} {e:Ending} (h:IntsQ w r e w') (hr:r = some l):∃ ro rc,e = .returned (.tuple #[.slice ro l.length rc,.bool true])∧FlatR intC w' ro l∧Below w.heap.size w w':=by
 obtain ⟨h1,h2⟩:=h
 rw [hr] at h1
 obtain ⟨ro,rc,h3,h4⟩:=h1
 exact ⟨ro,rc,h3,h4.flatR intC_len rfl,h2⟩
theorem CntQ.val {w w':World} {c:Int} {k:Nat} {e:Ending} (h:CntQ w c k e w') (hc:c = 0):e = .returned (.tuple #[.int .i64 (k:Int),.int .i64 0])∧Below w.heap.size w w':=by
 obtain ⟨h1,h2⟩:=h
 rw [hc,if_pos rfl] at h1
 exact ⟨h1,h2⟩
theorem predC_atom (w:World) (P:Nat→Prop) (l r:List Nat) (c:Int):PredC w P (.mk 0 l r c []) [.int .i64 0,.string (strN l),.string (strN r),.int .i64 c,.slice none 0 0]:=by
 unfold PredC
 exact ⟨none,0,rfl,.inl rfl⟩
theorem two_all {S:Prd→Prop} {p q:Prd} (h:S p) (h':S q):∀ x∈[p,q],S x:=fun x hx=>by
 rcases List.mem_cons.1 hx with rfl | hx
 ·exact h
 ·rw [List.mem_singleton.1 hx]; exact h'
theorem bA (v:Int):∀ b∈[(⟨nmA,v⟩:Bnd)],NmB b.n:=fun b hb=>by rw [List.mem_singleton.1 hb]; exact nmB_ok (by kernel_rfl)
theorem bAB (u v:Int):∀ b∈[(⟨nmA,u⟩:Bnd),⟨nmB',v⟩],NmB b.n:=fun b hb=>by
 rcases List.mem_cons.1 hb with rfl | hb
 ·exact nmB_ok (by kernel_rfl)
 ·rw [List.mem_singleton.1 hb]; exact nmB_ok (by kernel_rfl)
set_option maxHeartbeats 4000000 in
set_option maxRecDepth 100000 in
theorem questT_any (l:List Nat) (w:World) (B:Nat) (hG:Tab w B) (hl:l.length≤900000) (hb:∀ y∈l,y < 256) (L:List Nat) (hL:L = [113,117,101,115,116,105,111,110,32,97,32,123,32] ++ l ++ [32,125]) :
  Calls Tryz.prog 69 #[.string (strN l)] w fun e w'=>∃ v,e = .returned v∧PredV w.heap.size w' (parseF L).2.1 v∧Below w.heap.size w w':=by
 have HLL:Hid (L.length≤1000000∧∀ y∈L,y < 256):=mkHid (by
  rw [hL]
  refine ⟨by simp; omega,fun y hy=>?_⟩
  simp only [List.mem_append] at hy
  rcases hy with (hy | hy) | hy
  ·simp at hy; omega
  ·exact hb y hy
  ·simp at hy; omega)
 have HAP:Hid (((⟨#[113,117,101,115,116,105,111,110,32,97,32,123,32]⟩:ByteArray) ++ strN l) ++ (⟨#[32,125]⟩:ByteArray) = strN L):=mkHid (by
  rw [hL,← strN_append,← strN_append]; rfl)
 have bx:=(Below.refl w.heap.size w).alloc (Nat.le_refl _) (.cells #[.int .i64 0,.string ⟨#[]⟩,.string ⟨#[]⟩,.int .i64 0,.slice none 0 0] 25)
 have B1:=mkHid bx
 have X1:Hid (HasV (w.alloc (.cells #[.int .i64 0,.string ⟨#[]⟩,.string ⟨#[]⟩,.int .i64 0,.slice none 0 0] 25)) w.heap.size 25 [.int .i64 0,.string ⟨#[]⟩,.string ⟨#[]⟩,.int .i64 0,.slice none 0 0]):=mkHid (heap_alloc_new w _)
 have HP:=mkHid (fun W (hW:Below w.heap.size w W)=>parse_any L W B (TabIn.step (w:=w) hG hW) HLL.out.1 HLL.out.2)
 unfold ParseR at HP
 have hap:=HAP.out
 have hz1:¬ 9223372036854775807 < 13 + (strN l).size:=by rw [strN_size]; omega
 have hz2:¬ 9223372036854775807 < 13 + (strN l).size + 2:=by rw [strN_size]; omega
 clear bx hG hl hb hL HLL HAP
 generalize strN L = yL at *
 generalize strN l = y at *
 generalize strN (parseF L).1 = yn at *
 generalize (parseF L).2.1 = p at *
 generalize (parseF L).2.2.1 = ia at *
 generalize (parseF L).2.2.2 = ie at *
 go_enter Tryz.func69,Tryz.ntmps69
 go_upto_region 1 with (fail)
 generalize w.alloc (.cells #[.int .i64 0,.string ⟨#[]⟩,.string ⟨#[]⟩,.int .i64 0,.slice none 0 0] 25) = w1 at *
 go_wp2_with fail
 refine (HP.out w1 B1.out).mono ?_
 rintro e w2 ⟨v,rfl,hv,b2⟩
 obtain ⟨ka,kn,kc,rfl,hc⟩:=hv.open
 have HC:=mkHid hc
 have B2:=mkHid (B1.out.trans (b2.mono B1.out.size))
 have X2:=mkHid (X1.out.step b2)
 have HL1:Hid (w.heap.size≤w1.heap.size):=mkHid B1.out.size
 have HLT:Hid (w.heap.size < w1.heap.size):=mkHid X1.out.lt
 clear hv HP hc b2 X1 hap hz1 hz2
 have HPV:Hid (p.k = p.k):=mkHid rfl
 obtain ⟨q0,hq0⟩:∃ q0,p.k = q0:=⟨_,rfl⟩
 obtain ⟨q1,hq1⟩:∃ q1,strN p.l = q1:=⟨_,rfl⟩
 obtain ⟨q2,hq2⟩:∃ q2,strN p.r = q2:=⟨_,rfl⟩
 obtain ⟨q3,hq3⟩:∃ q3,p.c = q3:=⟨_,rfl⟩
 rw [hq0,hq1,hq2,hq3] at HC ⊢
 clear hq0 hq1 hq2 hq3 HPV
 have bx:=(Below.refl w2.heap.size w2).alloc (Nat.le_refl _) (.cells #[.int .i64 q0,.string q1,.string q2,.int .i64 q3,.slice ka kn kc] 25)
 have B3:=mkHid (B2.out.trans (bx.mono B2.out.size))
 have C3:=mkHid ((HC.out.below bx).mono (P':=fun g=>w1.heap.size≤g) (fun g h _=>h.1))
 have X3:Hid (HasV (w2.alloc (.cells #[.int .i64 q0,.string q1,.string q2,.int .i64 q3,.slice ka kn kc] 25)) w2.heap.size 25 [.int .i64 q0,.string q1,.string q2,.int .i64 q3,.slice ka kn kc]):=mkHid (heap_alloc_new w2 _)
 have Z3:=mkHid (X2.out.step bx)
 clear bx HC X2
 go_upto_region 2 with (fail)
 generalize w2.alloc (.cells #[.int .i64 q0,.string q1,.string q2,.int .i64 q3,.slice ka kn kc] 25) = w3 at *
 go_wp2_with (first | (refine wpList_load_wanted (by rfl) 25 (.tmp 4) rfl w2.heap.size (by rfl) 25 #[.int .i64 q0,.string q1,.string q2,.int .i64 q3,.slice ka kn kc] (0,0) _ X3.out Tryz.underlying25 rfl (inf_pred _ rfl) ?_) | (refine wpList_store_abs rfl 25 (.tmp 2) (.tmp 16) rfl w.heap.size #[.int .i64 q0,.string q1,.string q2,.int .i64 q3,.slice ka kn kc] (by rfl) (by rfl) 25 _ Z3.out (inf_pred _ rfl) rfl (by simp [Value.oneCell']) ?_; intro w9 s9 u9; have S9:=mkHid s9; have U9:=mkHid u9; clear s9 u9))
 refine bodyPost_ret (results_cell_row (p:=2) (by kernel_rfl) _ _ w.heap.size 25 #[.int .i64 q0,.string q1,.string q2,.int .i64 q3,.slice ka kn kc] (0,0) _ rfl S9.out Tryz.underlying25 rfl (inf_pred _ rfl)) rfl ⟨_,rfl,⟨_,rfl,?_⟩,U9.out.below B3.out (Nat.le_refl _)⟩
 exact (C3.out.upd U9.out (by have:=HLT.out; omega)).mono (fun g hg _=>Nat.le_trans HL1.out hg)
set_option maxHeartbeats 16000000 in
set_option maxRecDepth 100000 in
theorem sd_any (w:World) (B:Nat) (hG:Tab w B):Calls Tryz.prog 44 #[] w fun e w'=>e = .returned (.bool true)∧Below w.heap.size w w':=by
 have HQ1:=mkHid (fun W (hW:Below w.heap.size w W)=>questT_any dS1 W B (TabIn.step (w:=w) hG hW) (of_decide_eq_true (by kernel_rfl)) (byte_of (by kernel_rfl)) dL1 rfl)
 rw [sD1,exD1] at HQ1
 have HQ2:=mkHid (fun W (hW:Below w.heap.size w W)=>questT_any dS2 W B (TabIn.step (w:=w) hG hW) (of_decide_eq_true (by kernel_rfl)) (byte_of (by kernel_rfl)) dL2 rfl)
 rw [sD2,exD2] at HQ2
 have HQ3:=mkHid (fun W (hW:Below w.heap.size w W)=>questT_any dS3 W B (TabIn.step (w:=w) hG hW) (of_decide_eq_true (by kernel_rfl)) (byte_of (by kernel_rfl)) dL3 rfl)
 rw [sD3,exD3] at HQ3
 have HQ4:=mkHid (fun W (hW:Below w.heap.size w W)=>questT_any dS4 W B (TabIn.step (w:=w) hG hW) (of_decide_eq_true (by kernel_rfl)) (byte_of (by kernel_rfl)) dL4 rfl)
 rw [sD4,exD4] at HQ4
 have HQ5:=mkHid (fun W (hW:Below w.heap.size w W)=>questT_any dS5 W B (TabIn.step (w:=w) hG hW) (of_decide_eq_true (by kernel_rfl)) (byte_of (by kernel_rfl)) dL5 rfl)
 rw [sD5,exD5] at HQ5
 have HS1:=mkHid (fun W vs ao cp (hW:Below w.heap.size w W) (hp:PredC W (fun _=>True) dq1 vs) (hs:StrsR W ao two)=>(sat_any W (fun _=>True) dq1 vs ao 2 cp 9 two B (TabIn.step (w:=w) hG hW) hp (bytB_ok dq1 (by kernel_rfl)) (of_decide_eq_true (by kernel_rfl):cntP dq1≤1000000) rfl hs two_nm two_asc (by omega)).mono (fun e w' h=>h.hit de1 df1))
 have HS2:=mkHid (fun W vs ao cp (hW:Below w.heap.size w W) (hp:PredC W (fun _=>True) dq1 vs) (hs:StrsR W ao two)=>(sat_any W (fun _=>True) dq1 vs ao 2 cp 3 two B (TabIn.step (w:=w) hG hW) hp (bytB_ok dq1 (by kernel_rfl)) (of_decide_eq_true (by kernel_rfl):cntP dq1≤1000000) rfl hs two_nm two_asc (by omega)).mono (fun e w' h=>h.miss de2 df2))
 rw [df1] at HS1
 rw [df2] at HS2
 have HCY:=mkHid (fun W po pc ao cp (hW:Below w.heap.size w W) (hp:PrdsR W (fun _=>True) [odd1,odd2] po) (hs:StrsR W ao two)=>(askcycle_any W (fun _=>True) [odd1,odd2] po 2 pc ao 2 cp 9 two B (TabIn.step (w:=w) hG hW) hp rfl (two_all (bytB_ok odd1 (by kernel_rfl)) (bytB_ok odd2 (by kernel_rfl))) (by omega) rfl hs two_nm (by omega)).mono (fun e w' h=>h.hit dcyc))
 have HCT:=mkHid (fun W vs ao cp (hW:Below w.heap.size w W) (hp:PredC W (fun _=>True) dq2 vs) (hs:StrsR W ao two)=>(cnt_any W (fun _=>True) dq2 vs ao 2 cp 9 two B (TabIn.step (w:=w) hG hW) hp (bytB_ok dq2 (by kernel_rfl)) (of_decide_eq_true (by kernel_rfl):cntP dq2≤1000000) rfl hs two_nm two_asc (by omega) (by omega) (by omega)).mono (fun e w' h=>h.val de3))
 rw [dcnt] at HCT
 have HIM:=mkHid (fun W vs us (hW:Below w.heap.size w W) (hp:PredC W (fun _=>True) dq2 vs) (hq:PredC W (fun _=>True) dq3 us)=>(implies_any W (fun _=>True) dq2 dq3 vs us 9 B (TabIn.step (w:=w) hG hW) hp hq ⟨by kernel_rfl,by kernel_rfl⟩ ⟨(bytB_ok dq2 (by kernel_rfl)),(bytB_ok dq3 (by kernel_rfl))⟩ ⟨(of_decide_eq_true (by kernel_rfl):cntP dq2≤1000000),(of_decide_eq_true (by kernel_rfl):cntP dq3≤1000000)⟩).mono (fun e w' h=>by rw [dn4] at h; exact h.hit de4 df4))
 rw [df4] at HIM
 have HDI:=mkHid (fun W vs lo lc (hW:Below w.heap.size w W) (hp:PredC W (fun _=>True) dq4 vs) (hq:PrdsR W (fun _=>True) [dq5] lo)=>(disc_any W (fun _=>True) dq4 vs [dq5] lo 1 lc 100 B (TabIn.step (w:=w) hG hW) hp hq rfl (by omega) (two_all (by kernel_rfl) (by kernel_rfl)) (two_all (bytB_ok dq4 (by kernel_rfl)) (bytB_ok dq5 (by kernel_rfl))) (two_all (of_decide_eq_true (by kernel_rfl):cntP dq4≤1000000) (of_decide_eq_true (by kernel_rfl):cntP dq5≤1000000))).mono (fun e w' h=>by rw [dn5] at h; exact h.hit de5 df5))
 have HCN:=mkHid (fun W po pc ao cp lo lc (hW:Below w.heap.size w W) (hp:PrdsR W (fun _=>True) [odd1,odd2] po) (hs:StrsR W ao two) (hl:FlatR intC W lo [0,1])=>contr_any W (fun _=>True) [odd1,odd2] po 2 pc ao 2 cp 9 two B [0,1] lo 2 lc (TabIn.step (w:=w) hG hW) hp rfl (two_all (bytB_ok odd1 (by kernel_rfl)) (bytB_ok odd2 (by kernel_rfl))) (by omega) rfl hs two_nm (by omega) hl rfl (by omega))
 rw [dcon] at HCN
 have bx:=(Below.refl w.heap.size w).alloc (Nat.le_refl _) (.cells #[.string ⟨#[120,46,97]⟩,.string ⟨#[120,46,98]⟩] 9)
 have X1:HasV (w.alloc (.cells #[.string ⟨#[120,46,97]⟩,.string ⟨#[120,46,98]⟩] 9)) w.heap.size 9 [.string ⟨#[120,46,97]⟩,.string ⟨#[120,46,98]⟩]:=heap_alloc_new w _
 have B1:=mkHid bx
 have S1:Hid (StrsR (w.alloc (.cells #[.string ⟨#[120,46,97]⟩,.string ⟨#[120,46,98]⟩] 9)) (some ⟨w.heap.size,0,none⟩) two):=mkHid (.inr ⟨_,0,rfl,X1.lt,X1.readsR⟩)
 clear bx X1 hG
 go_enter Tryz.func44,Tryz.ntmps44
 go_upto_region 2 with (fail)
 generalize w.alloc (.cells #[.string ⟨#[120,46,97]⟩,.string ⟨#[120,46,98]⟩] 9) = w1 at *
 go_wp2_with fail
 refine ((HQ1.out w1 B1.out)).mono ?_
 rintro e w2 ⟨v,rfl,hv,b2⟩
 obtain ⟨x1,n1,c1,rfl,hc⟩:=hv.open
 have PC1:=mkHid hc.wide
 have B2:=mkHid (B1.out.trans (b2.mono B1.out.size))
 have S2:=mkHid (S1.out.below b2)
 clear hv hc b2 S1 HQ1
 generalize dq1.k = a1 at *
 generalize strN dq1.l = s1 at *
 generalize strN dq1.r = t1 at *
 generalize dq1.c = d1 at *
 have bx:=(Below.refl w2.heap.size w2).alloc (Nat.le_refl _) (.cells #[.int .i64 a1,.string s1,.string t1,.int .i64 d1,.slice x1 n1 c1] 25)
 have X3:Hid (HasV (w2.alloc (.cells #[.int .i64 a1,.string s1,.string t1,.int .i64 d1,.slice x1 n1 c1] 25)) w2.heap.size 25 [.int .i64 a1,.string s1,.string t1,.int .i64 d1,.slice x1 n1 c1]):=mkHid (heap_alloc_new w2 _)
 have B3:=mkHid (B2.out.trans (bx.mono B2.out.size))
 have S3:=mkHid (S2.out.below bx)
 have PC1:=mkHid (PC1.out.below bx)
 clear bx
 go_upto_region 3 with (fail)
 generalize w2.alloc (.cells #[.int .i64 a1,.string s1,.string t1,.int .i64 d1,.slice x1 n1 c1] 25) = w3 at *
 generalize hK:w2.heap.size = K at *
 clear hK
 go_wp2_with (refine wpList_load_row rfl 25 (.tmp 2) rfl K ?x1 25 #[.int .i64 a1,.string s1,.string t1,.int .i64 d1,.slice x1 n1 c1] (0,0) _ X3.out Tryz.underlying25 rfl (inf_pred _ rfl) ?_; (case x1=>rfl))
 refine (HS1.out w3 _ _ _ B3.out PC1.out S3.out).mono ?_
 rintro e w4 ⟨ro1,rc1,rfl,hf1,b4⟩
 have B4:=mkHid (B3.out.trans (b4.mono B3.out.size))
 have S4:=mkHid (S3.out.below b4)
 have X4:=mkHid (X3.out.step b4)
 have PC14:=mkHid (PC1.out.below b4)
 have F4:=mkHid hf1
 clear hf1 b4 HS1 S3 X3 PC1
 go_upto_region 4 with (fail)
 go_wp2_with (refine wpList_load_row rfl 25 (.tmp 2) rfl K ?x1 25 #[.int .i64 a1,.string s1,.string t1,.int .i64 d1,.slice x1 n1 c1] (0,0) _ X4.out Tryz.underlying25 rfl (inf_pred _ rfl) ?_; (case x1=>rfl))
 refine (HS2.out w4 _ _ _ B4.out PC14.out S4.out).mono ?_
 rintro e w5 ⟨rfl,b5⟩
 have B5:=mkHid (B4.out.trans (b5.mono B4.out.size))
 have S5:=mkHid (S4.out.below b5)
 have F5:=mkHid (F4.out.below b5)
 clear b5 HS2 S4 X4 PC14 F4
 go_upto_region 5 with (fail)
 go_wp2_with fail
 refine (catom_any _ _ _ w5).mono ?_
 rintro e w6 ⟨rfl,b6⟩
 have B6:=mkHid (B5.out.trans (b6.mono B5.out.size))
 have S6:=mkHid (S5.out.below b6)
 have F6:=mkHid (F5.out.below b6)
 clear b6 S5 F5
 go_wp2_with fail
 refine (catom_any _ _ _ w6).mono ?_
 rintro e w7 ⟨rfl,b7⟩
 have B7:=mkHid (B6.out.trans (b7.mono B6.out.size))
 have bx:=(Below.refl w7.heap.size w7).alloc (Nat.le_refl _) (.cells #[.int .i64 0,.string ⟨#[120,46,98]⟩,.string ⟨#[120,46,97]⟩,.int .i64 (-3),.slice none 0 0,.int .i64 0,.string ⟨#[120,46,97]⟩,.string ⟨#[120,46,98]⟩,.int .i64 2,.slice none 0 0] 25)
 have S8:=mkHid ((S6.out.below b7).below bx)
 have F8:=mkHid ((F6.out.below b7).below bx)
 have B8:=mkHid (B7.out.trans (bx.mono B7.out.size))
 have O8:Hid (PrdsR (w7.alloc (.cells #[.int .i64 0,.string ⟨#[120,46,98]⟩,.string ⟨#[120,46,97]⟩,.int .i64 (-3),.slice none 0 0,.int .i64 0,.string ⟨#[120,46,97]⟩,.string ⟨#[120,46,98]⟩,.int .i64 2,.slice none 0 0] 25)) (fun _=>True) [odd1,odd2] (some ⟨w7.heap.size,0,none⟩)):=mkHid (prds_two (vs:=[.int .i64 0,.string (strN nmB'),.string (strN nmA),.int .i64 (-3),.slice none 0 0]) (us:=[.int .i64 0,.string (strN nmA),.string (strN nmB'),.int .i64 2,.slice none 0 0]) (t:=25) (predC_atom _ _ _ _ _) (predC_atom _ _ _ _ _) (heap_alloc_new w7 _))
 clear bx b7 S6 F6 B7
 go_upto_region 6 with (fail)
 generalize w7.alloc (.cells #[.int .i64 0,.string ⟨#[120,46,98]⟩,.string ⟨#[120,46,97]⟩,.int .i64 (-3),.slice none 0 0,.int .i64 0,.string ⟨#[120,46,97]⟩,.string ⟨#[120,46,98]⟩,.int .i64 2,.slice none 0 0] 25) = w8 at *
 generalize w7.heap.size = OD at *
 go_wp2_with fail
 refine (HCY.out w8 _ _ _ _ B8.out O8.out S8.out).mono ?_
 rintro e w9 ⟨cy,cz,rfl,hcy,b9⟩
 have B9:=mkHid (B8.out.trans (b9.mono B8.out.size))
 have S9:=mkHid (S8.out.below b9)
 have F9:=mkHid (F8.out.below b9)
 have O9:=mkHid (O8.out.below b9)
 have C9:=mkHid hcy
 clear hcy b9 HCY S8 F8 O8
 go_upto_region 7 with (fail)
 go_wp2_with fail
 refine ((HQ2.out w9 B9.out)).mono ?_
 rintro e w10 ⟨v,rfl,hv,b10⟩
 obtain ⟨x2,n2,c2,rfl,hc⟩:=hv.open
 have PC2:=mkHid hc.wide
 have B10:=mkHid (B9.out.trans (b10.mono B9.out.size))
 have S10:=mkHid (S9.out.below b10)
 have F10:=mkHid (F9.out.below b10)
 have O10:=mkHid (O9.out.below b10)
 have C10:=mkHid (C9.out.below b10)
 clear hv hc b10 S9 F9 O9 C9
 generalize dq2.k = a2 at *
 generalize strN dq2.l = s2 at *
 generalize strN dq2.r = t2 at *
 generalize dq2.c = d2 at *
 go_wp2_with fail
 refine (HCT.out w10 _ _ _ B10.out PC2.out S10.out).mono ?_
 rintro e w11 ⟨rfl,b11⟩
 have B11:=mkHid (B10.out.trans (b11.mono B10.out.size))
 have S11:=mkHid (S10.out.below b11)
 have F11:=mkHid (F10.out.below b11)
 have O11:=mkHid (O10.out.below b11)
 have C11:=mkHid (C10.out.below b11)
 clear b11 HCT S10 F10 O10 C10 PC2
 go_upto_region 8 with (fail)
 go_wp2_with fail
 refine ((HQ2.out w11 B11.out)).mono ?_
 rintro e w12 ⟨v,rfl,hv,b12⟩
 obtain ⟨x6,n6,c6,rfl,hc⟩:=hv.open
 have PC6:=mkHid hc.wide
 have B12:=mkHid (B11.out.trans (b12.mono B11.out.size))
 have S12:=mkHid (S11.out.below b12)
 have F12:=mkHid (F11.out.below b12)
 have O12:=mkHid (O11.out.below b12)
 have C12:=mkHid (C11.out.below b12)
 clear hv hc b12 S11 F11 O11 C11 HQ2
 generalize dq2.k = a6 at *
 generalize strN dq2.l = s6 at *
 generalize strN dq2.r = t6 at *
 generalize dq2.c = d6 at *
 go_wp2_with fail
 refine ((HQ3.out w12 B12.out)).mono ?_
 rintro e w13 ⟨v,rfl,hv,b13⟩
 obtain ⟨x3,n3,c3,rfl,hc⟩:=hv.open
 have PC3:=mkHid hc.wide
 have B13:=mkHid (B12.out.trans (b13.mono B12.out.size))
 have S13:=mkHid (S12.out.below b13)
 have F13:=mkHid (F12.out.below b13)
 have O13:=mkHid (O12.out.below b13)
 have C13:=mkHid (C12.out.below b13)
 have PC6:=mkHid (PC6.out.below b13)
 clear hv hc b13 S12 F12 O12 C12 HQ3
 generalize dq3.k = a3 at *
 generalize strN dq3.l = s3 at *
 generalize strN dq3.r = t3 at *
 generalize dq3.c = d3 at *
 go_wp2_with fail
 refine (HIM.out w13 _ _ B13.out PC6.out PC3.out).mono ?_
 rintro e w14 ⟨ro2,rc2,rfl,hf2,b14⟩
 have B14:=mkHid (B13.out.trans (b14.mono B13.out.size))
 have S14:=mkHid (S13.out.below b14)
 have F14:=mkHid (F13.out.below b14)
 have O14:=mkHid (O13.out.below b14)
 have C14:=mkHid (C13.out.below b14)
 have D14:=mkHid hf2
 clear hf2 b14 HIM S13 F13 O13 C13 PC6 PC3
 go_upto_region 9 with (fail)
 go_wp2_with fail
 refine ((HQ4.out w14 B14.out)).mono ?_
 rintro e w15 ⟨v,rfl,hv,b15⟩
 obtain ⟨x4,n4,c4,rfl,hc⟩:=hv.open
 have PC4:=mkHid hc.wide
 have B15:=mkHid (B14.out.trans (b15.mono B14.out.size))
 have S15:=mkHid (S14.out.below b15)
 have F15:=mkHid (F14.out.below b15)
 have O15:=mkHid (O14.out.below b15)
 have C15:=mkHid (C14.out.below b15)
 have D15:=mkHid (D14.out.below b15)
 clear hv hc b15 S14 F14 O14 C14 D14 HQ4
 generalize dq4.k = a4 at *
 generalize strN dq4.l = s4 at *
 generalize strN dq4.r = t4 at *
 generalize dq4.c = d4 at *
 go_wp2_with fail
 refine ((HQ5.out w15 B15.out)).mono ?_
 rintro e w16 ⟨v,rfl,hv,b16⟩
 obtain ⟨x5,n5,c5,rfl,hc⟩:=hv.open
 have PC5:=mkHid hc.wide
 have B16:=mkHid (B15.out.trans (b16.mono B15.out.size))
 have PC4:=mkHid (PC4.out.below b16)
 generalize hq5:dq5.k = a5 at *
 generalize hs5:strN dq5.l = s5 at *
 generalize ht5:strN dq5.r = t5 at *
 generalize hd5:dq5.c = d5 at *
 clear hq5 hs5 ht5 hd5
 have bx:=(Below.refl w16.heap.size w16).alloc (Nat.le_refl _) (.cells #[.int .i64 a5,.string s5,.string t5,.int .i64 d5,.slice x5 n5 c5] 25)
 have L17:Hid (PrdsR (w16.alloc (.cells #[.int .i64 a5,.string s5,.string t5,.int .i64 d5,.slice x5 n5 c5] 25)) (fun _=>True) [dq5] (some ⟨w16.heap.size,0,none⟩)):=mkHid (prds_one (t:=25) (PC5.out.below bx) (heap_alloc_new w16 _))
 have S17:=mkHid ((S15.out.below b16).below bx)
 have F17:=mkHid ((F15.out.below b16).below bx)
 have O17:=mkHid ((O15.out.below b16).below bx)
 have C17:=mkHid ((C15.out.below b16).below bx)
 have D17:=mkHid ((D15.out.below b16).below bx)
 have PC4:=mkHid (PC4.out.below bx)
 have B17:=mkHid (B16.out.trans (bx.mono B16.out.size))
 clear hv hc b16 bx S15 F15 O15 C15 D15 HQ5 PC5
 go_wp2_with fail
 generalize w16.alloc (.cells #[.int .i64 a5,.string s5,.string t5,.int .i64 d5,.slice x5 n5 c5] 25) = w17 at *
 generalize w16.heap.size = LB at *
 refine (HDI.out w17 _ _ _ B17.out PC4.out L17.out).mono ?_
 rintro e w18 ⟨uo,uc,vo,vc,rfl,hu,hv,b18⟩
 have B18:=mkHid (B17.out.trans (b18.mono B17.out.size))
 have S18:=mkHid (S17.out.below b18)
 have F18:=mkHid (F17.out.below b18)
 have O18:=mkHid (O17.out.below b18)
 have C18:=mkHid (C17.out.below b18)
 have D18:=mkHid (D17.out.below b18)
 have U18:=mkHid hu
 have V18:=mkHid hv
 clear hu hv b18 HDI S17 F17 O17 C17 D17 L17 PC4
 go_upto_region 12 with (fail)
 go_wp2_with fail
 refine (lbinds_any w18 4 1).mono ?_
 rintro e w19 ⟨lo1,rfl,hl1,b19⟩
 have B19:=mkHid (B18.out.trans (b19.mono B18.out.size))
 have S19:=mkHid (S18.out.below b19)
 have O19:=mkHid (O18.out.below b19)
 have C19:=mkHid (C18.out.below b19)
 have D19:=mkHid (D18.out.below b19)
 have U19:=mkHid (U18.out.below b19)
 have V19:=mkHid (V18.out.below b19)
 have HB1:=mkHid (samebnd_any w19 ro1 lo1 2 2 rc1 2 (bndsP two [0,4,1]) [⟨nmA,4⟩,⟨nmB',1⟩] rfl rfl (F18.out.below b19) hl1 (bAB 4 1) (bAB 4 1) (by omega) (by omega))
 rw [show decide (bndsP two [0,4,1] = [⟨nmA,4⟩,⟨nmB',1⟩]) = true from by kernel_rfl] at HB1
 clear hl1 b19 S18 F18 O18 C18 D18 U18 V18
 go_wp2_with fail
 refine HB1.out.mono ?_
 rintro e w20 ⟨rfl,b20⟩
 have B20:=mkHid (B19.out.trans (b20.mono B19.out.size))
 have D20:=mkHid (D19.out.below b20)
 have U20:=mkHid (U19.out.below b20)
 have V20:=mkHid (V19.out.below b20)
 have HC2:=mkHid (HCN.out w20 _ 2 _ 2 cy cz B20.out (O19.out.below b20) (S19.out.below b20) (C19.out.below b20))
 clear b20 HB1 S19 O19 C19 D19 U19 V19 HCN
 go_wp2_with fail
 refine HC2.out.mono ?_
 rintro e w21 ⟨rfl,b21⟩
 have B21:=mkHid (B20.out.trans (b21.mono B20.out.size))
 have D21:=mkHid (D20.out.below b21)
 have U21:=mkHid (U20.out.below b21)
 have V21:=mkHid (V20.out.below b21)
 clear b21 HC2 D20 U20 V20
 go_wp2_with fail
 refine (lbinds_any w21 0 1).mono ?_
 rintro e w22 ⟨lo2,rfl,hl2,b22⟩
 have B22:=mkHid (B21.out.trans (b22.mono B21.out.size))
 have U22:=mkHid (U21.out.below b22)
 have V22:=mkHid (V21.out.below b22)
 have HB2:=mkHid (samebnd_any w22 ro2 lo2 2 2 rc2 2 (bndsP two [0,0,1]) [⟨nmA,0⟩,⟨nmB',1⟩] rfl rfl (D21.out.below b22) hl2 (bAB 0 1) (bAB 0 1) (by omega) (by omega))
 rw [show decide (bndsP two [0,0,1] = [⟨nmA,0⟩,⟨nmB',1⟩]) = true from by kernel_rfl] at HB2
 clear hl2 b22 D21 U21 V21
 go_wp2_with fail
 refine HB2.out.mono ?_
 rintro e w23 ⟨rfl,b23⟩
 have B23:=mkHid (B22.out.trans (b23.mono B22.out.size))
 have bx:=(Below.refl w23.heap.size w23).alloc (Nat.le_refl _) (.cells #[.string ⟨#[120,46,97]⟩,.int .i64 18] 87)
 have X24:HasV (w23.alloc (.cells #[.string ⟨#[120,46,97]⟩,.int .i64 18] 87)) w23.heap.size 87 [.string ⟨#[120,46,97]⟩,.int .i64 18]:=heap_alloc_new w23 _
 have B24:=mkHid (B23.out.trans (bx.mono B23.out.size))
 have V24:=mkHid ((V22.out.below b23).below bx)
 have HB3:=mkHid (samebnd_any (w23.alloc (.cells #[.string ⟨#[120,46,97]⟩,.int .i64 18] 87)) uo (some ⟨w23.heap.size,0,none⟩) 1 1 uc 1 (bndsP [nmA] [0,18]) [⟨nmA,18⟩] rfl rfl ((U22.out.below b23).below bx) (.inr ⟨_,0,rfl,X24.lt,X24.readsR⟩) (bA 18) (bA 18) (by omega) (by omega))
 rw [show decide (bndsP [nmA] [0,18] = [⟨nmA,18⟩]) = true from by kernel_rfl] at HB3
 clear b23 bx HB2 U22 V22 X24
 go_wp2_with fail
 refine HB3.out.mono ?_
 rintro e w25 ⟨rfl,b25⟩
 have B25:=mkHid (B24.out.trans (b25.mono B24.out.size))
 have bx:=(Below.refl w25.heap.size w25).alloc (Nat.le_refl _) (.cells #[.string ⟨#[120,46,97]⟩,.int .i64 65] 87)
 have X26:HasV (w25.alloc (.cells #[.string ⟨#[120,46,97]⟩,.int .i64 65] 87)) w25.heap.size 87 [.string ⟨#[120,46,97]⟩,.int .i64 65]:=heap_alloc_new w25 _
 have B26:=mkHid (B25.out.trans (bx.mono B25.out.size))
 have HB4:=mkHid (samebnd_any (w25.alloc (.cells #[.string ⟨#[120,46,97]⟩,.int .i64 65] 87)) vo (some ⟨w25.heap.size,0,none⟩) 1 1 vc 1 (bndsP [nmA] [0,65]) [⟨nmA,65⟩] rfl rfl ((V24.out.below b25).below bx) (.inr ⟨_,0,rfl,X26.lt,X26.readsR⟩) (bA 65) (bA 65) (by omega) (by omega))
 rw [show decide (bndsP [nmA] [0,65] = [⟨nmA,65⟩]) = true from by kernel_rfl] at HB4
 clear b25 bx HB3 V24 X26
 go_wp2_with fail
 refine HB4.out.mono ?_
 rintro e w27 ⟨rfl,b27⟩
 have B27:=mkHid (B26.out.trans (b27.mono B26.out.size))
 clear b27 HB4
 go_wp2
 go_ret
 exact ⟨rfl,B27.out⟩
end Go.Proofs.YtmkdfbelbcocpaaGreatDoor
namespace Go.Proofs.YtmkdfbelbcocpaaGreatDoor
open Go.RowKit Go.Sort Go.Maps
theorem cyc_law {ns:List (List Nat)} {most:Int} {ps:List Prd} {cs:List Con} (h:readP ns most ps = some cs) :
  (∃ v,askLeast ns most ps = some v∧askCycle ns most ps = none∧∀ l,askContr ns most ps l = false)∨(∃ c,askLeast ns most ps = none∧askCycle ns most ps = some c∧c.length≤ns.length + 1∧askContr ns most ps c = true):=by
 obtain ⟨h1,h2,h3,h4,h5,h6,h7⟩:=read_law h
 have eL:askLeast ns most ps = leastL ns.length cs:=by unfold askLeast; rw [h]; rfl
 have eC:askCycle ns most ps = cycleL ns.length cs:=by unfold askCycle; rw [h]; rfl
 have eT:∀ l,askContr ns most ps l = contrL cs l:=fun l=>by unfold askContr; rw [h]
 rw [eL,eC]
 cases hl:leastL ns.length cs with
 | some v =>
  left
  have hs:=(leastL_some h5 hl).2.1
  have hno:∀ l,contrL cs l = false:=fun l=>by
   cases hc:contrL cs l with
   | false=>rfl
   | true=>exact (contr_no hc (gv v) hs.meet).elim
  refine ⟨v,rfl,?_,fun l=>by rw [eT]; exact hno l⟩
  cases hc:cycleL ns.length cs with
  | none=>rfl
  | some out =>
   have:=(cycle_some h5 hc).2
   rw [hno out] at this
   cases this
 | none =>
  right
  cases hc:cycleL ns.length cs with
  | none =>
   exfalso
   obtain ⟨u,u0,hu⟩:=cycle_none h5 hc
   refine leastL_none h5 hl u ⟨u0,fun i hi=>?_,hu⟩
   rcases Nat.eq_zero_or_pos i with rfl | hi0
   ·omega
   ·have hm:(⟨0,(i - 1) + 1,0⟩:Con)∈cs:=by
     rw [h4]
     unfold consP
     refine List.mem_append_right _ ((rangeC_mem most _ ns.length).2 ⟨i - 1,by omega,.inl rfl⟩)
    have:=hu _ hm
    unfold MeetC at this
    simp only at this
    rw [show i - 1 + 1 = i by omega] at this
    omega
  | some out =>
   obtain ⟨a,b⟩:=cycle_some h5 hc
   exact ⟨out,rfl,rfl,a,by rw [eT]; exact b⟩
theorem no_law {ns:List (List Nat)} {most:Int} {ps:List Prd} (h:readP ns most ps = none):askLeast ns most ps = none∧askCycle ns most ps = none∧∀ l,askContr ns most ps l = false:=by
 refine ⟨?_,?_,fun l=>?_⟩
 ·unfold askLeast; rw [h]; rfl
 ·unfold askCycle; rw [h]; rfl
 ·unfold askContr; rw [h]
def okC (ns:List (List Nat)) (most:Int) (ps:List Prd):Bool:=givenP ns most && ps.all (okA ns)
theorem okC_read (ns:List (List Nat)) (most:Int) (ps:List Prd):(okC ns most ps = true→∃ cs,readP ns most ps = some cs)∧(okC ns most ps = false→readP ns most ps = none):=by
 unfold okC readP
 constructor
 ·intro h; rw [if_pos h]; exact ⟨_,rfl⟩
 ·intro h; rw [if_neg (by rw [h]; simp)]
set_option maxRecDepth 100000 in
theorem rhas_nil (ao:Option Addr) (cp:Nat) (t:ByteArray) (w:World):Calls Tryz.prog 49 #[.slice ao 0 cp,.string t] w fun e w'=>e = .returned (.bool false)∧w = w':=by
 go_enter Tryz.func49,Tryz.ntmps49
 go_wp2_with fail
 go_loop [5] (fun c=>∃ i:Nat,c = .int .i64 i) (fun c=>0)
 case atStart=>exact ⟨0,rfl⟩
 case round =>
  obtain ⟨i,rfl⟩:=hrel
  have ii:¬ ((i:Int) < 0):=by omega
  go_wp2
  go_ret
  exact ⟨rfl,rfl⟩
theorem rhas_any' (ao:Option Addr) (n cp:Nat) (L:List (List Nat)) (x:List Nat) (w:World) (hn:n = L.length) (hl:n≤1000000) (hr:StrsR w ao L) (hx:∀ y∈x,y < 256) (hL:∀ s∈L,∀ y∈s,y < 256) :
  Calls Tryz.prog 49 #[.slice ao n cp,.string (strN x)] w fun e w'=>e = .returned (.bool (L.contains x))∧w = w':=by
 rcases hr with h0 | ⟨g,off,rfl,_,h⟩
 ·subst h0
  subst hn
  exact rhas_nil ao cp (strN x) w
 ·exact rhas_any g off cp n L x w hn hl h hx hL
end Go.Proofs.YtmkdfbelbcocpaaGreatDoor
namespace Go.Proofs.YtmkdfbelbcocpaaGreatDoor
open Go.RowKit Go.Sort Go.Maps
theorem strN_emp (l:List Nat):(strN l).toList.isEmpty = (l == []):=by
 cases l with
 | nil=>rw [strN_isE0]; rfl
 | cons x xs=>rw [strN_isE _ (by simp)]; rfl
theorem BindsQ.val {w w':World} {ns:List (List Nat)} {r:Option (List Int)} {e:Ending} (h:BindsQ w ns r e w'):∃ ro rc,e = .returned (.tuple #[.slice ro (if r.isSome then ns.length else 0) rc,.bool r.isSome])∧Below w.heap.size w w':=by
 obtain ⟨h1,h2⟩:=h
 cases r with
 | none=>exact ⟨none,0,h1,h2⟩
 | some v=>obtain ⟨ro,rc,h3,-⟩:=h1; exact ⟨ro,rc,h3,h2⟩
theorem IntsQ.val {w w':World} {r:Option (List Int)} {e:Ending} (h:IntsQ w r e w'):∃ ro rc,e = .returned (.tuple #[.slice ro (r.getD []).length rc,.bool r.isSome])∧FlatR intC w' ro (r.getD [])∧Below w.heap.size w w':=by
 obtain ⟨h1,h2⟩:=h
 cases r with
 | none=>exact ⟨none,0,h1,.inl rfl,h2⟩
 | some l=>obtain ⟨ro,rc,h3,h4⟩:=h1; exact ⟨ro,rc,h3,h4.flatR intC_len rfl,h2⟩
set_option maxHeartbeats 16000000 in
set_option maxRecDepth 100000 in
theorem askcycles_walk (w:World) (P:Nat→Prop) (ps:List Prd) (po:Option Addr) (pn pc:Nat) (ns:List (List Nat)) (ao:Option Addr) (n cp:Nat) (most:Int) (list:List Int) (lo:Option Addr) (ln lc:Nat) (B:Nat) (hG:Tab w B)
  (hps:PrdsR w P ps po) (hpn:pn = ps.length) (hpl:pn≤9223372036854775807) (hlen:∀ p∈ps,LenP p) (hraw:∀ p∈ps,RawP p) (hns:StrsR w ao ns) (hn:n = ns.length) (hnl:n≤9223372036854775807) (hnb:∀ s∈ns,∀ y∈s,y < 256) (hls:FlatR intC w lo list) (hln:ln = list.length) (hll:ln≤9223372036854775807) :
  Calls Tryz.prog 9 #[.slice po pn pc,.slice ao n cp,.int .i64 most,.slice lo ln lc] w fun e w'=>e = .returned (.bool true)∧Below w.heap.size w w':=by
 have HSA:=mkHid (fun W (hW:Below w.heap.size w W)=>sd_any W B (TabIn.step (w:=w) hG hW))
 have HFP:=mkHid (fun W (hW:Below w.heap.size w W)=>fewp_any W P ps po pn pc 10 (by omega) hpn hpl (hps.below hW) hlen)
 have HFN:=mkHid (fun W (hW:Below w.heap.size w W)=>fewn_any W ns ao n cp hn hnl (hns.below hW))
 have HPB:=mkHid (fun (hs:fpP 10 ps = true)=>(show pn≤10∧∀ p∈ps,BytP p from by
  unfold fpP at hs
  rw [Bool.and_eq_true,decide_eq_true_eq,List.all_eq_true] at hs
  refine ⟨by omega,fun p hp=>?_⟩
  have h2:=hs.2 p hp
  unfold shoP at h2
  rw [Bool.and_eq_true] at h2
  exact byt_of p (hraw p hp) h2.2))
 have HNB:=mkHid (fun (hs:fnP ns = true)=>(show n≤18∧∀ s∈ns,NmB s from by
  unfold fnP at hs
  rw [Bool.and_eq_true,decide_eq_true_eq,List.all_eq_true] at hs
  exact ⟨by omega,fun s hs'=>⟨hnb s hs',by have:=of_decide_eq_true (hs.2 s hs'); omega⟩⟩))
 have HPR:=mkHid (fun W (hW:Below w.heap.size w W)=>hps.below hW)
 have HSR:=mkHid (fun W (hW:Below w.heap.size w W)=>hns.below hW)
 have HLR:=mkHid (fun W (hW:Below w.heap.size w W)=>hls.below hW)
 have HT:=mkHid (fun W (hW:Below w.heap.size w W)=>(show Tab W B from (TabIn.step (w:=w) hG hW)))
 have HN:=mkHid hn
 have HPN:=mkHid hpn
 have HLN:=mkHid hln
 have HY:=mkHid hnb
 have B0:=mkHid (Below.refl w.heap.size w)
 clear hG hps hpn hpl hlen hraw hns hn hnl hnb hls hln
 obtain ⟨s,hs⟩:∃ s,fpP 10 ps = s:=⟨_,rfl⟩
 obtain ⟨t,ht⟩:∃ t,fnP ns = t:=⟨_,rfl⟩
 rw [hs] at HFP HPB
 rw [ht] at HFN HNB
 clear hs ht
 go_enter Tryz.func9,Tryz.ntmps9
 go_wp2_with fail
 refine (HSA.out w B0.out).mono ?_
 rintro e w1 ⟨rfl,b1⟩
 have B1:=mkHid b1
 clear b1 HSA B0
 go_wp2_with fail
 refine (HFP.out w1 B1.out).mono ?_
 rintro e w2 ⟨rfl,b2⟩
 have B2:=mkHid (B1.out.trans (b2.mono B1.out.size))
 clear b2 HFP B1
 cases s with
 | false =>
  go_wp2
  go_ret
  exact ⟨rfl,B2.out⟩
 | true =>
  obtain ⟨hp10,hpb⟩:=HPB.out rfl
  have HBY:=mkHid hpb
  clear hpb HPB
  go_wp2_with fail
  refine (HFN.out w2 B2.out).mono ?_
  rintro e w3 ⟨rfl,b3⟩
  have B3:=mkHid (B2.out.trans (b3.mono B2.out.size))
  clear b3 HFN B2
  cases t with
  | false =>
   go_wp2
   go_ret
   exact ⟨rfl,B3.out⟩
  | true =>
   obtain ⟨hn18,hnm⟩:=HNB.out rfl
   have HNM:=mkHid hnm
   clear hnm HNB
   by_cases h20:20 < ln
   ·have h20':(20:Int) < (ln:Int):=by omega
    go_wp2
    go_ret
    exact ⟨rfl,B3.out⟩
   ·have h20':¬ (20:Int) < (ln:Int):=by omega
    have HGV:=mkHid (fun W (hW:Below w.heap.size w W)=>rgiven_any ns most ao n cp W HN.out (HSR.out W hW) HNM.out (by omega))
    have HHS:=mkHid (fun W (hW:Below w.heap.size w W) x (hx:NmB x) b (hb:ns.contains x = b)=>(rhas_any' ao n cp ns x W HN.out (by omega) (HSR.out W hW) hx.1 HY.out).mono (fun e w' h=>(⟨by rw [← hb]; exact h.1,h.2⟩:e = .returned (.bool b)∧W = w')))
    have HLE:=mkHid (fun W (hW:Below w.heap.size w W)=>(askleast_any W P ps po pn pc ao n cp most ns B (HT.out W hW) (HPR.out W hW) HPN.out HBY.out (by omega) HN.out (HSR.out W hW) HNM.out (by omega)).mono (fun e w' h=>h.val))
    have HCY:=mkHid (fun W (hW:Below w.heap.size w W)=>(askcycle_any W P ps po pn pc ao n cp most ns B (HT.out W hW) (HPR.out W hW) HPN.out HBY.out (by omega) HN.out (HSR.out W hW) HNM.out (by omega)).mono (fun e w' h=>h.val))
    have HCN:=mkHid (fun W (hW:Below w.heap.size w W) l la m c (hl:FlatR intC W la l) (hm:m = l.length) (hmb:m≤1000)=>contr_any W P ps po pn pc ao n cp most ns B l la m c (HT.out W hW) (HPR.out W hW) HPN.out HBY.out (by omega) HN.out (HSR.out W hW) HNM.out (by omega) hl hm hmb)
    obtain ⟨ok,hok⟩:∃ b,(askLeast ns most ps).isSome = b:=⟨_,rfl⟩
    obtain ⟨lk,hlk⟩:∃ k,(if (askLeast ns most ps).isSome = true then ns.length else 0) = k:=⟨_,rfl⟩
    rw [hlk,hok] at HLE
    obtain ⟨is,his⟩:∃ b,(askCycle ns most ps).isSome = b:=⟨_,rfl⟩
    obtain ⟨cl,hcl⟩:∃ k,(askCycle ns most ps).getD [] = k:=⟨_,rfl⟩
    rw [his,hcl] at HCY
    have HOV:=mkHid hok
    have HLV:=mkHid hlk
    have HIV:=mkHid his
    have HCV:=mkHid hcl
    clear hok hlk his hcl
    obtain ⟨cm,hcm⟩:∃ m,cl.length = m:=⟨_,rfl⟩
    rw [hcm] at HCY
    have HCM:=mkHid hcm
    clear hcm
    have HLW:=mkHid (okC_read ns most ps)
    have HL1:=mkHid (fun cs (h:readP ns most ps = some cs)=>cyc_law h)
    have HL2:=mkHid (fun (h:readP ns most ps = none)=>no_law h)
    have HOC:Hid (okC ns most ps = (givenP ns most && ps.all (okA ns))):=mkHid rfl
    go_upto_region 4 with (fail)
    go_wp2_with fail
    refine (HGV.out w3 B3.out).mono ?_
    rintro e w4 ⟨rfl,b4⟩
    have B4:=mkHid (B3.out.trans (b4.mono B3.out.size))
    clear b4 HGV B3
    obtain ⟨gv0,hgv0⟩:∃ b,givenP ns most = b:=⟨_,rfl⟩
    rw [hgv0] at HOC ⊢
    clear hgv0
    go_wp2_with fail
    go_loopw [10,11] (fun vv iv wr=>∃ (i:Nat) (b:Bool),iv = .int .i64 i∧vv = .bool b∧i≤pn∧Hid (b = (gv0 && (ps.take i).all (okA ns)))∧Hid (Below w.heap.size w wr)) (fun _ i _=>(pn - intOf i).toNat)
    case atStart=>exact ⟨0,gv0,rfl,rfl,by omega,mkHid (by simp),B4⟩
    case round =>
     clear B4
     obtain ⟨i,b,rfl,rfl,hi,hb,hw⟩:=hrel
     have e2:IntKind.i64.wrap ((i:Int) + 1) = ((i + 1:Nat):Int):=IntWalk.i64_in _ (by omega)
     by_cases hil:i < pn
     ·have ii:(i:Int) < pn:=by omega
      obtain ⟨q,hq⟩:∃ q,ps[i]? = some q:=⟨_,List.getElem?_eq_getElem (by rw [← HPN.out]; exact hil)⟩
      have HNX:=mkHid (fun b' (hb':(b && okA ns q) = b')=>(show b' = (gv0 && (ps.take (i + 1)).all (okA ns)) from by
       rw [← hb',hb.out,List.take_add_one,hq,List.all_append]
       simp [Bool.and_assoc]))
      have HQB:=mkHid (HBY.out q (List.mem_of_getElem? hq))
      have HQN:Hid (NmB q.l∧NmB q.r):=mkHid (by
       have h:=HQB.out
       cases q with
       | mk k l r c ks=>unfold BytP at h; exact ⟨h.1,h.2.1⟩)
      obtain ⟨g,off,vs,hao,hgl,hpc,hrd⟩:=(HPR.out wr hw.out).at i q hq
      obtain ⟨xa,xn,xc,hvf,hxn⟩:=hpc.form
      subst hvf
      have HVA:=mkHid (fun W=>rvatom_any q.k q.l q.r q.c xa xn xc W HQN.out.1 HQN.out.2)
      obtain ⟨va,hva⟩:∃ b,atomB q.k q.l q.r q.c xn = b:=⟨_,rfl⟩
      obtain ⟨le,hle⟩:∃ b,(q.l == []) = b:=⟨_,rfl⟩
      obtain ⟨re,hre⟩:∃ b,(q.r == []) = b:=⟨_,rfl⟩
      obtain ⟨hl,hhl⟩:∃ b,ns.contains q.l = b:=⟨_,rfl⟩
      obtain ⟨hr,hhr⟩:∃ b,ns.contains q.r = b:=⟨_,rfl⟩
      have HOK:Hid (okA ns q = (va && ((le || hl) && (re || hr)))):=mkHid (by
       unfold okA knwN
       rw [← hxn,hva,hle,hre,hhl,hhr])
      rw [HOK.out] at HNX
      have el:=strN_emp q.l
      have er:=strN_emp q.r
      rw [hle] at el
      rw [hre] at er
      rw [hva] at HVA
      have HH1:=mkHid (fun W (hW:Below w.heap.size w W)=>HHS.out W hW q.l HQN.out.1 hl hhl)
      have HH2:=mkHid (fun W (hW:Below w.heap.size w W)=>HHS.out W hW q.r HQN.out.2 hr hhr)
      have s0:=hrd 0 _ rfl
      have s1:=hrd 1 _ rfl
      have s2:=hrd 2 _ rfl
      have s3:=hrd 3 _ rfl
      have s4:=hrd 4 _ rfl
      rw [Nat.add_zero] at s0
      have HAO:=mkHid hao
      clear hq hpc hrd hgl hb HOK HQB HQN hva hle hre hhl hhr hxn HOC
      subst hao
      generalize q.k = q0 at *
      generalize strN q.l = q1 at *
      generalize strN q.r = q2 at *
      generalize q.c = q3 at *
      have bx:=(Below.refl wr.heap.size wr).alloc (Nat.le_refl _) (.cells #[.int .i64 q0,.string q1,.string q2,.int .i64 q3,.slice xa xn xc] 25)
      have X1:Hid (HasV (wr.alloc (.cells #[.int .i64 q0,.string q1,.string q2,.int .i64 q3,.slice xa xn xc] 25)) wr.heap.size 25 [.int .i64 q0,.string q1,.string q2,.int .i64 q3,.slice xa xn xc]):=mkHid (heap_alloc_new _ _)
      have W1:=mkHid (hw.out.trans (bx.mono hw.out.size))
      clear bx hw
      go_upto_region 9 with (fail)
      clear s0 s1 s2 s3 s4
      generalize wr.alloc (.cells #[.int .i64 q0,.string q1,.string q2,.int .i64 q3,.slice xa xn xc] 25) = wx at *
      cases b with
      | false =>
       have HB2:=mkHid (HNX.out false rfl)
       go_wp2_with fail
       go_roundw
       case rel=>exact ⟨i + 1,false,by go_num,rfl,by omega,HB2,W1⟩
       case measure=>simp only [intOf]; omega
      | true =>
       go_wp2_with (refine wpList_load_wanted (by rfl) 25 (.tmp 12) rfl wr.heap.size (by rfl) 25 #[.int .i64 q0,.string q1,.string q2,.int .i64 q3,.slice xa xn xc] (0,0) _ X1.out Tryz.underlying25 rfl (inf_pred _ rfl) ?_)
       refine (HVA.out wx).mono ?_
       rintro e w5 ⟨rfl,b5⟩
       have W5:=mkHid (W1.out.trans (b5.mono W1.out.size))
       have X5:=mkHid (X1.out.step b5)
       clear b5 W1 X1 HVA
       have x1:=X5.out.cell 1 _ rfl
       have x2:=X5.out.cell 2 _ rfl
       cases va with
       | false =>
        have HB2:=mkHid (HNX.out false rfl)
        go_wp2_with fail
        go_roundw
        case rel=>exact ⟨i + 1,false,by go_num,rfl,by omega,HB2,W5⟩
        case measure=>simp only [intOf]; omega
       | true =>
        cases le with
        | true =>
         cases re with
         | true =>
          have HB2:=mkHid (HNX.out true (by rfl))
          go_wp2_with fail
          go_roundw
          case rel=>exact ⟨i + 1,true,by go_num,rfl,by omega,HB2,W5⟩
          case measure=>simp only [intOf]; omega
         | false =>
          go_wp2_with fail
          refine (HH2.out w5 W5.out).mono ?_
          rintro e w9 ⟨rfl,rfl⟩
          cases hr with
          | true =>
           have HB2:=mkHid (HNX.out true (by rfl))
           go_wp2_with fail
           go_roundw
           case rel=>exact ⟨i + 1,true,by go_num,rfl,by omega,HB2,W5⟩
           case measure=>simp only [intOf]; omega
          | false =>
           have HB2:=mkHid (HNX.out false (by rfl))
           go_wp2_with fail
           go_roundw
           case rel=>exact ⟨i + 1,false,by go_num,rfl,by omega,HB2,W5⟩
           case measure=>simp only [intOf]; omega
        | false =>
         go_wp2_with fail
         refine (HH1.out w5 W5.out).mono ?_
         rintro e w8 ⟨rfl,rfl⟩
         cases hl with
         | false =>
          have HB2:=mkHid (HNX.out false (by rfl))
          go_wp2_with fail
          go_roundw
          case rel=>exact ⟨i + 1,false,by go_num,rfl,by omega,HB2,W5⟩
          case measure=>simp only [intOf]; omega
         | true =>
          cases re with
          | true =>
           have HB2:=mkHid (HNX.out true (by rfl))
           go_wp2_with fail
           go_roundw
           case rel=>exact ⟨i + 1,true,by go_num,rfl,by omega,HB2,W5⟩
           case measure=>simp only [intOf]; omega
          | false =>
           go_wp2_with fail
           refine (HH2.out w5 W5.out).mono ?_
           rintro e w9 ⟨rfl,rfl⟩
           cases hr with
           | true =>
            have HB2:=mkHid (HNX.out true (by rfl))
            go_wp2_with fail
            go_roundw
            case rel=>exact ⟨i + 1,true,by go_num,rfl,by omega,HB2,W5⟩
            case measure=>simp only [intOf]; omega
           | false =>
            have HB2:=mkHid (HNX.out false (by rfl))
            go_wp2_with fail
            go_roundw
            case rel=>exact ⟨i + 1,false,by go_num,rfl,by omega,HB2,W5⟩
            case measure=>simp only [intOf]; omega
     ·have ii:¬ ((i:Int) < pn):=by omega
      have HBV:Hid (b = okC ns most ps):=mkHid (by rw [hb.out,List.take_of_length_le (by rw [← HPN.out]; omega),HOC.out])
      clear hb HOC
      go_wp2_with fail
      refine (HLE.out wr hw.out).mono ?_
      rintro e w5 ⟨ro,rc,rfl,b5⟩
      have W5:=mkHid (hw.out.trans (b5.mono hw.out.size))
      clear b5 hw HLE
      go_wp2_with fail
      refine (HCY.out w5 W5.out).mono ?_
      rintro e w6 ⟨so,sc,rfl,hf6,b6⟩
      have W6:=mkHid (W5.out.trans (b6.mono W5.out.size))
      have F6:=mkHid hf6
      clear b6 W5 HCY hf6
      go_wp2_with fail
      refine (HCN.out w6 W6.out list lo ln lc (HLR.out w6 W6.out) HLN.out (by omega)).mono ?_
      rintro e w7 ⟨rfl,b7⟩
      have W7:=mkHid (W6.out.trans (b7.mono W6.out.size))
      have F7:=mkHid (F6.out.below b7)
      clear b7 F6 W6
      cases b with
      | false =>
       obtain ⟨l1,l2,l3⟩:=HL2.out (HLW.out.2 HBV.out.symm)
       rw [l3 list]
       obtain rfl:ok = false:=by rw [← HOV.out,l1]; rfl
       obtain rfl:lk = 0:=by rw [← HLV.out,l1]; rfl
       obtain rfl:is = false:=by rw [← HIV.out,l2]; rfl
       obtain rfl:cl = []:=by rw [← HCV.out,l2]; rfl
       obtain rfl:cm = 0:=HCM.out.symm
       clear l1 l2 l3 HL1 HL2 HLW HBV HOV HLV HIV HCV HCM F7
       go_wp2
       go_ret
       exact ⟨rfl,W7.out⟩
      | true =>
       obtain ⟨cs,hcs⟩:=HLW.out.1 HBV.out.symm
       rcases HL1.out cs hcs with ⟨v,l1,l2,l3⟩ | ⟨c,l1,l2,l3,l4⟩
       ·rw [l3 list]
        obtain rfl:ok = true:=by rw [← HOV.out,l1]; rfl
        obtain rfl:lk = n:=by rw [← HLV.out,l1,HN.out]; rfl
        obtain rfl:is = false:=by rw [← HIV.out,l2]; rfl
        obtain rfl:cl = []:=by rw [← HCV.out,l2]; rfl
        obtain rfl:cm = 0:=HCM.out.symm
        have nb:((lk:Int) != (lk:Int)) = false:=by simp
        clear l1 l2 l3 HL1 HL2 HLW HBV HOV HLV HIV HCV HCM F7 hcs
        go_wp2
        go_ret
        exact ⟨rfl,W7.out⟩
       ·obtain rfl:ok = false:=by rw [← HOV.out,l1]; rfl
        obtain rfl:lk = 0:=by rw [← HLV.out,l1]; rfl
        obtain rfl:is = true:=by rw [← HIV.out,l2]; rfl
        obtain rfl:cl = c:=by rw [← HCV.out,l2]; rfl
        have hcn:=HCM.out
        have hnn:=HN.out
        obtain ⟨av,hav⟩:∃ b,askContr ns most ps list = b:=⟨_,rfl⟩
        rw [hav]
        have HC2:=mkHid (HCN.out w7 W7.out cl so cm sc F7.out HCM.out.symm (by omega))
        rw [l4] at HC2
        have m1:(cm:Int)≤(n:Int) + 1:=by omega
        have e9:IntKind.i64.wrap ((n:Int) + 1) = (n:Int) + 1:=IntWalk.i64_in _ (by omega)
        clear l1 l2 l3 l4 HL1 HL2 HLW HBV HOV HLV HIV HCV F7 hcs hav hcn hnn
        cases av with
        | true =>
         go_wp2_with fail
         refine HC2.out.mono ?_
         rintro e w8 ⟨rfl,b8⟩
         have W8:=mkHid (W7.out.trans (b8.mono W7.out.size))
         clear b8
         go_wp2
         go_ret
         exact ⟨rfl,W8.out⟩
        | false =>
         go_wp2_with fail
         refine HC2.out.mono ?_
         rintro e w8 ⟨rfl,b8⟩
         have W8:=mkHid (W7.out.trans (b8.mono W7.out.size))
         clear b8
         go_wp2
         go_ret
         exact ⟨rfl,W8.out⟩
end Go.Proofs.YtmkdfbelbcocpaaGreatDoor
