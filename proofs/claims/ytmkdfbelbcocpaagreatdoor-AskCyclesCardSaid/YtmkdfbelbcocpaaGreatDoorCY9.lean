import Derived.Deep.Cut
import Derived.Test.YtmkdfbelbcocpaaGreatDoorCY8
set_option linter.unusedVariables false
set_option linter.unusedSimpArgs false
namespace Go.Proofs.YtmkdfbelbcocpaaGreatDoor
open Go.RowKit
def idxW (w:World) (R:Nat):Nat:=match w.cell? ⟨R,1,none⟩ with
 | some (.int _ x)=>x.toNat
 | _=>0
theorem heap_alloc2_old (w:World) (a b:Obj):((w.alloc a).alloc b).heap[w.heap.size]? = some a:=by
 rw [Below.heap_alloc (w.alloc a) b w.heap.size (by simp)]; exact heap_alloc_new w a
theorem ParW.idx {w:World} {R cap sz i:Nat} {ao:Option Addr} {ts:List Tok} (h:ParW w R ao cap ts sz i):idxW w R = i:=by
 unfold idxW; rw [h.cells.2.1]; simp
set_option maxHeartbeats 8000000 in
set_option maxRecDepth 100000 in
theorem list_unit (w:World) (R:Nat) (ao:Option Addr) (cap:Nat) (ts:List Tok) (sz i0 B:Nat) (κ:Int) (word:List Nat) (el:Nat→PR Prd) (hT:Tab w B) (hR:B≤R) (h:ParW w R ao cap ts sz i0) (hi:i0≤ts.length) (hn:ts.length≤1000000) (hts:∀ t∈ts,TokOk t) (hword:∀ y∈word,y < 256) (hgo:Goes ts.length el)
  (hel:∀ (i:Nat) (w:World),i0≤i→i≤ts.length→Tab w B→ParW w R ao cap ts sz i→Calls Tryz.prog 203 #[.pointer (some ⟨R,0,none⟩)] w fun e w'=>PredR w R ao cap ts sz (el i) e w') :
  Calls Tryz.prog 137 #[.pointer (some ⟨R,0,none⟩),.int .i64 κ,.string (strN word),Value.func (.func 203) #[.pointer (some ⟨R,0,none⟩)] #[]] w fun e w' =>
   PredR w R ao cap ts sz ((listP ts word el (ts.length + 1) i0 []).bind (fun r=>.ok (oneP κ r.1,r.2))) e w':=by
 obtain ⟨V,hV⟩:∃ V,(listP ts word el (ts.length + 1) i0 []).bind (fun r=>(.ok (oneP κ r.1,r.2):PR Prd)) = V:=⟨_,rfl⟩
 rw [hV]
 have HV:=mkHid hV.symm
 clear hV
 have Z1:Hid (HasV ((w.alloc (.cells #[.int .i64 0,.string ⟨#[]⟩,.string ⟨#[]⟩,.int .i64 0,.slice none 0 0] 25)).alloc (.cells #[.int .i64 κ,.string ⟨#[]⟩,.string ⟨#[]⟩,.int .i64 0,.slice none 0 0] 25)) w.heap.size 25 pred0):=mkHid (heap_alloc2_old w _ _)
 have S1:Hid (HasV ((w.alloc (.cells #[.int .i64 0,.string ⟨#[]⟩,.string ⟨#[]⟩,.int .i64 0,.slice none 0 0] 25)).alloc (.cells #[.int .i64 κ,.string ⟨#[]⟩,.string ⟨#[]⟩,.int .i64 0,.slice none 0 0] 25)) (w.heap.size + 1) 25 (kidV κ 0 none 0 0)):=mkHid (heap_alloc2_new w _ _)
 have D1:=mkHid (((Below.refl w.heap.size w).alloc (Nat.le_refl _) (.cells #[.int .i64 0,.string ⟨#[]⟩,.string ⟨#[]⟩,.int .i64 0,.slice none 0 0] 25)).alloc (by simp) (.cells #[.int .i64 κ,.string ⟨#[]⟩,.string ⟨#[]⟩,.int .i64 0,.slice none 0 0] 25))
 have H0:=mkHid h
 have HT:=mkHid hT
 have HTS:=mkHid hts
 have HEL:=mkHid hel
 have HGO:=mkHid hgo
 have RL:=mkHid h.lt
 clear h hT hts hel hgo
 go_enter Tryz.func137,Tryz.ntmps137
 go_wp2_with fail
 generalize (w.alloc (.cells #[.int .i64 0,.string ⟨#[]⟩,.string ⟨#[]⟩,.int .i64 0,.slice none 0 0] 25)).alloc (.cells #[.int .i64 κ,.string ⟨#[]⟩,.string ⟨#[]⟩,.int .i64 0,.slice none 0 0] 25) = w1 at *
 obtain ⟨A,hA⟩:∃ A,w.heap.size + 1 = A:=⟨_,rfl⟩
 rw [hA] at S1 ⊢
 have HA:Hid (A = w.heap.size + 1):=mkHid hA.symm
 clear hA
 go_loopw [10] (fun c wr=>∃ (b:Bool) (j f k cp:Nat) (ao2:Option Addr) (ps:List Prd) (vss:List (List Value)),c = .bool b∧i0≤j∧j≤ts.length∧k≤j ∧
   Hid (HasV wr A 25 (kidV κ 0 ao2 k cp))∧Hid (HasV wr w.heap.size 25 pred0) ∧
   Hid (KidsM w wr (A + 1) (fun g=>g = w.heap.size∨g = A) ao2 k cp ps vss)∧Hid (ParW wr R ao cap ts sz j)∧Hid (Only w wr (· = R)) ∧
   Hid (b = true→V = (listP ts word el f j ps).bind (fun r=>(.ok (oneP κ r.1,r.2):PR Prd))∧ts.length - j < f)∧Hid (b = false→V = .ok (oneP κ ps,j))) (fun _ wr=>ts.length + 1 - idxW wr R)
 case atStart=>exact ⟨true,i0,ts.length + 1,0,0,none,[],[],rfl,by omega,hi,by omega,S1,Z1,mkHid (KidsM.nil _ _ _ _),mkHid (H0.out.step D1.out),mkHid (Only.of_below D1.out),mkHid (fun _=>⟨HV.out,by omega⟩),mkHid (fun e=>by cases e)⟩
 case round =>
  clear S1 Z1 D1
  obtain ⟨b,j,f,k,cp,ao2,ps,vss,rfl,hij,hj,hkj,hs,hz,hk,hp,ho,hv1,hv0⟩:=hrel
  have RA:Hid (R < A):=mkHid (by have:=HA.out; have:=RL.out; omega)
  cases b with
  | false =>
   have HF:=mkHid (hv0.out rfl)
   clear hv1 hv0
   have c4:=hs.out.cell 4 _ rfl
   by_cases hk1:k = 1
   ·have HP1:Hid (∃ p,ps = [p]):=mkHid (by
     have:=hk.out.cnt
     cases ps with
     | nil=>simp at this; omega
     | cons p l=>cases l with
      | nil=>exact ⟨p,rfl⟩
      | cons q l=>simp at this; omega)
    obtain ⟨p,hps⟩:=HP1.out
    have HP2:=mkHid hps
    clear HP1
    rw [hps] at hk HF
    clear hps
    obtain ⟨vs,g,off,hvs,rfl,hrd,hpc,hl5⟩:=hk.out.one
    have HVS:=mkHid hvs
    have HRD:=mkHid hrd
    have HPC:=mkHid hpc
    have HL5:=mkHid hl5
    clear hvs hrd hpc hl5
    subst hk1
    go_wp2_with (first
     | (refine wpList_load_cells rfl 25 (.tmp 30) rfl g off ?x1 vs _ HRD.out Tryz.underlying25 rfl ?x2 ?_; (case x1=>rfl); (case x2=>(have h5:=inf_pred vs HL5.out; rw [List.size_toArray] at h5; exact h5)))
     | (refine wpList_store_abs rfl 25 (.tmp 8) (.tmp 31) rfl w.heap.size vs.toArray ?s1 ?s2 25 _ hz.out (inf_pred _ HL5.out) ?s3 (HPC.out.one) ?_; (case s1=>rfl); (case s2=>rfl); (case s3=>rw [List.size_toArray,List.size_toArray,HL5.out]; rfl); intro w9 s9 u9; have S9:=mkHid s9; have U9:=mkHid u9; clear s9 u9))
    exact bodyPost_ret (results_cell_row (p:=8) (by kernel_rfl) _ _ w.heap.size 25 vs.toArray (0,0) _ rfl S9.out Tryz.underlying25 rfl (inf_pred _ HL5.out)) rfl (parR_ok HF.out (ho.out.updNew U9.out (Nat.le_refl _)) rfl ⟨vs,rfl,(HPC.out.upd U9.out (fun hh=>hh.2.1 (.inl rfl))).mono (fun g hg _=>hg.1)⟩ (H0.out.upd hp.out U9.out (Nat.le_refl _)))
   ·have HK1:Hid (oneP κ ps = .mk κ [] [] 0 ps):=mkHid (by
     have:=hk.out.cnt
     cases ps with
     | nil=>rfl
     | cons p l=>cases l with
      | nil=>simp at this; omega
      | cons q l=>rfl)
    rw [HK1.out] at HF
    have k1:((k:Int) == 1) = false:=by rw [beq_eq_false_iff_ne]; omega
    have k2:¬ ((k:Int) = 1):=by omega
    clear hk1 HK1
    go_wp2_with (first
     | (refine wpList_load_row rfl 25 (.tmp 9) rfl A ?x1 25 (kidV κ 0 ao2 k cp).toArray (0,0) _ hs.out Tryz.underlying25 rfl (inf_pred _ rfl) ?_; (case x1=>rfl))
     | (refine wpList_store_abs rfl 25 (.tmp 8) (.tmp 32) rfl w.heap.size (kidV κ 0 ao2 k cp).toArray ?s1 ?s2 25 _ hz.out (inf_pred _ rfl) rfl (kidV_one _ _ _ _ _) ?_; (case s1=>rfl); (case s2=>rfl); intro w9 s9 u9; have S9:=mkHid s9; have U9:=mkHid u9; clear s9 u9))
    have K9:=hk.out.upd U9.out (.inl rfl) (fun e=>by have:=(hk.out.own.blk_lt e).1; have:=HA.out; omega)
    exact bodyPost_ret (results_cell_row (p:=8) (by kernel_rfl) _ _ w.heap.size 25 (kidV κ 0 ao2 k cp).toArray (0,0) _ rfl S9.out Tryz.underlying25 rfl (inf_pred _ rfl)) rfl (parR_ok HF.out (ho.out.updNew U9.out (Nat.le_refl _)) rfl ⟨_,rfl,K9.predV (by have:=HA.out; omega) κ 0⟩ (H0.out.upd hp.out U9.out (Nat.le_refl _)))
  | true =>
   have HF:=mkHid (hv1.out rfl)
   clear hv1 hv0
   have c4:=hs.out.cell 4 _ rfl
   go_upto_region 5 with (fail)
   refine wp_region_pick [0,1,2] [3,4,5,6,7] (fun w'=>w'.cell? ⟨A,4,none⟩ = some (.slice ao2 k cp)) (by kernel_rfl) (by kernel_rfl) (by kernel_rfl) (fun _ _ d _ _ h=>by cases d <;> exact h) c4 ?_
   simp only [pickI,List.filterMap_cons,List.filterMap_nil,List.getElem?_cons_zero,List.getElem?_cons_succ,Option.map_some,List.map_cons,List.map_nil]
   apply Exists.intro
   refine ⟨?hh,?ht⟩
   case hh =>
    intro w' hw'
    repeat still_step
    exact wpStill_nil rfl
   case ht =>
    have BD:Below wr.heap.size wr wr.drew:=(Below.refl wr.heap.size wr).drew
    have ZD:Hid (wr.drew.heap.size = wr.heap.size):=mkHid rfl
    have hs1:=mkHid (hs.out.step BD)
    have hz1:=mkHid (hz.out.step BD)
    have hk1:=mkHid (hk.out.step BD)
    have hp1:=mkHid (hp.out.step BD)
    have ho1:=mkHid (ho.out.step BD)
    have HID:=mkHid hp.out.idx
    have WS:Hid (A < wr.heap.size):=mkHid hs.out.lt
    have T1:=mkHid (HT.out.onlyR ho1.out hR)
    clear BD c4 hs hz hk hp ho
    generalize wr.drew = wd at *
    have c4:=hs1.out.cell 4 _ rfl
    refine wpTailT_cons ?_
    go_wp2_with fail
    refine (HEL.out j wd hij hj T1.out hp1.out).mono ?_
    rintro e w2 ⟨o2,hr⟩
    have hf0:∃ f',f = f' + 1:=⟨f - 1,by have:=HF.out.2; omega⟩
    obtain ⟨f',rfl⟩:=hf0
    cases hej:el j with
    | error x =>
     rw [hej] at hr
     have HVX:Hid (V = .error x):=mkHid (by rw [HF.out.1,listP,hej]; rfl)
     have O2:=mkHid (ho1.out.trans o2)
     clear o2 hej
     subst hr
     unfold failE
     go_wp2
     exact ⟨rfl,parR_no HVX.out O2.out rfl⟩
    | ok r =>
     rw [hej] at hr
     obtain ⟨p,j2⟩:=r
     obtain ⟨⟨v,rfl,vs,rfl,hpc⟩,hp2⟩:=hr
     have hgo:=HGO.out j (p,j2) hej
     have HF2:Hid (V = (if isP ts word j2 = true then listP ts word el f' (j2 + 1) (ps ++ [p]) else .ok (ps ++ [p],j2)).bind (fun r=>(.ok (oneP κ r.1,r.2):PR Prd))):=mkHid (by rw [HF.out.1,listP,hej]; rfl)
     have HFF:Hid (ts.length - j < f' + 1):=mkHid HF.out.2
     have O2:=mkHid (ho1.out.trans o2)
     have RW:Hid (R < w.heap.size):=RL
     have S2:=mkHid (hs1.out.only o2 (by have:=RA.out; omega))
     have Z2:=mkHid (hz1.out.only o2 (by have:=RW.out; omega))
     have K2:=mkHid (hk1.out.only o2 RW.out (by have:=HA.out; omega))
     have P2:=mkHid hp2
     have T2:=mkHid (T1.out.onlyR o2 hR)
     have L2:Hid (wd.heap.size≤w2.heap.size):=mkHid o2.size
     have PC:=mkHid hpc
     have WD:Hid (A < wd.heap.size):=mkHid hs1.out.lt
     clear HF hej o2 hp2 hpc c4
     go_wp2_with fail
     have c2:=S2.out.cell 4 _ rfl
     refine postOf_normal ⟨c2,?_⟩
     refine wpTailT_cons ?_
     have hl5:vs.length = 5:=PC.out.len
     have hfd:=fold5 #[.int .i64 0,.string ⟨#[]⟩,.string ⟨#[]⟩,.int .i64 0,.slice none 0 0] rfl vs hl5
     go_wp2_with fail
     refine postOf_normal ⟨(((Below.refl w2.heap.size w2).alloc (Nat.le_refl _) (.cells vs.toArray 25)).cell (p:=⟨A,4,none⟩) S2.out.lt).trans c2,?_⟩
     clear c2
     refine wpTailT_cons ?_
     go_wp2_with (at_builtin; refine app_k 23 25 predZ 5 72 Tryz.underlying23 info_pred rfl (by omega) (by omega) w2 (A + 1) rfl (.tmp 18) (.tmp 21) rfl ao2 cp k vss.flatten ?q1 K2.out.own S2.out.lt 1 1 vs.toArray 25 ?q2 ?q6 (by omega) PC.out.ones ?q4 ?_; (case q1=>rfl); (case q2=>rfl); (case q6=>rw [List.size_toArray,hl5]); (case q4=>omega); intro g5 off5 c5 wa o8 gr8 b8 or8; have O8:=mkHid o8; have GR8:=mkHid gr8; have B8:=mkHid b8; have OR8:=mkHid or8; clear o8 gr8 b8 or8)
     have KA:=mkHid (KidsM.add hk1.out K2.out (by have:=WD.out; have:=HA.out; omega) (fun g hg=>by have:=WD.out; have:=HA.out; rcases hg with h | h <;> omega) PC.out O8.out GR8.out OR8.out)
     have SA:=mkHid (S2.out.below B8.out (Nat.lt_succ_self A))
     have ZA:=mkHid (Z2.out.below B8.out (by have:=HA.out; omega))
     have BB8:=mkHid (B8.out.mono (B':=w.heap.size) (by have:=HA.out; omega))
     have PA:=mkHid (H0.out.below P2.out BB8.out)
     have OA:=mkHid (O2.out.belowB BB8.out)
     have TA:=mkHid (T2.out.below B8.out (by have:=RA.out; omega))
     clear K2 S2 Z2 P2 O2 T2 GR8 OR8 B8 BB8 hs1 hz1 hk1 hp1 ho1 T1 PC
     refine postOf_normal ⟨SA.out.cell 4 _ rfl,?_⟩
     refine wpTailT_cons ?_
     go_wp2_with fail
     refine postOf_normal ⟨SA.out.cell 4 _ rfl,?_⟩
     refine wpTailT_one ?_
     have m4:=SA.out.cell 4 _ rfl
     have f4:=SA.out.warm 4
     go_wp2_with fail
     clear m4 f4
     have U5:=mkHid (upd_setCell wa ⟨A,4,none⟩ (.slice (some ⟨g5,off5,none⟩) (k + 1) c5))
     have S5:Hid (HasV (wa.setCell ⟨A,4,none⟩ (.slice (some ⟨g5,off5,none⟩) (k + 1) c5)) A 25 (kidV κ 0 (some ⟨g5,off5,none⟩) (k + 1) c5)):=mkHid (SA.out.set 4 _)
     have Z5:=mkHid (ZA.out.upd U5.out (by show w.heap.size ≠ A; have:=HA.out; omega))
     have K5:=mkHid (KA.out.upd U5.out (.inr rfl) (fun e=>by have:=(KA.out.own.blk_lt e).1; have:A + 1≤A:=this; omega))
     have P5:=mkHid (H0.out.upd PA.out U5.out (by show w.heap.size≤A; have:=HA.out; omega))
     have O5:=mkHid (OA.out.updNew U5.out (by show w.heap.size≤A; have:=HA.out; omega))
     have T5:=mkHid (TA.out.below (Below.upd (B:=A) U5.out (Nat.le_refl _)) (by have:=RA.out; omega))
     clear SA ZA KA PA OA TA U5 O8
     generalize wa.setCell ⟨A,4,none⟩ (.slice (some ⟨g5,off5,none⟩) (k + 1) c5) = w5 at *
     cases hw:isP ts word j2 with
     | false =>
      refine (skip_no w5 R ao cap ts sz j2 word P5.out hgo.2 hn HTS.out hword hw).mono ?_
      have HX:Hid (V = .ok (oneP κ (ps ++ [p]),j2)):=mkHid (by rw [HF2.out,if_neg (by rw [hw]; simp)]; rfl)
      rintro e w6 ⟨rfl,b6⟩
      have S6:=mkHid (S5.out.step b6)
      have Z6:=mkHid (Z5.out.step b6)
      have K6:=mkHid (K5.out.step b6)
      have P6:=mkHid (P5.out.step b6)
      have O6:=mkHid (O5.out.step b6)
      clear b6 S5 Z5 K5 P5 O5 T5 hw HF2
      go_wp2
      go_roundw
      case rel=>exact ⟨false,j2,0,k + 1,c5,some ⟨g5,off5,none⟩,ps ++ [p],vss ++ [vs],rfl,by omega,by omega,by omega,S6,Z6,K6,P6,O6,mkHid (fun e=>by cases e),mkHid (fun _=>HX.out)⟩
      case measure=>rw [P6.out.idx,HID.out]; omega
     | true =>
      have hlt:=isP_lt hw
      refine (skip_yes w5 R ao cap ts sz j2 word P5.out hn HTS.out hword hw).mono ?_
      have HX:Hid (V = (listP ts word el f' (j2 + 1) (ps ++ [p])).bind (fun r=>(.ok (oneP κ r.1,r.2):PR Prd))):=mkHid (by rw [HF2.out,if_pos hw])
      rintro e w6 ⟨rfl,p6,o6⟩
      have S6:=mkHid (S5.out.only o6 (by have:=RA.out; omega))
      have Z6:=mkHid (Z5.out.only o6 (by have:=RW.out; omega))
      have K6:=mkHid (K5.out.only o6 RW.out (by have:=HA.out; omega))
      have P6:=mkHid p6
      have O6:=mkHid (O5.out.trans o6)
      clear p6 o6 S5 Z5 K5 P5 O5 T5 hw HF2
      go_wp2
      go_roundw
      case rel=>exact ⟨true,j2 + 1,f',k + 1,c5,some ⟨g5,off5,none⟩,ps ++ [p],vss ++ [vs],rfl,by omega,by omega,by omega,S6,Z6,K6,P6,O6,mkHid (fun _=>⟨HX.out,by have:=HFF.out; omega⟩),mkHid (fun e=>by cases e)⟩
      case measure=>rw [P6.out.idx,HID.out]; omega
end Go.Proofs.YtmkdfbelbcocpaaGreatDoor
namespace Go.Proofs.YtmkdfbelbcocpaaGreatDoor
open Go.RowKit
set_option maxHeartbeats 8000000 in
set_option maxRecDepth 100000 in
theorem list_all (w:World) (R:Nat) (ao:Option Addr) (cap:Nat) (ts:List Tok) (sz i0 B:Nat) (κ:Int) (word:List Nat) (el:Nat→PR Prd) (hT:Tab w B) (hR:B≤R) (h:ParW w R ao cap ts sz i0) (hi:i0≤ts.length) (hn:ts.length≤1000000) (hts:∀ t∈ts,TokOk t) (hword:∀ y∈word,y < 256) (hgo:Goes ts.length el)
  (hel:∀ (i:Nat) (w:World),i0≤i→i≤ts.length→Tab w B→ParW w R ao cap ts sz i→Calls Tryz.prog 138 #[.pointer (some ⟨R,0,none⟩)] w fun e w'=>PredR w R ao cap ts sz (el i) e w') :
  Calls Tryz.prog 137 #[.pointer (some ⟨R,0,none⟩),.int .i64 κ,.string (strN word),Value.func (.func 138) #[.pointer (some ⟨R,0,none⟩)] #[]] w fun e w' =>
   PredR w R ao cap ts sz ((listP ts word el (ts.length + 1) i0 []).bind (fun r=>.ok (oneP κ r.1,r.2))) e w':=by
 obtain ⟨V,hV⟩:∃ V,(listP ts word el (ts.length + 1) i0 []).bind (fun r=>(.ok (oneP κ r.1,r.2):PR Prd)) = V:=⟨_,rfl⟩
 rw [hV]
 have HV:=mkHid hV.symm
 clear hV
 have Z1:Hid (HasV ((w.alloc (.cells #[.int .i64 0,.string ⟨#[]⟩,.string ⟨#[]⟩,.int .i64 0,.slice none 0 0] 25)).alloc (.cells #[.int .i64 κ,.string ⟨#[]⟩,.string ⟨#[]⟩,.int .i64 0,.slice none 0 0] 25)) w.heap.size 25 pred0):=mkHid (heap_alloc2_old w _ _)
 have S1:Hid (HasV ((w.alloc (.cells #[.int .i64 0,.string ⟨#[]⟩,.string ⟨#[]⟩,.int .i64 0,.slice none 0 0] 25)).alloc (.cells #[.int .i64 κ,.string ⟨#[]⟩,.string ⟨#[]⟩,.int .i64 0,.slice none 0 0] 25)) (w.heap.size + 1) 25 (kidV κ 0 none 0 0)):=mkHid (heap_alloc2_new w _ _)
 have D1:=mkHid (((Below.refl w.heap.size w).alloc (Nat.le_refl _) (.cells #[.int .i64 0,.string ⟨#[]⟩,.string ⟨#[]⟩,.int .i64 0,.slice none 0 0] 25)).alloc (by simp) (.cells #[.int .i64 κ,.string ⟨#[]⟩,.string ⟨#[]⟩,.int .i64 0,.slice none 0 0] 25))
 have H0:=mkHid h
 have HT:=mkHid hT
 have HTS:=mkHid hts
 have HEL:=mkHid hel
 have HGO:=mkHid hgo
 have RL:=mkHid h.lt
 clear h hT hts hel hgo
 go_enter Tryz.func137,Tryz.ntmps137
 go_wp2_with fail
 generalize (w.alloc (.cells #[.int .i64 0,.string ⟨#[]⟩,.string ⟨#[]⟩,.int .i64 0,.slice none 0 0] 25)).alloc (.cells #[.int .i64 κ,.string ⟨#[]⟩,.string ⟨#[]⟩,.int .i64 0,.slice none 0 0] 25) = w1 at *
 obtain ⟨A,hA⟩:∃ A,w.heap.size + 1 = A:=⟨_,rfl⟩
 rw [hA] at S1 ⊢
 have HA:Hid (A = w.heap.size + 1):=mkHid hA.symm
 clear hA
 go_loopw [10] (fun c wr=>∃ (b:Bool) (j f k cp:Nat) (ao2:Option Addr) (ps:List Prd) (vss:List (List Value)),c = .bool b∧i0≤j∧j≤ts.length∧k≤j ∧
   Hid (HasV wr A 25 (kidV κ 0 ao2 k cp))∧Hid (HasV wr w.heap.size 25 pred0) ∧
   Hid (KidsM w wr (A + 1) (fun g=>g = w.heap.size∨g = A) ao2 k cp ps vss)∧Hid (ParW wr R ao cap ts sz j)∧Hid (Only w wr (· = R)) ∧
   Hid (b = true→V = (listP ts word el f j ps).bind (fun r=>(.ok (oneP κ r.1,r.2):PR Prd))∧ts.length - j < f)∧Hid (b = false→V = .ok (oneP κ ps,j))) (fun _ wr=>ts.length + 1 - idxW wr R)
 case atStart=>exact ⟨true,i0,ts.length + 1,0,0,none,[],[],rfl,by omega,hi,by omega,S1,Z1,mkHid (KidsM.nil _ _ _ _),mkHid (H0.out.step D1.out),mkHid (Only.of_below D1.out),mkHid (fun _=>⟨HV.out,by omega⟩),mkHid (fun e=>by cases e)⟩
 case round =>
  clear S1 Z1 D1
  obtain ⟨b,j,f,k,cp,ao2,ps,vss,rfl,hij,hj,hkj,hs,hz,hk,hp,ho,hv1,hv0⟩:=hrel
  have RA:Hid (R < A):=mkHid (by have:=HA.out; have:=RL.out; omega)
  cases b with
  | false =>
   have HF:=mkHid (hv0.out rfl)
   clear hv1 hv0
   have c4:=hs.out.cell 4 _ rfl
   by_cases hk1:k = 1
   ·have HP1:Hid (∃ p,ps = [p]):=mkHid (by
     have:=hk.out.cnt
     cases ps with
     | nil=>simp at this; omega
     | cons p l=>cases l with
      | nil=>exact ⟨p,rfl⟩
      | cons q l=>simp at this; omega)
    obtain ⟨p,hps⟩:=HP1.out
    have HP2:=mkHid hps
    clear HP1
    rw [hps] at hk HF
    clear hps
    obtain ⟨vs,g,off,hvs,rfl,hrd,hpc,hl5⟩:=hk.out.one
    have HVS:=mkHid hvs
    have HRD:=mkHid hrd
    have HPC:=mkHid hpc
    have HL5:=mkHid hl5
    clear hvs hrd hpc hl5
    subst hk1
    go_wp2_with (first
     | (refine wpList_load_cells rfl 25 (.tmp 30) rfl g off ?x1 vs _ HRD.out Tryz.underlying25 rfl ?x2 ?_; (case x1=>rfl); (case x2=>(have h5:=inf_pred vs HL5.out; rw [List.size_toArray] at h5; exact h5)))
     | (refine wpList_store_abs rfl 25 (.tmp 8) (.tmp 31) rfl w.heap.size vs.toArray ?s1 ?s2 25 _ hz.out (inf_pred _ HL5.out) ?s3 (HPC.out.one) ?_; (case s1=>rfl); (case s2=>rfl); (case s3=>rw [List.size_toArray,List.size_toArray,HL5.out]; rfl); intro w9 s9 u9; have S9:=mkHid s9; have U9:=mkHid u9; clear s9 u9))
    exact bodyPost_ret (results_cell_row (p:=8) (by kernel_rfl) _ _ w.heap.size 25 vs.toArray (0,0) _ rfl S9.out Tryz.underlying25 rfl (inf_pred _ HL5.out)) rfl (parR_ok HF.out (ho.out.updNew U9.out (Nat.le_refl _)) rfl ⟨vs,rfl,(HPC.out.upd U9.out (fun hh=>hh.2.1 (.inl rfl))).mono (fun g hg _=>hg.1)⟩ (H0.out.upd hp.out U9.out (Nat.le_refl _)))
   ·have HK1:Hid (oneP κ ps = .mk κ [] [] 0 ps):=mkHid (by
     have:=hk.out.cnt
     cases ps with
     | nil=>rfl
     | cons p l=>cases l with
      | nil=>simp at this; omega
      | cons q l=>rfl)
    rw [HK1.out] at HF
    have k1:((k:Int) == 1) = false:=by rw [beq_eq_false_iff_ne]; omega
    have k2:¬ ((k:Int) = 1):=by omega
    clear hk1 HK1
    go_wp2_with (first
     | (refine wpList_load_row rfl 25 (.tmp 9) rfl A ?x1 25 (kidV κ 0 ao2 k cp).toArray (0,0) _ hs.out Tryz.underlying25 rfl (inf_pred _ rfl) ?_; (case x1=>rfl))
     | (refine wpList_store_abs rfl 25 (.tmp 8) (.tmp 32) rfl w.heap.size (kidV κ 0 ao2 k cp).toArray ?s1 ?s2 25 _ hz.out (inf_pred _ rfl) rfl (kidV_one _ _ _ _ _) ?_; (case s1=>rfl); (case s2=>rfl); intro w9 s9 u9; have S9:=mkHid s9; have U9:=mkHid u9; clear s9 u9))
    have K9:=hk.out.upd U9.out (.inl rfl) (fun e=>by have:=(hk.out.own.blk_lt e).1; have:=HA.out; omega)
    exact bodyPost_ret (results_cell_row (p:=8) (by kernel_rfl) _ _ w.heap.size 25 (kidV κ 0 ao2 k cp).toArray (0,0) _ rfl S9.out Tryz.underlying25 rfl (inf_pred _ rfl)) rfl (parR_ok HF.out (ho.out.updNew U9.out (Nat.le_refl _)) rfl ⟨_,rfl,K9.predV (by have:=HA.out; omega) κ 0⟩ (H0.out.upd hp.out U9.out (Nat.le_refl _)))
  | true =>
   have HF:=mkHid (hv1.out rfl)
   clear hv1 hv0
   have c4:=hs.out.cell 4 _ rfl
   go_upto_region 5 with (fail)
   refine wp_region_pick [0,1,2] [3,4,5,6,7] (fun w'=>w'.cell? ⟨A,4,none⟩ = some (.slice ao2 k cp)) (by kernel_rfl) (by kernel_rfl) (by kernel_rfl) (fun _ _ d _ _ h=>by cases d <;> exact h) c4 ?_
   simp only [pickI,List.filterMap_cons,List.filterMap_nil,List.getElem?_cons_zero,List.getElem?_cons_succ,Option.map_some,List.map_cons,List.map_nil]
   apply Exists.intro
   refine ⟨?hh,?ht⟩
   case hh =>
    intro w' hw'
    repeat still_step
    exact wpStill_nil rfl
   case ht =>
    have BD:Below wr.heap.size wr wr.drew:=(Below.refl wr.heap.size wr).drew
    have ZD:Hid (wr.drew.heap.size = wr.heap.size):=mkHid rfl
    have hs1:=mkHid (hs.out.step BD)
    have hz1:=mkHid (hz.out.step BD)
    have hk1:=mkHid (hk.out.step BD)
    have hp1:=mkHid (hp.out.step BD)
    have ho1:=mkHid (ho.out.step BD)
    have HID:=mkHid hp.out.idx
    have WS:Hid (A < wr.heap.size):=mkHid hs.out.lt
    have T1:=mkHid (HT.out.onlyR ho1.out hR)
    clear BD c4 hs hz hk hp ho
    generalize wr.drew = wd at *
    have c4:=hs1.out.cell 4 _ rfl
    refine wpTailT_cons ?_
    go_wp2_with fail
    refine (HEL.out j wd hij hj T1.out hp1.out).mono ?_
    rintro e w2 ⟨o2,hr⟩
    have hf0:∃ f',f = f' + 1:=⟨f - 1,by have:=HF.out.2; omega⟩
    obtain ⟨f',rfl⟩:=hf0
    cases hej:el j with
    | error x =>
     rw [hej] at hr
     have HVX:Hid (V = .error x):=mkHid (by rw [HF.out.1,listP,hej]; rfl)
     have O2:=mkHid (ho1.out.trans o2)
     clear o2 hej
     subst hr
     unfold failE
     go_wp2
     exact ⟨rfl,parR_no HVX.out O2.out rfl⟩
    | ok r =>
     rw [hej] at hr
     obtain ⟨p,j2⟩:=r
     obtain ⟨⟨v,rfl,vs,rfl,hpc⟩,hp2⟩:=hr
     have hgo:=HGO.out j (p,j2) hej
     have HF2:Hid (V = (if isP ts word j2 = true then listP ts word el f' (j2 + 1) (ps ++ [p]) else .ok (ps ++ [p],j2)).bind (fun r=>(.ok (oneP κ r.1,r.2):PR Prd))):=mkHid (by rw [HF.out.1,listP,hej]; rfl)
     have HFF:Hid (ts.length - j < f' + 1):=mkHid HF.out.2
     have O2:=mkHid (ho1.out.trans o2)
     have RW:Hid (R < w.heap.size):=RL
     have S2:=mkHid (hs1.out.only o2 (by have:=RA.out; omega))
     have Z2:=mkHid (hz1.out.only o2 (by have:=RW.out; omega))
     have K2:=mkHid (hk1.out.only o2 RW.out (by have:=HA.out; omega))
     have P2:=mkHid hp2
     have T2:=mkHid (T1.out.onlyR o2 hR)
     have L2:Hid (wd.heap.size≤w2.heap.size):=mkHid o2.size
     have PC:=mkHid hpc
     have WD:Hid (A < wd.heap.size):=mkHid hs1.out.lt
     clear HF hej o2 hp2 hpc c4
     go_wp2_with fail
     have c2:=S2.out.cell 4 _ rfl
     refine postOf_normal ⟨c2,?_⟩
     refine wpTailT_cons ?_
     have hl5:vs.length = 5:=PC.out.len
     have hfd:=fold5 #[.int .i64 0,.string ⟨#[]⟩,.string ⟨#[]⟩,.int .i64 0,.slice none 0 0] rfl vs hl5
     go_wp2_with fail
     refine postOf_normal ⟨(((Below.refl w2.heap.size w2).alloc (Nat.le_refl _) (.cells vs.toArray 25)).cell (p:=⟨A,4,none⟩) S2.out.lt).trans c2,?_⟩
     clear c2
     refine wpTailT_cons ?_
     go_wp2_with (at_builtin; refine app_k 23 25 predZ 5 72 Tryz.underlying23 info_pred rfl (by omega) (by omega) w2 (A + 1) rfl (.tmp 18) (.tmp 21) rfl ao2 cp k vss.flatten ?q1 K2.out.own S2.out.lt 1 1 vs.toArray 25 ?q2 ?q6 (by omega) PC.out.ones ?q4 ?_; (case q1=>rfl); (case q2=>rfl); (case q6=>rw [List.size_toArray,hl5]); (case q4=>omega); intro g5 off5 c5 wa o8 gr8 b8 or8; have O8:=mkHid o8; have GR8:=mkHid gr8; have B8:=mkHid b8; have OR8:=mkHid or8; clear o8 gr8 b8 or8)
     have KA:=mkHid (KidsM.add hk1.out K2.out (by have:=WD.out; have:=HA.out; omega) (fun g hg=>by have:=WD.out; have:=HA.out; rcases hg with h | h <;> omega) PC.out O8.out GR8.out OR8.out)
     have SA:=mkHid (S2.out.below B8.out (Nat.lt_succ_self A))
     have ZA:=mkHid (Z2.out.below B8.out (by have:=HA.out; omega))
     have BB8:=mkHid (B8.out.mono (B':=w.heap.size) (by have:=HA.out; omega))
     have PA:=mkHid (H0.out.below P2.out BB8.out)
     have OA:=mkHid (O2.out.belowB BB8.out)
     have TA:=mkHid (T2.out.below B8.out (by have:=RA.out; omega))
     clear K2 S2 Z2 P2 O2 T2 GR8 OR8 B8 BB8 hs1 hz1 hk1 hp1 ho1 T1 PC
     refine postOf_normal ⟨SA.out.cell 4 _ rfl,?_⟩
     refine wpTailT_cons ?_
     go_wp2_with fail
     refine postOf_normal ⟨SA.out.cell 4 _ rfl,?_⟩
     refine wpTailT_one ?_
     have m4:=SA.out.cell 4 _ rfl
     have f4:=SA.out.warm 4
     go_wp2_with fail
     clear m4 f4
     have U5:=mkHid (upd_setCell wa ⟨A,4,none⟩ (.slice (some ⟨g5,off5,none⟩) (k + 1) c5))
     have S5:Hid (HasV (wa.setCell ⟨A,4,none⟩ (.slice (some ⟨g5,off5,none⟩) (k + 1) c5)) A 25 (kidV κ 0 (some ⟨g5,off5,none⟩) (k + 1) c5)):=mkHid (SA.out.set 4 _)
     have Z5:=mkHid (ZA.out.upd U5.out (by show w.heap.size ≠ A; have:=HA.out; omega))
     have K5:=mkHid (KA.out.upd U5.out (.inr rfl) (fun e=>by have:=(KA.out.own.blk_lt e).1; have:A + 1≤A:=this; omega))
     have P5:=mkHid (H0.out.upd PA.out U5.out (by show w.heap.size≤A; have:=HA.out; omega))
     have O5:=mkHid (OA.out.updNew U5.out (by show w.heap.size≤A; have:=HA.out; omega))
     have T5:=mkHid (TA.out.below (Below.upd (B:=A) U5.out (Nat.le_refl _)) (by have:=RA.out; omega))
     clear SA ZA KA PA OA TA U5 O8
     generalize wa.setCell ⟨A,4,none⟩ (.slice (some ⟨g5,off5,none⟩) (k + 1) c5) = w5 at *
     cases hw:isP ts word j2 with
     | false =>
      refine (skip_no w5 R ao cap ts sz j2 word P5.out hgo.2 hn HTS.out hword hw).mono ?_
      have HX:Hid (V = .ok (oneP κ (ps ++ [p]),j2)):=mkHid (by rw [HF2.out,if_neg (by rw [hw]; simp)]; rfl)
      rintro e w6 ⟨rfl,b6⟩
      have S6:=mkHid (S5.out.step b6)
      have Z6:=mkHid (Z5.out.step b6)
      have K6:=mkHid (K5.out.step b6)
      have P6:=mkHid (P5.out.step b6)
      have O6:=mkHid (O5.out.step b6)
      clear b6 S5 Z5 K5 P5 O5 T5 hw HF2
      go_wp2
      go_roundw
      case rel=>exact ⟨false,j2,0,k + 1,c5,some ⟨g5,off5,none⟩,ps ++ [p],vss ++ [vs],rfl,by omega,by omega,by omega,S6,Z6,K6,P6,O6,mkHid (fun e=>by cases e),mkHid (fun _=>HX.out)⟩
      case measure=>rw [P6.out.idx,HID.out]; omega
     | true =>
      have hlt:=isP_lt hw
      refine (skip_yes w5 R ao cap ts sz j2 word P5.out hn HTS.out hword hw).mono ?_
      have HX:Hid (V = (listP ts word el f' (j2 + 1) (ps ++ [p])).bind (fun r=>(.ok (oneP κ r.1,r.2):PR Prd))):=mkHid (by rw [HF2.out,if_pos hw])
      rintro e w6 ⟨rfl,p6,o6⟩
      have S6:=mkHid (S5.out.only o6 (by have:=RA.out; omega))
      have Z6:=mkHid (Z5.out.only o6 (by have:=RW.out; omega))
      have K6:=mkHid (K5.out.only o6 RW.out (by have:=HA.out; omega))
      have P6:=mkHid p6
      have O6:=mkHid (O5.out.trans o6)
      clear p6 o6 S5 Z5 K5 P5 O5 T5 hw HF2
      go_wp2
      go_roundw
      case rel=>exact ⟨true,j2 + 1,f',k + 1,c5,some ⟨g5,off5,none⟩,ps ++ [p],vss ++ [vs],rfl,by omega,by omega,by omega,S6,Z6,K6,P6,O6,mkHid (fun _=>⟨HX.out,by have:=HFF.out; omega⟩),mkHid (fun e=>by cases e)⟩
      case measure=>rw [P6.out.idx,HID.out]; omega
set_option maxHeartbeats 4000000 in
set_option maxRecDepth 100000 in
theorem all_any (w:World) (R:Nat) (ao:Option Addr) (cap:Nat) (ts:List Tok) (sz i0 B:Nat) (unit:Nat→PR Prd) (hT:Tab w B) (hR:B≤R) (h:ParW w R ao cap ts sz i0) (hi:i0≤ts.length) (hn:ts.length≤1000000) (hts:∀ t∈ts,TokOk t) (hgo:Goes ts.length unit)
  (hel:∀ (i:Nat) (w:World),i0≤i→i≤ts.length→Tab w B→ParW w R ao cap ts sz i→Calls Tryz.prog 203 #[.pointer (some ⟨R,0,none⟩)] w fun e w'=>PredR w R ao cap ts sz (unit i) e w') :
  Calls Tryz.prog 138 #[.pointer (some ⟨R,0,none⟩)] w fun e w'=>PredR w R ao cap ts sz (allP ts unit i0) e w':=by
 obtain ⟨V,hV⟩:∃ V,(listP ts [97,110,100] unit (ts.length + 1) i0 []).bind (fun r=>(.ok (oneP 1 r.1,r.2):PR Prd)) = V:=⟨_,rfl⟩
 have hpl:allP ts unit i0 = V:=hV
 rw [hpl]
 have HV:=mkHid hV
 clear hpl hV
 have hmf:∀ (fn:Fn) (first cap:Array Value) (w:World),(Instr.makeFunc fn first cap).run Tryz.prog w = .ok (.func fn first cap) w:=fun _ _ _ _=>rfl
 have Z0:Hid (HasV (w.alloc (.cells #[.int .i64 0,.string ⟨#[]⟩,.string ⟨#[]⟩,.int .i64 0,.slice none 0 0] 25)) w.heap.size 25 pred0):=mkHid (HasV.new w _ pred0)
 have B0:=mkHid ((Below.refl w.heap.size w).alloc (Nat.le_refl _) (.cells #[.int .i64 0,.string ⟨#[]⟩,.string ⟨#[]⟩,.int .i64 0,.slice none 0 0] 25))
 have SZ:Hid ((w.alloc (.cells #[.int .i64 0,.string ⟨#[]⟩,.string ⟨#[]⟩,.int .i64 0,.slice none 0 0] 25)).heap.size = w.heap.size + 1):=mkHid (by simp)
 have H0:=mkHid h
 have HT:=mkHid hT
 have HTS:=mkHid hts
 have HEL:=mkHid hel
 have HGO:=mkHid hgo
 have RL:=mkHid h.lt
 clear h hT hts hel hgo
 go_enter Tryz.func138,Tryz.ntmps138
 go_wp2_with fail
 generalize w.alloc (.cells #[.int .i64 0,.string ⟨#[]⟩,.string ⟨#[]⟩,.int .i64 0,.slice none 0 0] 25) = w0 at *
 have P0:=mkHid (H0.out.step B0.out)
 have T0:=mkHid (HT.out.step B0.out)
 refine (list_unit w0 R ao cap ts sz i0 B 1 [97,110,100] unit T0.out hR P0.out hi hn HTS.out (by decide) HGO.out HEL.out).mono ?_
 rintro e w2 ⟨o2,hr⟩
 rw [HV.out] at hr
 have O2:=mkHid ((Only.of_below (p:=(· = R)) B0.out).trans o2)
 cases V with
 | error x =>
  clear o2
  subst hr
  unfold failE
  go_wp2
  exact ⟨rfl,parR_no rfl O2.out rfl⟩
 | ok r =>
  obtain ⟨p,j2⟩:=r
  obtain ⟨⟨v,rfl,vs,rfl,hpc⟩,hp2⟩:=hr
  have PC:=mkHid (hpc.mono (P':=fun g=>w.heap.size < g) (fun g hg _=>by have:=SZ.out; omega))
  have HL5:=mkHid hpc.len
  have Z2:=mkHid (Z0.out.only o2 (by have:=RL.out; omega))
  have P2:=mkHid hp2
  clear hpc hp2 o2
  go_wp2_with (refine wpList_store_abs rfl 25 (.tmp 2) (.tmp 6) rfl w.heap.size vs.toArray ?s1 ?s2 25 _ Z2.out (inf_pred _ HL5.out) ?s3 (PC.out.one) ?_; (case s1=>rfl); (case s2=>rfl); (case s3=>rw [List.size_toArray,List.size_toArray,HL5.out]; rfl); intro w9 s9 u9; have S9:=mkHid s9; have U9:=mkHid u9; clear s9 u9)
  exact bodyPost_ret (results_cell_row (p:=2) (by kernel_rfl) _ _ w.heap.size 25 vs.toArray (0,0) _ rfl S9.out Tryz.underlying25 rfl (inf_pred _ HL5.out)) rfl (parR_ok rfl (O2.out.updNew U9.out (Nat.le_refl _)) rfl ⟨vs,rfl,(PC.out.upd U9.out (Nat.lt_irrefl _)).mono (fun g hg _=>Nat.le_of_lt hg)⟩ (H0.out.upd P2.out U9.out (Nat.le_refl _)))
set_option maxHeartbeats 4000000 in
set_option maxRecDepth 100000 in
theorem some_any (w:World) (R:Nat) (ao:Option Addr) (cap:Nat) (ts:List Tok) (sz i0 B:Nat) (unit:Nat→PR Prd) (hT:Tab w B) (hR:B≤R) (h:ParW w R ao cap ts sz i0) (hi:i0≤ts.length) (hn:ts.length≤1000000) (hts:∀ t∈ts,TokOk t) (hgo:Goes ts.length unit)
  (hel:∀ (i:Nat) (w:World),i0≤i→i≤ts.length→Tab w B→ParW w R ao cap ts sz i→Calls Tryz.prog 203 #[.pointer (some ⟨R,0,none⟩)] w fun e w'=>PredR w R ao cap ts sz (unit i) e w') :
  Calls Tryz.prog 74 #[.pointer (some ⟨R,0,none⟩)] w fun e w'=>PredR w R ao cap ts sz (someP ts unit i0) e w':=by
 obtain ⟨V,hV⟩:∃ V,(listP ts [111,114] (allP ts unit) (ts.length + 1) i0 []).bind (fun r=>(.ok (oneP 2 r.1,r.2):PR Prd)) = V:=⟨_,rfl⟩
 have hpl:someP ts unit i0 = V:=hV
 rw [hpl]
 have HV:=mkHid hV
 clear hpl hV
 have hmf:∀ (fn:Fn) (first cap:Array Value) (w:World),(Instr.makeFunc fn first cap).run Tryz.prog w = .ok (.func fn first cap) w:=fun _ _ _ _=>rfl
 have Z0:Hid (HasV (w.alloc (.cells #[.int .i64 0,.string ⟨#[]⟩,.string ⟨#[]⟩,.int .i64 0,.slice none 0 0] 25)) w.heap.size 25 pred0):=mkHid (HasV.new w _ pred0)
 have B0:=mkHid ((Below.refl w.heap.size w).alloc (Nat.le_refl _) (.cells #[.int .i64 0,.string ⟨#[]⟩,.string ⟨#[]⟩,.int .i64 0,.slice none 0 0] 25))
 have SZ:Hid ((w.alloc (.cells #[.int .i64 0,.string ⟨#[]⟩,.string ⟨#[]⟩,.int .i64 0,.slice none 0 0] 25)).heap.size = w.heap.size + 1):=mkHid (by simp)
 have H0:=mkHid h
 have HT:=mkHid hT
 have HTS:=mkHid hts
 have HEL:=mkHid hel
 have HGO:=mkHid hgo
 have RL:=mkHid h.lt
 clear h hT hts hel hgo
 go_enter Tryz.func74,Tryz.ntmps74
 go_wp2_with fail
 generalize w.alloc (.cells #[.int .i64 0,.string ⟨#[]⟩,.string ⟨#[]⟩,.int .i64 0,.slice none 0 0] 25) = w0 at *
 have P0:=mkHid (H0.out.step B0.out)
 have T0:=mkHid (HT.out.step B0.out)
 refine (list_all w0 R ao cap ts sz i0 B 2 [111,114] (allP ts unit) T0.out hR P0.out hi hn HTS.out (by decide) (allP_ok HGO.out) (fun i w h1 h2 hT hp=>all_any w R ao cap ts sz i B unit hT hR hp h2 hn HTS.out HGO.out (fun k w h3 h4=>HEL.out k w (Nat.le_trans h1 h3) h4))).mono ?_
 rintro e w2 ⟨o2,hr⟩
 rw [HV.out] at hr
 have O2:=mkHid ((Only.of_below (p:=(· = R)) B0.out).trans o2)
 cases V with
 | error x =>
  clear o2
  subst hr
  unfold failE
  go_wp2
  exact ⟨rfl,parR_no rfl O2.out rfl⟩
 | ok r =>
  obtain ⟨p,j2⟩:=r
  obtain ⟨⟨v,rfl,vs,rfl,hpc⟩,hp2⟩:=hr
  have PC:=mkHid (hpc.mono (P':=fun g=>w.heap.size < g) (fun g hg _=>by have:=SZ.out; omega))
  have HL5:=mkHid hpc.len
  have Z2:=mkHid (Z0.out.only o2 (by have:=RL.out; omega))
  have P2:=mkHid hp2
  clear hpc hp2 o2
  go_wp2_with (refine wpList_store_abs rfl 25 (.tmp 2) (.tmp 6) rfl w.heap.size vs.toArray ?s1 ?s2 25 _ Z2.out (inf_pred _ HL5.out) ?s3 (PC.out.one) ?_; (case s1=>rfl); (case s2=>rfl); (case s3=>rw [List.size_toArray,List.size_toArray,HL5.out]; rfl); intro w9 s9 u9; have S9:=mkHid s9; have U9:=mkHid u9; clear s9 u9)
  exact bodyPost_ret (results_cell_row (p:=2) (by kernel_rfl) _ _ w.heap.size 25 vs.toArray (0,0) _ rfl S9.out Tryz.underlying25 rfl (inf_pred _ HL5.out)) rfl (parR_ok rfl (O2.out.updNew U9.out (Nat.le_refl _)) rfl ⟨vs,rfl,(PC.out.upd U9.out (Nat.lt_irrefl _)).mono (fun g hg _=>Nat.le_of_lt hg)⟩ (H0.out.upd P2.out U9.out (Nat.le_refl _)))
end Go.Proofs.YtmkdfbelbcocpaaGreatDoor
namespace Go.Proofs.YtmkdfbelbcocpaaGreatDoor
open Go.RowKit
theorem heap_alloc3_new (w:World) (a b c:Obj):(((w.alloc a).alloc b).alloc c).heap[w.heap.size + 1 + 1]? = some c:=by
 have:=heap_alloc_new ((w.alloc a).alloc b) c
 simpa using this
def atomC (l r:List Nat) (c:Int):List Value:=[.int .i64 0,.string (strN l),.string (strN r),.int .i64 c,.slice none 0 0]
theorem atomC_pred (w:World) (P:Nat→Prop) (l r:List Nat) (c:Int):PredC w P (.mk 0 l r c []) (atomC l r c):=by
 unfold PredC
 exact ⟨none,0,rfl,.inl rfl⟩
set_option maxHeartbeats 4000000 in
set_option maxRecDepth 100000 in
theorem most_any (a b:SumV) (less:Int) (w:World) (ha:SumOk a) (hb:SumOk b) (h0:0≤less) (h1:less≤1) :
  Calls Tryz.prog 291 #[.agg (sumC a).toArray,.agg (sumC b).toArray,.int .i64 less] w fun e w'=>e = .returned (.agg (atomC a.1 b.1 (b.2 - a.2 - less)).toArray)∧Below w.heap.size w w':=by
 have e1:IntKind.i64.wrap (b.2 - a.2) = b.2 - a.2:=IntWalk.i64_in _ (by have:=ha.lo; have:=ha.hi; have:=hb.lo; have:=hb.hi; omega)
 have e2:IntKind.i64.wrap (b.2 - a.2 - less) = b.2 - a.2 - less:=IntWalk.i64_in _ (by have:=ha.lo; have:=ha.hi; have:=hb.lo; have:=hb.hi; omega)
 clear ha hb h0 h1
 obtain ⟨a1,a2⟩:=a
 obtain ⟨b1,b2⟩:=b
 simp only at e1 e2
 unfold sumC atomC
 generalize strN a1 = x at *
 generalize strN b1 = y at *
 go_enter Tryz.func291,Tryz.ntmps291
 go_wp2
 exact bodyPost_ret (results_cell_row (p:=6) (by kernel_rfl) _ _ (w.heap.size + 1 + 1) 25 _ (0,0) _ rfl (heap_alloc3_new _ _ _ _) Tryz.underlying25 rfl (inf_pred _ rfl)) rfl ⟨rfl,(((Below.refl _ w).alloc (Nat.le_refl _) _).alloc (by simp) _).alloc (by simp; omega) _⟩
def keyC (l r:List Nat) (c:Int):List Value:=[.string (strN l),.string (strN r),.int .i64 c]
theorem inf_key (vs:List Value) (h:vs.length = 3):(Tryz.prog.info? 123).map (·.size) = some vs.toArray.size:=by
 rw [List.size_toArray,h]
 kernel_rfl
set_option maxHeartbeats 4000000 in
set_option maxRecDepth 100000 in
theorem keyOf_any (κ:Int) (l r:List Nat) (c:Int) (x:Value) (hx:x.oneCell' = true) (w:World) :
  Calls Tryz.prog 106 #[.agg #[.int .i64 κ,.string (strN l),.string (strN r),.int .i64 c,x]] w fun e w'=>e = .returned (.agg (keyC l r c).toArray)∧Below w.heap.size w w':=by
 unfold keyC
 generalize strN l = y at *
 generalize strN r = z at *
 go_enter Tryz.func106,Tryz.ntmps106
 go_wp2
 exact bodyPost_ret (results_cell_row (p:=2) (by kernel_rfl) _ _ (w.heap.size + 1) 123 _ (0,0) _ rfl (heap_alloc2_new _ _ _) Tryz.underlying123 rfl (inf_key _ rfl)) rfl ⟨rfl,((Below.refl _ w).alloc (Nat.le_refl _) _).alloc (by simp) _⟩
set_option maxHeartbeats 4000000 in
set_option maxRecDepth 100000 in
theorem opposite_any (l r:List Nat) (c:Int) (w:World) :
  Calls Tryz.prog 155 #[.agg (keyC l r c).toArray] w fun e w'=>e = .returned (.agg (keyC r l (w64 (w64 (-c) - 1))).toArray)∧Below w.heap.size w w':=by
 have e1:IntKind.i64.wrap (-c) = w64 (-c):=by rw [IntKind.wrap_i64]; rfl
 have e2:IntKind.i64.wrap (w64 (-c) - 1) = w64 (w64 (-c) - 1):=by rw [IntKind.wrap_i64]; rfl
 unfold keyC
 generalize strN l = y at *
 generalize strN r = z at *
 generalize w64 (w64 (-c) - 1) = d at *
 generalize w64 (-c) = d1 at *
 go_enter Tryz.func155,Tryz.ntmps155
 go_wp2
 exact bodyPost_ret (results_cell_row (p:=2) (by kernel_rfl) _ _ (w.heap.size + 1) 123 _ (0,0) _ rfl (heap_alloc2_new _ _ _) Tryz.underlying123 rfl (inf_key _ rfl)) rfl ⟨rfl,((Below.refl _ w).alloc (Nat.le_refl _) _).alloc (by simp) _⟩
set_option maxHeartbeats 4000000 in
set_option maxRecDepth 100000 in
theorem katom_any (l r:List Nat) (c:Int) (w:World) :
  Calls Tryz.prog 92 #[.agg (keyC l r c).toArray] w fun e w'=>e = .returned (.agg (atomC l r c).toArray)∧Below w.heap.size w w':=by
 unfold keyC atomC
 generalize strN l = y at *
 generalize strN r = z at *
 go_enter Tryz.func92,Tryz.ntmps92
 go_wp2
 exact bodyPost_ret (results_cell_row (p:=2) (by kernel_rfl) _ _ (w.heap.size + 1) 25 _ (0,0) _ rfl (heap_alloc2_new _ _ _) Tryz.underlying25 rfl (inf_pred _ rfl)) rfl ⟨rfl,((Below.refl _ w).alloc (Nat.le_refl _) _).alloc (by simp) _⟩
end Go.Proofs.YtmkdfbelbcocpaaGreatDoor
namespace Go.Proofs.YtmkdfbelbcocpaaGreatDoor
open Go.RowKit
theorem heap_alloc3_mid (w:World) (a b c:Obj):(((w.alloc a).alloc b).alloc c).heap[w.heap.size + 1]? = some b:=by
 rw [Below.heap_alloc ((w.alloc a).alloc b) c (w.heap.size + 1) (by simp)]; exact heap_alloc2_new w a b
theorem heap_alloc3_old (w:World) (a b c:Obj):(((w.alloc a).alloc b).alloc c).heap[w.heap.size]? = some a:=by
 rw [Below.heap_alloc ((w.alloc a).alloc b) c w.heap.size (by simp; omega)]; exact heap_alloc2_old w a b
theorem HasV.grownBy {w w':World} {g:Nat} {t:TypeId} {cs:List Value} {row:Option Nat} (h:HasV w g t cs) (hg:w.grownBy w' row) (hr:row ≠ some g):HasV w' g t cs:=by
 unfold HasV; rw [hg.block g h.lt (fun e=>hr e.symm)]; exact h
theorem cnt_pos (p:Prd):1≤cntP p:=by
 cases p; unfold cntP; omega
theorem len_le_cntL:∀ ks:List Prd,ks.length≤cntL ks
 | []=>Nat.zero_le _
 | p :: ps=>by
  unfold cntL
  have:=len_le_cntL ps
  have:=cnt_pos p
  simp only [List.length_cons]
  omega
theorem cnt_kid:∀ (ks:List Prd) (i:Nat) (p:Prd),ks[i]? = some p→cntP p≤cntL ks
 | [],_,_,h=>by simp at h
 | q :: ps,0,p,h=>by
  obtain rfl:q = p:=by simpa using h
  unfold cntL; omega
 | q :: ps,i + 1,p,h=>by
  unfold cntL
  have:=cnt_kid ps i p (by simpa using h)
  omega
theorem negL_take:∀ (ks:List Prd) (i:Nat) (p:Prd),ks[i]? = some p→negL (ks.take (i + 1)) = negL (ks.take i) ++ [negP p]
 | [],_,_,h=>by simp at h
 | q :: ps,0,p,h=>by
  obtain rfl:q = p:=by simpa using h
  simp [negL]
 | q :: ps,i + 1,p,h=>by
  rw [List.take_succ_cons,List.take_succ_cons]
  unfold negL
  rw [negL_take ps i p (by simpa using h)]
  rfl
def NegR (w:World) (p:Prd) (e:Ending) (w':World):Prop:=(∃ v,e = .returned v∧PredV w.heap.size w' p v)∧Below w.heap.size w w'
set_option maxHeartbeats 8000000 in
set_option maxRecDepth 100000 in
theorem neg_atom (w:World) (l r:List Nat) (c:Int) (ks:List Prd) (a:Option Addr) (n cap:Nat) :
  Calls Tryz.prog 90 #[.agg #[.int .i64 0,.string (strN l),.string (strN r),.int .i64 c,.slice a n cap]] w fun e w'=>NegR w (negP (.mk 0 l r c ks)) e w':=by
 have HN:Hid (negP (.mk 0 l r c ks) = .mk 0 r l (w64 (w64 (-c) - 1)) []):=mkHid (by unfold negP; rw [if_pos rfl])
 rw [HN.out]
 clear HN
 generalize hd:w64 (w64 (-c) - 1) = d at *
 have HD:=mkHid hd
 clear hd
 have K1:=mkHid (fun (w:World)=>keyOf_any 0 l r c (.slice a n cap) rfl w)
 have K2:=mkHid (fun (w:World)=>opposite_any l r c w)
 have K3:=mkHid (fun (w:World)=>katom_any r l d w)
 rw [HD.out] at K2
 generalize strN l = y at *
 generalize strN r = z at *
 generalize (keyC l r c).toArray = k1 at *
 generalize (keyC r l d).toArray = k2 at *
 have Z1:Hid (HasV ((w.alloc (.cells #[.int .i64 0,.string y,.string z,.int .i64 c,.slice a n cap] 25)).alloc (.cells #[.int .i64 0,.string ⟨#[]⟩,.string ⟨#[]⟩,.int .i64 0,.slice none 0 0] 25)) (w.heap.size + 1) 25 pred0):=mkHid (heap_alloc2_new w _ _)
 have D1:=mkHid (((Below.refl w.heap.size w).alloc (Nat.le_refl _) (.cells #[.int .i64 0,.string y,.string z,.int .i64 c,.slice a n cap] 25)).alloc (by simp) (.cells #[.int .i64 0,.string ⟨#[]⟩,.string ⟨#[]⟩,.int .i64 0,.slice none 0 0] 25))
 have SZ:Hid (((w.alloc (.cells #[.int .i64 0,.string y,.string z,.int .i64 c,.slice a n cap] 25)).alloc (.cells #[.int .i64 0,.string ⟨#[]⟩,.string ⟨#[]⟩,.int .i64 0,.slice none 0 0] 25)).heap.size = w.heap.size + 2):=mkHid (by simp)
 go_enter Tryz.func90,Tryz.ntmps90
 go_wp2_with fail
 generalize (w.alloc (.cells #[.int .i64 0,.string y,.string z,.int .i64 c,.slice a n cap] 25)).alloc (.cells #[.int .i64 0,.string ⟨#[]⟩,.string ⟨#[]⟩,.int .i64 0,.slice none 0 0] 25) = w0 at *
 refine (K1.out _).mono ?_
 rintro e w1 ⟨rfl,b1⟩
 have Z2:=mkHid (Z1.out.step b1)
 have D2:=mkHid (D1.out.trans (b1.mono D1.out.size))
 clear b1 Z1 D1
 go_wp2_with fail
 refine (K2.out _).mono ?_
 rintro e w2 ⟨rfl,b2⟩
 have Z3:=mkHid (Z2.out.step b2)
 have D3:=mkHid (D2.out.trans (b2.mono D2.out.size))
 clear b2 Z2 D2
 go_wp2_with fail
 refine (K3.out _).mono ?_
 rintro e w3 ⟨rfl,b3⟩
 have Z4:=mkHid (Z3.out.step b3)
 have D4:=mkHid (D3.out.trans (b3.mono D3.out.size))
 clear b3 Z3 D3
 go_wp2_with (refine wpList_store_abs rfl 25 (.tmp 2) (.tmp 12) rfl (w.heap.size + 1) (atomC r l d).toArray ?s1 ?s2 25 _ Z4.out (inf_pred _ rfl) rfl (by simp [atomC,Value.oneCell']) ?_; (case s1=>rfl); (case s2=>rfl); intro w9 s9 u9; have S9:=mkHid s9; have U9:=mkHid u9; clear s9 u9)
 exact bodyPost_ret (results_cell_row (p:=2) (by kernel_rfl) _ _ (w.heap.size + 1) 25 (atomC r l d).toArray (0,0) _ rfl S9.out Tryz.underlying25 rfl (inf_pred _ rfl)) rfl ⟨⟨_,rfl,_,rfl,atomC_pred _ _ _ _ _⟩,U9.out.below D4.out (Nat.le_succ _)⟩
def nkP (k:Int):Int:=if k = 1 then 2 else if k = 2 then 1 else k
def ncP (k:Int) (m:Nat) (c:Int):Int:=if k = 3 then w64 (w64 ((m:Int) - c) + 1) else 0
theorem negP_node {k:Int} {l r:List Nat} {c:Int} {ks:List Prd} (h:k ≠ 0):negP (.mk k l r c ks) = .mk (nkP k) [] [] (ncP k ks.length c) (negL ks):=by unfold negP nkP ncP; rw [if_neg h]
set_option maxHeartbeats 8000000 in
set_option maxRecDepth 100000 in
theorem neg_node (w:World) (P:Nat→Prop) (κ:Int) (l r:List Nat) (c:Int) (ks:List Prd) (ao:Option Addr) (n cap:Nat) (hn:n = ks.length) (hκ:κ ≠ 0) (hbig:n≤1000000)
  (hk:ks = []∨∃ g off,ao = some ⟨g,off,none⟩∧P g∧g < w.heap.size∧KidsC w P ks g off)
  (ih:∀ (q:Prd) (w:World) (vs:List Value),q∈ks→PredC w P q vs→Calls Tryz.prog 90 #[.agg vs.toArray] w fun e w'=>NegR w (negP q) e w') :
  Calls Tryz.prog 90 #[.agg #[.int .i64 κ,.string (strN l),.string (strN r),.int .i64 c,.slice ao n cap]] w fun e w'=>NegR w (negP (.mk κ l r c ks)) e w':=by
 rw [negP_node hκ]
 have HK:=mkHid hk
 have IH:=mkHid ih
 have HN:=mkHid hn
 clear hk ih hn
 generalize strN l = y at *
 generalize strN r = z at *
 have X1:Hid (HasV (((w.alloc (.cells #[.int .i64 κ,.string y,.string z,.int .i64 c,.slice ao n cap] 25)).alloc (.cells #[.int .i64 0,.string ⟨#[]⟩,.string ⟨#[]⟩,.int .i64 0,.slice none 0 0] 25)).alloc (.cells #[.int .i64 κ,.string ⟨#[]⟩,.string ⟨#[]⟩,.int .i64 0,.slice none 0 0] 25)) w.heap.size 25 [.int .i64 κ,.string y,.string z,.int .i64 c,.slice ao n cap]):=mkHid (heap_alloc3_old _ _ _ _)
 have Z1:Hid (HasV (((w.alloc (.cells #[.int .i64 κ,.string y,.string z,.int .i64 c,.slice ao n cap] 25)).alloc (.cells #[.int .i64 0,.string ⟨#[]⟩,.string ⟨#[]⟩,.int .i64 0,.slice none 0 0] 25)).alloc (.cells #[.int .i64 κ,.string ⟨#[]⟩,.string ⟨#[]⟩,.int .i64 0,.slice none 0 0] 25)) (w.heap.size + 1) 25 pred0):=mkHid (heap_alloc3_mid _ _ _ _)
 have S1:Hid (HasV (((w.alloc (.cells #[.int .i64 κ,.string y,.string z,.int .i64 c,.slice ao n cap] 25)).alloc (.cells #[.int .i64 0,.string ⟨#[]⟩,.string ⟨#[]⟩,.int .i64 0,.slice none 0 0] 25)).alloc (.cells #[.int .i64 κ,.string ⟨#[]⟩,.string ⟨#[]⟩,.int .i64 0,.slice none 0 0] 25)) (w.heap.size + 1 + 1) 25 (kidV κ 0 none 0 0)):=mkHid (heap_alloc3_new _ _ _ _)
 have D1:=mkHid ((((Below.refl w.heap.size w).alloc (Nat.le_refl _) (.cells #[.int .i64 κ,.string y,.string z,.int .i64 c,.slice ao n cap] 25)).alloc (by simp) (.cells #[.int .i64 0,.string ⟨#[]⟩,.string ⟨#[]⟩,.int .i64 0,.slice none 0 0] 25)).alloc (by simp; omega) (.cells #[.int .i64 κ,.string ⟨#[]⟩,.string ⟨#[]⟩,.int .i64 0,.slice none 0 0] 25))
 have κ0:(κ == 0) = false:=by rw [beq_eq_false_iff_ne]; exact hκ
 go_enter Tryz.func90,Tryz.ntmps90
 go_wp2_with fail
 generalize ((w.alloc (.cells #[.int .i64 κ,.string y,.string z,.int .i64 c,.slice ao n cap] 25)).alloc (.cells #[.int .i64 0,.string ⟨#[]⟩,.string ⟨#[]⟩,.int .i64 0,.slice none 0 0] 25)).alloc (.cells #[.int .i64 κ,.string ⟨#[]⟩,.string ⟨#[]⟩,.int .i64 0,.slice none 0 0] 25) = w1 at *
 obtain ⟨A,hA⟩:∃ A,w.heap.size + 1 + 1 = A:=⟨_,rfl⟩
 rw [hA] at S1 ⊢
 have HA:Hid (A = w.heap.size + 2):=mkHid (by omega)
 clear hA
 go_loopw [19] (fun cc wr=>∃ (i cp:Nat) (ao2:Option Addr) (vss:List (List Value)),cc = .int .i64 i∧i≤n ∧
   Hid (HasV wr w.heap.size 25 [.int .i64 κ,.string y,.string z,.int .i64 c,.slice ao n cap])∧Hid (HasV wr (w.heap.size + 1) 25 pred0)∧Hid (HasV wr A 25 (kidV κ 0 ao2 i cp)) ∧
   Hid (KidsM w wr (A + 1) (fun g=>g = w.heap.size + 1∨g = A) ao2 i cp (negL (ks.take i)) vss)∧Hid (Below w.heap.size w wr)) (fun c _=>(n - intOf c).toNat)
 case atStart=>exact ⟨0,0,none,[],rfl,by omega,X1,Z1,S1,mkHid (KidsM.nil _ _ _ _),D1⟩
 case round =>
  clear X1 Z1 S1 D1
  obtain ⟨i,cp,ao2,vss,rfl,hi,hx,hz,hs,hkm,hw⟩:=hrel
  have e2:IntKind.i64.wrap ((i:Int) + 1) = ((i + 1:Nat):Int):=IntWalk.i64_in _ (by omega)
  have c4:=hs.out.cell 4 _ rfl
  by_cases hlt:i < n
  ·have ii:(i:Int) < n:=by omega
   have HQ:Hid (∃ q,ks[i]? = some q∧∃ g off,ao = some ⟨g,off,none⟩∧g < w.heap.size∧∃ vs,PredC wr P q vs∧Reads wr g (off + i * 5) vs):=mkHid (by
    have hl:i < ks.length:=by rw [← HN.out]; exact hlt
    refine ⟨ks[i],List.getElem?_eq_getElem hl,?_⟩
    rcases HK.out with h | ⟨g,off,h1,h2,h3,h4⟩
    ·rw [h] at hl; exact absurd hl (Nat.not_lt_zero _)
    ·obtain ⟨vs,hv1,hv2⟩:=KidsC.at ks g off i _ (List.getElem?_eq_getElem hl) h4
     exact ⟨g,off,h1,h3,vs,hv1.below hw.out,hv2.of_block (hw.out.block g h3)⟩)
   obtain ⟨q,hq,g,off,hao,hg,vs,hpc,hrd⟩:=HQ.out
   clear HQ
   have HQI:=mkHid hq
   obtain ⟨xa,xn,xc,hvf,-⟩:=hpc.form
   rw [hvf] at hrd hpc
   have PC:=mkHid hpc
   have r0:=hrd 0 _ rfl
   have r1:=hrd 1 _ rfl
   have r2:=hrd 2 _ rfl
   have r3:=hrd 3 _ rfl
   have r4:=hrd 4 _ rfl
   clear hrd hpc hvf vs hq
   rw [Nat.add_zero] at r0
   have HAO:=mkHid hao
   subst hao
   generalize q.k = q0 at *
   generalize strN q.l = q1 at *
   generalize strN q.r = q2 at *
   generalize q.c = q3 at *
   go_wp2_with fail
   have XS:Hid (HasV (wr.alloc (.cells #[.int .i64 q0,.string q1,.string q2,.int .i64 q3,.slice xa xn xc] 25)) wr.heap.size 25 [.int .i64 q0,.string q1,.string q2,.int .i64 q3,.slice xa xn xc]):=mkHid (HasV.new wr _ _)
   have bx:=(Below.refl wr.heap.size wr).alloc (Nat.le_refl _) (.cells #[.int .i64 q0,.string q1,.string q2,.int .i64 q3,.slice xa xn xc] 25)
   have BX:=mkHid bx
   have XL:Hid ((wr.alloc (.cells #[.int .i64 q0,.string q1,.string q2,.int .i64 q3,.slice xa xn xc] 25)).heap.size = wr.heap.size + 1):=mkHid (by simp)
   have AL:Hid (A < wr.heap.size):=mkHid hs.out.lt
   have hx2:=mkHid (hx.out.step bx)
   have hz2:=mkHid (hz.out.step bx)
   have hs2:=mkHid (hs.out.step bx)
   have hk2:=mkHid (hkm.out.step bx)
   have hw2:=mkHid (hw.out.trans (bx.mono hw.out.size))
   have PX:=mkHid (PC.out.below bx)
   have HBX:Hid (blk ao2 ≠ some wr.heap.size):=mkHid (fun e=>by have:=(hkm.out.own.blk_lt e).2; omega)
   clear r0 r1 r2 r3 r4 bx hx hz hs hkm hw PC c4 BX
   generalize wr.alloc (.cells #[.int .i64 q0,.string q1,.string q2,.int .i64 q3,.slice xa xn xc] 25) = wx at *
   have c4:=hs2.out.cell 4 _ rfl
   have x0:=XS.out.cell 0 _ rfl
   have x1:=XS.out.cell 1 _ rfl
   have x2:=XS.out.cell 2 _ rfl
   have x3:=XS.out.cell 3 _ rfl
   have x4:=XS.out.cell 4 _ rfl
   obtain ⟨X,hX⟩:∃ X,wr.heap.size = X:=⟨_,rfl⟩
   rw [hX] at x0 x1 x2 x3 x4 XS AL XL HBX ⊢
   clear hX
   go_upto_region 7 with (fail)
   refine wp_region_pick [0,1,2] [3,4,5,6,7] (fun w'=>w'.cell? ⟨A,4,none⟩ = some (.slice ao2 i cp)∧w'.cell? ⟨X,0,none⟩ = some (.int .i64 q0)∧w'.cell? ⟨X,1,none⟩ = some (.string q1)∧w'.cell? ⟨X,2,none⟩ = some (.string q2)∧w'.cell? ⟨X,3,none⟩ = some (.int .i64 q3)∧w'.cell? ⟨X,4,none⟩ = some (.slice xa xn xc)) (by kernel_rfl) (by kernel_rfl) (by kernel_rfl) (fun _ _ d _ _ h=>by cases d <;> exact h) ⟨c4,x0,x1,x2,x3,x4⟩ ?_
   simp only [pickI,List.filterMap_cons,List.filterMap_nil,List.getElem?_cons_zero,List.getElem?_cons_succ,Option.map_some,List.map_cons,List.map_nil]
   apply Exists.intro
   refine ⟨?hh,?ht⟩
   case hh =>
    intro w' hw'
    obtain ⟨c4',y0,y1,y2,y3,y4⟩:=hw'
    repeat still_step
    exact wpStill_nil rfl
   case ht =>
    have BD:Below wx.heap.size wx wx.drew:=(Below.refl wx.heap.size wx).drew
    have hx3:=mkHid (hx2.out.step BD)
    have hz3:=mkHid (hz2.out.step BD)
    have hs3:=mkHid (hs2.out.step BD)
    have hk3:=mkHid (hk2.out.step BD)
    have hw3:=mkHid (hw2.out.trans (BD.mono hw2.out.size))
    have XS3:=mkHid (XS.out.step BD)
    have PX3:=mkHid (PX.out.below BD)
    have XL3:Hid (wx.drew.heap.size = X + 1):=mkHid XL.out
    clear BD hx2 hz2 hs2 hk2 hw2 XS PX XL
    generalize wx.drew = wd at *
    refine wpTailT_cons ?_
    go_wp2_with fail
    refine (IH.out q wd _ (List.mem_of_getElem? HQI.out) PX3.out).mono ?_
    rintro e w2 ⟨⟨v,rfl,vs,rfl,hpc⟩,b2⟩
    have SS:Hid (∀ w':World,Below wd.heap.size wd w'→w'.cell? ⟨A,4,none⟩ = some (.slice ao2 i cp)∧w'.cell? ⟨X,0,none⟩ = some (.int .i64 q0)∧w'.cell? ⟨X,1,none⟩ = some (.string q1)∧w'.cell? ⟨X,2,none⟩ = some (.string q2)∧w'.cell? ⟨X,3,none⟩ = some (.int .i64 q3)∧w'.cell? ⟨X,4,none⟩ = some (.slice xa xn xc)):=mkHid (fun w' hb=>⟨(hs3.out.step hb).cell 4 _ rfl,(XS3.out.step hb).cell 0 _ rfl,(XS3.out.step hb).cell 1 _ rfl,(XS3.out.step hb).cell 2 _ rfl,(XS3.out.step hb).cell 3 _ rfl,(XS3.out.step hb).cell 4 _ rfl⟩)
    have PC:=mkHid hpc
    have B2:=mkHid b2
    have S2:=mkHid (hs3.out.step b2)
    have Z2:=mkHid (hz3.out.step b2)
    have X2:=mkHid (hx3.out.step b2)
    have K2:=mkHid (hk3.out.step b2)
    have W2:=mkHid (hw3.out.trans (b2.mono hw3.out.size))
    have XS2:=mkHid (XS3.out.step b2)
    clear hpc b2
    go_wp2_with fail
    refine postOf_normal ⟨SS.out w2 B2.out,?_⟩
    refine wpTailT_cons ?_
    have hl5:vs.length = 5:=PC.out.len
    have hfd:=fold5 #[.int .i64 0,.string ⟨#[]⟩,.string ⟨#[]⟩,.int .i64 0,.slice none 0 0] rfl vs hl5
    go_wp2_with fail
    refine postOf_normal ⟨SS.out _ (B2.out.alloc B2.out.size _),?_⟩
    refine wpTailT_cons ?_
    go_wp2_with (at_builtin; refine app_k 23 25 predZ 5 72 Tryz.underlying23 info_pred rfl (by omega) (by omega) w2 (A + 1) rfl (.tmp 24) (.tmp 27) rfl ao2 cp i vss.flatten ?q1 K2.out.own S2.out.lt 1 1 vs.toArray 25 ?q2 ?q6 (by omega) PC.out.ones ?q4 ?_; (case q1=>rfl); (case q2=>rfl); (case q6=>rw [List.size_toArray,hl5]); (case q4=>omega); intro g5 off5 c5 wa o8 gr8 b8 or8; have O8:=mkHid o8; have GR8:=mkHid gr8; have B8:=mkHid b8; have OR8:=mkHid or8; clear o8 gr8 b8 or8)
    have KA:=mkHid (KidsM.add hk3.out K2.out hw3.out.size (fun g hg=>by have:=hs3.out.lt; have:=HA.out; rcases hg with h | h <;> omega) PC.out O8.out GR8.out OR8.out)
    have SA:=mkHid (S2.out.below B8.out (Nat.lt_succ_self A))
    have ZA:=mkHid (Z2.out.below B8.out (by have:=HA.out; omega))
    have XA:=mkHid (X2.out.below B8.out (by have:=HA.out; omega))
    have WA:=mkHid (W2.out.trans (B8.out.mono (by have:=HA.out; omega)))
    have XSA:=mkHid (XS2.out.grownBy GR8.out HBX.out)
    refine postOf_normal ⟨⟨SA.out.cell 4 _ rfl,XSA.out.cell 0 _ rfl,XSA.out.cell 1 _ rfl,XSA.out.cell 2 _ rfl,XSA.out.cell 3 _ rfl,XSA.out.cell 4 _ rfl⟩,?_⟩
    refine wpTailT_cons ?_
    go_wp2_with fail
    refine postOf_normal ⟨⟨SA.out.cell 4 _ rfl,XSA.out.cell 0 _ rfl,XSA.out.cell 1 _ rfl,XSA.out.cell 2 _ rfl,XSA.out.cell 3 _ rfl,XSA.out.cell 4 _ rfl⟩,?_⟩
    refine wpTailT_one ?_
    have m4:=SA.out.cell 4 _ rfl
    have f4:=SA.out.warm 4
    have U5:=mkHid (upd_setCell wa ⟨A,4,none⟩ (.slice (some ⟨g5,off5,none⟩) (i + 1) c5))
    have S5:Hid (HasV (wa.setCell ⟨A,4,none⟩ (.slice (some ⟨g5,off5,none⟩) (i + 1) c5)) A 25 (kidV κ 0 (some ⟨g5,off5,none⟩) (i + 1) c5)):=mkHid (SA.out.set 4 _)
    have X5:=mkHid (XA.out.upd U5.out (by show w.heap.size ≠ A; have:=HA.out; omega))
    have Z5:=mkHid (ZA.out.upd U5.out (by show w.heap.size + 1 ≠ A; have:=HA.out; omega))
    have K5:=mkHid (KA.out.upd U5.out (.inr rfl) (fun e=>by have:=(KA.out.own.blk_lt e).1; have:A + 1≤A:=this; omega))
    have W5:=mkHid (U5.out.below WA.out (by show w.heap.size≤A; have:=HA.out; omega))
    clear SA ZA XA KA WA XSA U5 O8 K2 S2 Z2 X2 W2 XS2 GR8 OR8 B8 B2 SS hs3 hz3 hx3 hk3 hw3 XS3 PX3 PC
    go_wp2_with fail
    go_roundw
    case rel=>exact ⟨i + 1,c5,some ⟨g5,off5,none⟩,vss ++ [vs],by go_num,by omega,X5,Z5,S5,mkHid (by rw [negL_take ks i q HQI.out]; exact K5.out),W5⟩
    case measure=>simp only [intOf]; omega
  ·obtain hin:i = n:=by omega
   have ii:¬ ((i:Int) < n):=by omega
   have HIN:Hid (negL (ks.take i) = negL ks):=mkHid (by rw [hin,HN.out,List.take_length])
   have HLEN:Hid ((ks.length:Int) = (n:Int)):=mkHid (by rw [HN.out])
   rw [HIN.out] at hkm
   have k0:=hx.out.cell 0 _ rfl
   have k4:=hx.out.cell 4 _ rfl
   have k3:=hx.out.cell 3 _ rfl
   clear c4 e2
   by_cases h1:κ = 1
   ·have HNK:Hid (nkP κ = 2):=mkHid (by unfold nkP; rw [if_pos h1])
    have HNC:Hid (ncP κ ks.length c = 0):=mkHid (by unfold ncP; rw [if_neg (by omega)])
    have c1:(κ == 1) = true:=by rw [h1]; rfl
    have c2:(κ == 2) = false:=by rw [h1]; rfl
    clear h1
    have m:=hs.out.cell 0 _ rfl
    have f:=hs.out.warm 0
    have U8:=mkHid (upd_setCell wr ⟨A,0,none⟩ (.int .i64 2))
    have S9:Hid (HasV (wr.setCell ⟨A,0,none⟩ (.int .i64 2)) A 25 (kidV 2 0 ao2 i cp)):=mkHid (hs.out.set 0 _)
    have Z9:=mkHid (hz.out.upd U8.out (by show w.heap.size + 1 ≠ A; have:=HA.out; omega))
    have K9:=mkHid (hkm.out.upd U8.out (.inr rfl) (fun e=>by have:=(hkm.out.own.blk_lt e).1; have:A + 1≤A:=this; omega))
    have W9:=mkHid (U8.out.below hw.out (by show w.heap.size≤A; have:=HA.out; omega))
    go_wp2_with (first
     | (refine wpList_load_row rfl 25 (.tmp 3) rfl A ?x1 25 (kidV 2 0 ao2 i cp).toArray (0,0) _ S9.out Tryz.underlying25 rfl (inf_pred _ rfl) ?_; (case x1=>rfl))
     | (refine wpList_store_abs rfl 25 (.tmp 2) (.tmp 49) rfl (w.heap.size + 1) (kidV 2 0 ao2 i cp).toArray ?s1 ?s2 25 _ Z9.out (inf_pred _ rfl) rfl (kidV_one _ _ _ _ _) ?_; (case s1=>rfl); (case s2=>rfl); intro w9 s9 u9; have SR:=mkHid s9; have U9:=mkHid u9; clear s9 u9))
    have KR:=K9.out.upd U9.out (.inl rfl) (fun e=>by have:=(K9.out.own.blk_lt e).1; have:=HA.out; omega)
    exact bodyPost_ret (results_cell_row (p:=2) (by kernel_rfl) _ _ (w.heap.size + 1) 25 (kidV 2 0 ao2 i cp).toArray (0,0) _ rfl SR.out Tryz.underlying25 rfl (inf_pred _ rfl)) rfl ⟨⟨_,rfl,_,rfl,by rw [HNK.out,HNC.out]; exact KR.predV (by have:=HA.out; omega) _ _⟩,U9.out.below W9.out (Nat.le_succ _)⟩
   ·have c1:(κ == 1) = false:=by rw [beq_eq_false_iff_ne]; exact h1
    by_cases h2:κ = 2
    ·have HNK:Hid (nkP κ = 1):=mkHid (by unfold nkP; rw [if_neg h1,if_pos h2])
     have HNC:Hid (ncP κ ks.length c = 0):=mkHid (by unfold ncP; rw [if_neg (by omega)])
     have c2:(κ == 2) = true:=by rw [h2]; rfl
     clear h1 h2
     have m:=hs.out.cell 0 _ rfl
     have f:=hs.out.warm 0
     have U8:=mkHid (upd_setCell wr ⟨A,0,none⟩ (.int .i64 1))
     have S9:Hid (HasV (wr.setCell ⟨A,0,none⟩ (.int .i64 1)) A 25 (kidV 1 0 ao2 i cp)):=mkHid (hs.out.set 0 _)
     have Z9:=mkHid (hz.out.upd U8.out (by show w.heap.size + 1 ≠ A; have:=HA.out; omega))
     have K9:=mkHid (hkm.out.upd U8.out (.inr rfl) (fun e=>by have:=(hkm.out.own.blk_lt e).1; have:A + 1≤A:=this; omega))
     have W9:=mkHid (U8.out.below hw.out (by show w.heap.size≤A; have:=HA.out; omega))
     go_wp2_with (first
      | (refine wpList_load_row rfl 25 (.tmp 3) rfl A ?x1 25 (kidV 1 0 ao2 i cp).toArray (0,0) _ S9.out Tryz.underlying25 rfl (inf_pred _ rfl) ?_; (case x1=>rfl))
      | (refine wpList_store_abs rfl 25 (.tmp 2) (.tmp 49) rfl (w.heap.size + 1) (kidV 1 0 ao2 i cp).toArray ?s1 ?s2 25 _ Z9.out (inf_pred _ rfl) rfl (kidV_one _ _ _ _ _) ?_; (case s1=>rfl); (case s2=>rfl); intro w9 s9 u9; have SR:=mkHid s9; have U9:=mkHid u9; clear s9 u9))
     have KR:=K9.out.upd U9.out (.inl rfl) (fun e=>by have:=(K9.out.own.blk_lt e).1; have:=HA.out; omega)
     exact bodyPost_ret (results_cell_row (p:=2) (by kernel_rfl) _ _ (w.heap.size + 1) 25 (kidV 1 0 ao2 i cp).toArray (0,0) _ rfl SR.out Tryz.underlying25 rfl (inf_pred _ rfl)) rfl ⟨⟨_,rfl,_,rfl,by rw [HNK.out,HNC.out]; exact KR.predV (by have:=HA.out; omega) _ _⟩,U9.out.below W9.out (Nat.le_succ _)⟩
    ·have HNK:Hid (nkP κ = κ):=mkHid (by unfold nkP; rw [if_neg h1,if_neg h2])
     have c2:(κ == 2) = false:=by rw [beq_eq_false_iff_ne]; exact h2
     by_cases h3:κ = 3
     ·have c3:(κ == 3) = true:=by rw [h3]; rfl
      obtain ⟨D,hD⟩:∃ D,w64 (w64 ((n:Int) - c) + 1) = D:=⟨_,rfl⟩
      have HNC:Hid (ncP κ ks.length c = D):=mkHid (by unfold ncP; rw [if_pos h3,HLEN.out]; exact hD)
      have e3:IntKind.i64.wrap ((n:Int) - c) = w64 ((n:Int) - c):=by rw [IntKind.wrap_i64]; rfl
      have e4:IntKind.i64.wrap (w64 ((n:Int) - c) + 1) = D:=by rw [IntKind.wrap_i64]; exact hD
      generalize w64 ((n:Int) - c) = D1 at *
      clear h1 h2 h3 hD
      have m:=hs.out.cell 3 _ rfl
      have f:=hs.out.warm 3
      have U8:=mkHid (upd_setCell wr ⟨A,3,none⟩ (.int .i64 D))
      have S9:Hid (HasV (wr.setCell ⟨A,3,none⟩ (.int .i64 D)) A 25 (kidV κ D ao2 i cp)):=mkHid (hs.out.set 3 _)
      have Z9:=mkHid (hz.out.upd U8.out (by show w.heap.size + 1 ≠ A; have:=HA.out; omega))
      have K9:=mkHid (hkm.out.upd U8.out (.inr rfl) (fun e=>by have:=(hkm.out.own.blk_lt e).1; have:A + 1≤A:=this; omega))
      have W9:=mkHid (U8.out.below hw.out (by show w.heap.size≤A; have:=HA.out; omega))
      go_wp2_with (first
       | (refine wpList_load_row rfl 25 (.tmp 3) rfl A ?x1 25 (kidV κ D ao2 i cp).toArray (0,0) _ S9.out Tryz.underlying25 rfl (inf_pred _ rfl) ?_; (case x1=>rfl))
       | (refine wpList_store_abs rfl 25 (.tmp 2) (.tmp 49) rfl (w.heap.size + 1) (kidV κ D ao2 i cp).toArray ?s1 ?s2 25 _ Z9.out (inf_pred _ rfl) rfl (kidV_one _ _ _ _ _) ?_; (case s1=>rfl); (case s2=>rfl); intro w9 s9 u9; have SR:=mkHid s9; have U9:=mkHid u9; clear s9 u9))
      have KR:=K9.out.upd U9.out (.inl rfl) (fun e=>by have:=(K9.out.own.blk_lt e).1; have:=HA.out; omega)
      exact bodyPost_ret (results_cell_row (p:=2) (by kernel_rfl) _ _ (w.heap.size + 1) 25 (kidV κ D ao2 i cp).toArray (0,0) _ rfl SR.out Tryz.underlying25 rfl (inf_pred _ rfl)) rfl ⟨⟨_,rfl,_,rfl,by rw [HNK.out,HNC.out]; exact KR.predV (by have:=HA.out; omega) _ _⟩,U9.out.below W9.out (Nat.le_succ _)⟩
     ·have c3:(κ == 3) = false:=by rw [beq_eq_false_iff_ne]; exact h3
      have HNC:Hid (ncP κ ks.length c = 0):=mkHid (by unfold ncP; rw [if_neg h3])
      have S9:=hs
      have Z9:=hz
      have K9:=hkm
      have W9:=hw
      clear h1 h2 h3
      go_wp2_with (first
       | (refine wpList_load_row rfl 25 (.tmp 3) rfl A ?x1 25 (kidV κ 0 ao2 i cp).toArray (0,0) _ S9.out Tryz.underlying25 rfl (inf_pred _ rfl) ?_; (case x1=>rfl))
       | (refine wpList_store_abs rfl 25 (.tmp 2) (.tmp 49) rfl (w.heap.size + 1) (kidV κ 0 ao2 i cp).toArray ?s1 ?s2 25 _ Z9.out (inf_pred _ rfl) rfl (kidV_one _ _ _ _ _) ?_; (case s1=>rfl); (case s2=>rfl); intro w9 s9 u9; have SR:=mkHid s9; have U9:=mkHid u9; clear s9 u9))
      have KR:=K9.out.upd U9.out (.inl rfl) (fun e=>by have:=(K9.out.own.blk_lt e).1; have:=HA.out; omega)
      exact bodyPost_ret (results_cell_row (p:=2) (by kernel_rfl) _ _ (w.heap.size + 1) 25 (kidV κ 0 ao2 i cp).toArray (0,0) _ rfl SR.out Tryz.underlying25 rfl (inf_pred _ rfl)) rfl ⟨⟨_,rfl,_,rfl,by rw [HNK.out,HNC.out]; exact KR.predV (by have:=HA.out; omega) _ _⟩,U9.out.below W9.out (Nat.le_succ _)⟩
end Go.Proofs.YtmkdfbelbcocpaaGreatDoor
namespace Go.Proofs.YtmkdfbelbcocpaaGreatDoor
open Go.RowKit
def rawC (κ:Int) (y z:ByteArray) (c:Int) (ao:Option Addr) (n cap:Nat):List Value:=[.int .i64 κ,.string y,.string z,.int .i64 c,.slice ao n cap]
theorem negate_any:∀ (N:Nat) (p:Prd) (w:World) (P:Nat→Prop) (vs:List Value),cntP p≤N→N≤1000000→PredC w P p vs →
  Calls Tryz.prog 90 #[.agg vs.toArray] w fun e w'=>NegR w (negP p) e w'
 | 0,p,w,P,vs,hN,_,_=>by have:=cnt_pos p; omega
 | N + 1,.mk κ l r c ks,w,P,vs,hN,hM,h=>by
  have hc:cntL ks≤N:=by unfold cntP at hN; omega
  have hl:=len_le_cntL ks
  unfold PredC at h
  obtain ⟨ao,cap,rfl,hk⟩:=h
  by_cases hκ:κ = 0
  ·subst hκ
   exact neg_atom w l r c ks ao ks.length cap
  ·exact neg_node w P κ l r c ks ao ks.length cap rfl hκ (by omega) hk (fun q w' us hq hp=>negate_any N q w' P us (by
    obtain ⟨i,hi⟩:=List.mem_iff_getElem?.1 hq
    have:=cnt_kid ks i q hi
    omega) (by omega) hp)
mutual
def okT:Prd→Bool
 | .mk k l r c ks=>(decide (-1099511627776≤c) && decide (c < 1099511627776)) && okL ks
def okL:List Prd→Bool
 | []=>true
 | p :: ps=>okT p && okL ps
end
theorem okL_iff:∀ ks:List Prd,okL ks = true ↔ ∀ q∈ks,okT q = true
 | []=>by simp [okL]
 | p :: ps=>by unfold okL; simp [okL_iff ps]
def RngR (w:World) (ok:Bool) (v:Value) (x:Int × Nat) (e:Ending) (w':World):Prop:=Below w.heap.size w w'∧(if ok = true then e = .returned v else e = failE x)
set_option maxHeartbeats 8000000 in
set_option maxRecDepth 100000 in
theorem rng_node (w:World) (P:Nat→Prop) (κ:Int) (l r:List Nat) (c:Int) (ks:List Prd) (ao:Option Addr) (n cap:Nat) (hn:n = ks.length) (hbig:n≤1000000)
  (hk:ks = []∨∃ g off,ao = some ⟨g,off,none⟩∧P g∧g < w.heap.size∧KidsC w P ks g off)
  (R:Nat) (po:Option Addr) (pc:Nat) (ts:List Tok) (sz i0 u:Nat) (hp:ParW w R po pc ts sz i0) (hu:u≤ts.length) (hts:ts.length≤1000000)
  (ih:∀ (q:Prd) (w:World) (vs:List Value),q∈ks→PredC w P q vs→ParW w R po pc ts sz i0→Calls Tryz.prog 292 #[.pointer (some ⟨R,0,none⟩),.agg vs.toArray,.int .i64 (u:Int)] w fun e w'=>RngR w (okT q) (.agg vs.toArray) (3,offP ts sz u) e w') :
  Calls Tryz.prog 292 #[.pointer (some ⟨R,0,none⟩),.agg #[.int .i64 κ,.string (strN l),.string (strN r),.int .i64 c,.slice ao n cap],.int .i64 (u:Int)] w fun e w'=>RngR w (okT (.mk κ l r c ks)) (.agg #[.int .i64 κ,.string (strN l),.string (strN r),.int .i64 c,.slice ao n cap]) (3,offP ts sz u) e w':=by
 obtain ⟨V,hV⟩:∃ V,okT (.mk κ l r c ks) = V:=⟨_,rfl⟩
 rw [hV]
 have HV:=mkHid hV.symm
 clear hV
 have HK:=mkHid hk
 have IH:=mkHid ih
 have HN:=mkHid hn
 have HP:=mkHid hp
 clear hk ih hn hp
 generalize strN l = y at *
 generalize strN r = z at *
 have X1:Hid (HasV ((w.alloc (.cells #[.int .i64 κ,.string y,.string z,.int .i64 c,.slice ao n cap] 25)).alloc (.cells #[.int .i64 0,.string ⟨#[]⟩,.string ⟨#[]⟩,.int .i64 0,.slice none 0 0] 25)) w.heap.size 25 [.int .i64 κ,.string y,.string z,.int .i64 c,.slice ao n cap]):=mkHid (heap_alloc2_old _ _ _)
 have Z1:Hid (HasV ((w.alloc (.cells #[.int .i64 κ,.string y,.string z,.int .i64 c,.slice ao n cap] 25)).alloc (.cells #[.int .i64 0,.string ⟨#[]⟩,.string ⟨#[]⟩,.int .i64 0,.slice none 0 0] 25)) (w.heap.size + 1) 25 pred0):=mkHid (heap_alloc2_new _ _ _)
 have D1:=mkHid (((Below.refl w.heap.size w).alloc (Nat.le_refl _) (.cells #[.int .i64 κ,.string y,.string z,.int .i64 c,.slice ao n cap] 25)).alloc (by simp) (.cells #[.int .i64 0,.string ⟨#[]⟩,.string ⟨#[]⟩,.int .i64 0,.slice none 0 0] 25))
 by_cases hin:-1099511627776≤c∧c < 1099511627776
 ·have g1:¬ c < -1099511627776:=by omega
  have g2:¬ 1099511627776≤c:=by omega
  have HV2:Hid (V = okL ks):=mkHid (by rw [HV.out]; unfold okT; rw [decide_eq_true hin.1,decide_eq_true hin.2]; rfl)
  clear hin HV
  go_enter Tryz.func292,Tryz.ntmps292
  go_wp2_with fail
  clear g1 g2
  generalize (w.alloc (.cells #[.int .i64 κ,.string y,.string z,.int .i64 c,.slice ao n cap] 25)).alloc (.cells #[.int .i64 0,.string ⟨#[]⟩,.string ⟨#[]⟩,.int .i64 0,.slice none 0 0] 25) = w1 at *
  go_loopw [23] (fun cc wr=>∃ (i:Nat),cc = .int .i64 i∧i≤n ∧
    Hid (HasV wr w.heap.size 25 [.int .i64 κ,.string y,.string z,.int .i64 c,.slice ao n cap])∧Hid (HasV wr (w.heap.size + 1) 25 pred0) ∧
    Hid (Below w.heap.size w wr)∧Hid (∀ j q,j < i→ks[j]? = some q→okT q = true)) (fun c _=>(n - intOf c).toNat)
  case atStart=>exact ⟨0,rfl,by omega,X1,Z1,D1,mkHid (fun j q hj=>absurd hj (Nat.not_lt_zero j))⟩
  case round =>
   clear X1 Z1 D1
   obtain ⟨i,rfl,hi,hx,hz,hw,hok⟩:=hrel
   have e2:IntKind.i64.wrap ((i:Int) + 1) = ((i + 1:Nat):Int):=IntWalk.i64_in _ (by omega)
   by_cases hlt:i < n
   ·have ii:(i:Int) < n:=by omega
    have HQ:Hid (∃ q,ks[i]? = some q∧∃ g off,ao = some ⟨g,off,none⟩∧g < w.heap.size∧∃ vs,PredC wr P q vs∧Reads wr g (off + i * 5) vs):=mkHid (by
     have hl:i < ks.length:=by rw [← HN.out]; exact hlt
     refine ⟨ks[i],List.getElem?_eq_getElem hl,?_⟩
     rcases HK.out with h | ⟨g,off,h1,h2,h3,h4⟩
     ·rw [h] at hl; exact absurd hl (Nat.not_lt_zero _)
     ·obtain ⟨vs,hv1,hv2⟩:=KidsC.at ks g off i _ (List.getElem?_eq_getElem hl) h4
      exact ⟨g,off,h1,h3,vs,hv1.below hw.out,hv2.of_block (hw.out.block g h3)⟩)
    obtain ⟨q,hq,g,off,hao,hg,vs,hpc,hrd⟩:=HQ.out
    clear HQ
    have HQI:=mkHid hq
    obtain ⟨xa,xn,xc,hvf,-⟩:=hpc.form
    rw [hvf] at hrd hpc
    have PC:=mkHid hpc
    have r0:=hrd 0 _ rfl
    have r1:=hrd 1 _ rfl
    have r2:=hrd 2 _ rfl
    have r3:=hrd 3 _ rfl
    have r4:=hrd 4 _ rfl
    clear hrd hpc hvf vs hq
    rw [Nat.add_zero] at r0
    have HAO:=mkHid hao
    subst hao
    generalize q.k = q0 at *
    generalize strN q.l = q1 at *
    generalize strN q.r = q2 at *
    generalize q.c = q3 at *
    go_wp2_with fail
    have bx:=(Below.refl wr.heap.size wr).alloc (Nat.le_refl _) (.cells #[.int .i64 q0,.string q1,.string q2,.int .i64 q3,.slice xa xn xc] 25)
    have hx2:=mkHid (hx.out.step bx)
    have hz2:=mkHid (hz.out.step bx)
    have hw2:=mkHid (hw.out.trans (bx.mono hw.out.size))
    have PX:=mkHid (PC.out.below bx)
    have HP2:=mkHid (HP.out.step hw2.out)
    clear r0 r1 r2 r3 r4 bx hx hz hw PC
    generalize wr.alloc (.cells #[.int .i64 q0,.string q1,.string q2,.int .i64 q3,.slice xa xn xc] 25) = wx at *
    refine (IH.out q wx _ (List.mem_of_getElem? HQI.out) PX.out HP2.out).mono ?_
    rintro e w2 ⟨b2,he⟩
    have hx3:=mkHid (hx2.out.step b2)
    have hz3:=mkHid (hz2.out.step b2)
    have hw3:=mkHid (hw2.out.trans (b2.mono hw2.out.size))
    clear b2 hx2 hz2 hw2 PX HP2
    cases hq:okT q with
    | true =>
     rw [hq,if_pos rfl] at he
     subst he
     have HOK:=mkHid hq
     clear hq
     go_wp2
     go_roundw
     case rel=>exact ⟨i + 1,by go_num,by omega,hx3,hz3,hw3,mkHid (fun j q' hj hq'=>by
      rcases Nat.lt_or_ge j i with h | h
      ·exact hok.out j q' h hq'
      ·obtain rfl:j = i:=by omega
       rw [HQI.out] at hq'
       obtain rfl:=Option.some.inj hq'
       exact HOK.out)⟩
     case measure=>simp only [intOf]; omega
    | false =>
     rw [hq,if_neg (by simp)] at he
     have HF:Hid (V = false):=mkHid (by
      rw [HV2.out,Bool.eq_false_iff]
      intro h
      have:=(okL_iff ks).1 h q (List.mem_of_getElem? HQI.out)
      rw [hq] at this
      cases this)
     subst he
     clear hq
     unfold failE
     go_wp2
     exact ⟨rfl,hw3.out,by rw [HF.out]; exact rfl⟩
   ·have ii:¬ ((i:Int) < n):=by omega
    have HT:Hid (V = true):=mkHid (by
     rw [HV2.out,okL_iff]
     intro q hq
     obtain ⟨j,hj⟩:=List.mem_iff_getElem?.1 hq
     have hjl:=(List.getElem?_eq_some_iff.1 hj).1
     exact hok.out j q (by rw [← HN.out] at hjl; omega) hj)
    go_wp2_with (first
     | (refine wpList_load_row rfl 25 (.tmp 4) rfl w.heap.size ?x1 25 (rawC κ y z c ao n cap).toArray (0,0) _ hx.out Tryz.underlying25 rfl (inf_pred _ rfl) ?_; (case x1=>rfl))
     | (refine wpList_store_abs rfl 25 (.tmp 6) (.tmp 32) rfl (w.heap.size + 1) (rawC κ y z c ao n cap).toArray ?s1 ?s2 25 _ hz.out (inf_pred _ rfl) rfl (by simp [rawC,Value.oneCell']) ?_; (case s1=>rfl); (case s2=>rfl); intro w9 s9 u9; have S9:=mkHid s9; have U9:=mkHid u9; clear s9 u9))
    exact bodyPost_ret (results_cell_row (p:=6) (by kernel_rfl) _ _ (w.heap.size + 1) 25 (rawC κ y z c ao n cap).toArray (0,0) _ rfl S9.out Tryz.underlying25 rfl (inf_pred _ rfl)) rfl ⟨U9.out.below hw.out (Nat.le_succ _),by rw [HT.out]; exact rfl⟩
 ·have HF:Hid (V = false):=mkHid (by
   rw [HV.out]; unfold okT
   by_cases h1:-1099511627776≤c
   ·rw [decide_eq_false (show ¬ c < 1099511627776 by omega)]; simp
   ·rw [decide_eq_false h1]; rfl)
  by_cases h1:c < -1099511627776
  ·clear hin
   go_enter Tryz.func292,Tryz.ntmps292
   go_wp2_with fail
   generalize (w.alloc (.cells #[.int .i64 κ,.string y,.string z,.int .i64 c,.slice ao n cap] 25)).alloc (.cells #[.int .i64 0,.string ⟨#[]⟩,.string ⟨#[]⟩,.int .i64 0,.slice none 0 0] 25) = w1 at *
   refine (fail_any w1 R po pc ts sz u i0 3 (HP.out.step D1.out) hu hts).mono ?_
   rintro e w2 ⟨rfl,b2⟩
   have W2:=mkHid (D1.out.trans (b2.mono D1.out.size))
   clear b2
   unfold failE
   go_wp2
   exact ⟨rfl,W2.out,by rw [HF.out]; exact rfl⟩
  ·have g2:1099511627776≤c:=by omega
   clear hin
   go_enter Tryz.func292,Tryz.ntmps292
   go_wp2_with fail
   generalize (w.alloc (.cells #[.int .i64 κ,.string y,.string z,.int .i64 c,.slice ao n cap] 25)).alloc (.cells #[.int .i64 0,.string ⟨#[]⟩,.string ⟨#[]⟩,.int .i64 0,.slice none 0 0] 25) = w1 at *
   refine (fail_any w1 R po pc ts sz u i0 3 (HP.out.step D1.out) hu hts).mono ?_
   rintro e w2 ⟨rfl,b2⟩
   have W2:=mkHid (D1.out.trans (b2.mono D1.out.size))
   clear b2
   unfold failE
   go_wp2
   exact ⟨rfl,W2.out,by rw [HF.out]; exact rfl⟩
theorem ranged_any:∀ (N:Nat) (p:Prd) (w:World) (P:Nat→Prop) (vs:List Value) (R:Nat) (po:Option Addr) (pc:Nat) (ts:List Tok) (sz i0 u:Nat),cntP p≤N→N≤1000000→PredC w P p vs→ParW w R po pc ts sz i0→u≤ts.length→ts.length≤1000000 →
  Calls Tryz.prog 292 #[.pointer (some ⟨R,0,none⟩),.agg vs.toArray,.int .i64 (u:Int)] w fun e w'=>RngR w (okT p) (.agg vs.toArray) (3,offP ts sz u) e w'
 | 0,p,w,P,vs,R,po,pc,ts,sz,i0,u,hN,_,_,_,_,_=>by have:=cnt_pos p; omega
 | N + 1,.mk κ l r c ks,w,P,vs,R,po,pc,ts,sz,i0,u,hN,hM,h,hp,hu,hts=>by
  have hc:cntL ks≤N:=by unfold cntP at hN; omega
  have hl:=len_le_cntL ks
  unfold PredC at h
  obtain ⟨ao,cap,rfl,hk⟩:=h
  exact rng_node w P κ l r c ks ao ks.length cap rfl (by omega) hk R po pc ts sz i0 u hp hu hts (fun q w' us hq hpc hp'=>ranged_any N q w' P us R po pc ts sz i0 u (by
    obtain ⟨i,hi⟩:=List.mem_iff_getElem?.1 hq
    have:=cnt_kid ks i q hi
    omega) (by omega) hpc hp' hu hts)
end Go.Proofs.YtmkdfbelbcocpaaGreatDoor
namespace Go.Proofs.YtmkdfbelbcocpaaGreatDoor
open Go.RowKit
set_option maxHeartbeats 8000000 in
set_option maxRecDepth 100000 in
theorem least_any (w:World) (R:Nat) (ao:Option Addr) (cap:Nat) (ts:List Tok) (sz i u B:Nat) (unit:Nat→PR Prd) (hT:Tab w B) (hR:B≤R) (h:ParW w R ao cap ts sz i) (hi:i≤ts.length) (hu:u≤ts.length) (hn:ts.length≤1000000) (hts:∀ t∈ts,TokOk t) (hgo:Goes ts.length unit)
  (hel:∀ (k:Nat) (w:World),i≤k→k≤ts.length→Tab w B→ParW w R ao cap ts sz k→Calls Tryz.prog 203 #[.pointer (some ⟨R,0,none⟩)] w fun e w'=>PredR w R ao cap ts sz (unit k) e w') :
  Calls Tryz.prog 244 #[.pointer (some ⟨R,0,none⟩),.int .i64 (u:Int)] w fun e w'=>PredR w R ao cap ts sz (leastP ts sz unit u i) e w':=by
 obtain ⟨V,hV⟩:∃ V,leastP ts sz unit u i = V:=⟨_,rfl⟩
 rw [hV]
 have HV:=mkHid hV.symm
 unfold leastP at HV
 clear hV
 have Z0:Hid (HasV (w.alloc (.cells #[.int .i64 0,.string ⟨#[]⟩,.string ⟨#[]⟩,.int .i64 0,.slice none 0 0] 25)) w.heap.size 25 pred0):=mkHid (HasV.new w _ pred0)
 have B0:=mkHid ((Below.refl w.heap.size w).alloc (Nat.le_refl _) (.cells #[.int .i64 0,.string ⟨#[]⟩,.string ⟨#[]⟩,.int .i64 0,.slice none 0 0] 25))
 have P0:=mkHid (h.step B0.out)
 have T0:=mkHid (hT.step B0.out)
 have Q0:=mkHid (Only.refl (w.alloc (.cells #[.int .i64 0,.string ⟨#[]⟩,.string ⟨#[]⟩,.int .i64 0,.slice none 0 0] 25)) (· = R))
 have H0:=mkHid h
 have BO:=mkHid (Only.of_below (p:=(· = R)) B0.out)
 have SZ:Hid ((w.alloc (.cells #[.int .i64 0,.string ⟨#[]⟩,.string ⟨#[]⟩,.int .i64 0,.slice none 0 0] 25)).heap.size = w.heap.size + 1):=mkHid (by simp)
 have RL:=mkHid h.lt
 have HTS:=mkHid hts
 have HGO:=mkHid hgo
 have HEL:Hid (∀ (k:Nat) (w:World),i≤k→k≤ts.length→Tab w B→ParW w R ao cap ts sz k→Calls Tryz.prog 74 #[.pointer (some ⟨R,0,none⟩)] w fun e w'=>PredR w R ao cap ts sz (someP ts unit k) e w') :=
  mkHid (fun k w h1 h2 hT hp=>some_any w R ao cap ts sz k B unit hT hR hp h2 hn hts hgo (fun k' w h3 h4=>hel k' w (Nat.le_trans h1 h3) h4))
 clear h hT hts hgo hel
 go_enter Tryz.func244,Tryz.ntmps244
 go_wp2_with fail
 generalize w.alloc (.cells #[.int .i64 0,.string ⟨#[]⟩,.string ⟨#[]⟩,.int .i64 0,.slice none 0 0] 25) = w0 at *
 cases h1:isP ts [108,101,97,115,116] (i) with
 | false =>
  refine (take_no w0 R ao cap ts sz (i) [108,101,97,115,116] P0.out hi hn HTS.out (by decide) h1).mono ?_
  rw [takeP_no h1] at HV
  clear h1
  rintro e w1 ⟨rfl,o1⟩
  have Q1:=mkHid (Q0.out.trans o1)
  clear o1 Q0
  unfold failE
  go_wp2
  exact ⟨rfl,parR_no (by rw [HV.out]; try rfl) (BO.out.trans Q1.out) rfl⟩
 | true =>
  have l1:=isP_lt h1
  rw [takeP_yes h1] at HV
  simp only [Except.bind] at HV
  refine (take_ok w0 R ao cap ts sz (i) [108,101,97,115,116] P0.out hn HTS.out (by decide) h1).mono ?_
  clear h1
  rintro e w1 ⟨rfl,p1,o1⟩
  have P1:=mkHid p1
  have T1:=mkHid (T0.out.onlyR o1 hR)
  have Q1:=mkHid (Q0.out.trans o1)
  clear p1 o1 P0 T0 Q0
  go_wp2_with fail
  cases h2:isNumP ts (i + 1) with
  | false =>
   refine (number_no w1 R ao cap ts sz (i + 1) P1.out l1 hn HTS.out h2).mono ?_
   rw [numP_no h2] at HV
   clear h2
   rintro e w2 ⟨rfl,o2⟩
   have Q2:=mkHid (Q1.out.trans o2)
   clear o2 Q1
   unfold failE
   go_wp2
   exact ⟨rfl,parR_no (by rw [HV.out]; try rfl) (BO.out.trans Q2.out) rfl⟩
  | true =>
   have l2:=isNumP_lt h2
   rw [numP_yes h2] at HV
   simp only [Except.bind] at HV
   have hv2:=valP_le HTS.out (i + 1)
   refine (number_ok w1 R ao cap ts sz (i + 1) P1.out hn HTS.out h2).mono ?_
   clear h2
   generalize valP ts (i + 1) = N at *
   rintro e w2 ⟨rfl,p2,o2⟩
   have P2:=mkHid p2
   have T2:=mkHid (T1.out.onlyR o2 hR)
   have Q2:=mkHid (Q1.out.trans o2)
   clear p2 o2 P1 T1 Q1
   go_wp2_with fail
   have S3:Hid (HasV (w2.alloc (.cells #[.int .i64 3,.string ⟨#[]⟩,.string ⟨#[]⟩,.int .i64 (N:Int),.slice none 0 0] 25)) w2.heap.size 25 (kidV 3 (N:Int) none 0 0)):=mkHid (heap_alloc_new w2 _)
   have b3:=(Below.refl w2.heap.size w2).alloc (Nat.le_refl _) (.cells #[.int .i64 3,.string ⟨#[]⟩,.string ⟨#[]⟩,.int .i64 (N:Int),.slice none 0 0] 25)
   have P3:=mkHid (P2.out.step b3)
   have T3:=mkHid (T2.out.step b3)
   have Q3:=mkHid (Q2.out.step b3)
   have HA:Hid (w.heap.size < w2.heap.size):=mkHid (by have:=Q2.out.size; have:=SZ.out; omega)
   have RA:Hid (R < w2.heap.size):=mkHid (by have:=HA.out; have:=RL.out; omega)
   clear b3 P2 T2 Q2
   generalize w2.alloc (.cells #[.int .i64 3,.string ⟨#[]⟩,.string ⟨#[]⟩,.int .i64 (N:Int),.slice none 0 0] 25) = w3 at *
   generalize w2.heap.size = A at *
   clear w2
   cases h4:isP ts [111,102] (i + 1 + 1) with
   | false =>
    refine (take_no w3 R ao cap ts sz (i + 1 + 1) [111,102] P3.out l2 hn HTS.out (by decide) h4).mono ?_
    rw [takeP_no h4] at HV
    clear h4
    rintro e w4 ⟨rfl,o4⟩
    have Q4:=mkHid (Q3.out.trans o4)
    clear o4 Q3
    unfold failE
    go_wp2
    exact ⟨rfl,parR_no (by rw [HV.out]; try rfl) (BO.out.trans Q4.out) rfl⟩
   | true =>
    have l4:=isP_lt h4
    rw [takeP_yes h4] at HV
    simp only [Except.bind] at HV
    refine (take_ok w3 R ao cap ts sz (i + 1 + 1) [111,102] P3.out hn HTS.out (by decide) h4).mono ?_
    clear h4
    rintro e w4 ⟨rfl,p4,o4⟩
    have S4:=mkHid (S3.out.only o4 (by have:=RA.out; omega))
    have P4:=mkHid p4
    have T4:=mkHid (T3.out.onlyR o4 hR)
    have Q4:=mkHid (Q3.out.trans o4)
    clear p4 o4 P3 T3 Q3
    go_wp2_with fail
    cases h5:isP ts [40] (i + 1 + 1 + 1) with
    | false =>
     refine (take_no w4 R ao cap ts sz (i + 1 + 1 + 1) [40] P4.out l4 hn HTS.out (by decide) h5).mono ?_
     rw [takeP_no h5] at HV
     clear h5
     rintro e w5 ⟨rfl,o5⟩
     have Q5:=mkHid (Q4.out.trans o5)
     clear o5 Q4
     unfold failE
     go_wp2
     exact ⟨rfl,parR_no (by rw [HV.out]; try rfl) (BO.out.trans Q5.out) rfl⟩
    | true =>
     have l5:=isP_lt h5
     rw [takeP_yes h5] at HV
     simp only [Except.bind] at HV
     refine (take_ok w4 R ao cap ts sz (i + 1 + 1 + 1) [40] P4.out hn HTS.out (by decide) h5).mono ?_
     clear h5
     rintro e w5 ⟨rfl,p5,o5⟩
     have S5:=mkHid (S4.out.only o5 (by have:=RA.out; omega))
     have P5:=mkHid p5
     have T5:=mkHid (T4.out.onlyR o5 hR)
     have Q5:=mkHid (Q4.out.trans o5)
     clear p5 o5 P4 T4 Q4
     have Z5:=mkHid (Z0.out.only Q5.out (by have:=RL.out; omega))
     have HVN:=mkHid (show V = (listP ts [44] (someP ts unit) (ts.length + 1) (i + 1 + 1 + 1 + 1) []).bind (fun r=>(takeP ts sz [41] r.2).bind (fun j=>if 1≤N∧N≤r.1.length then (.ok (.mk 3 [] [] (N:Int) r.1,j):PR Prd) else .error (3,offP ts sz u))) from HV.out)
     have OB:=mkHid (BO.out.trans Q5.out)
     clear HV Q5 BO
     go_wp2_with fail
     go_loopw [6] (fun c wr=>∃ (b:Bool) (j f k cp:Nat) (ao2:Option Addr) (ps:List Prd) (vss:List (List Value)),c = .bool b∧i≤j∧j≤ts.length∧k≤j ∧
       Hid (HasV wr A 25 (kidV 3 (N:Int) ao2 k cp))∧Hid (HasV wr w.heap.size 25 pred0) ∧
       Hid (KidsM w wr (A + 1) (fun g=>g = w.heap.size∨g = A) ao2 k cp ps vss)∧Hid (ParW wr R ao cap ts sz j)∧Hid (Only w wr (· = R))∧Hid (Tab wr B) ∧
       Hid (b = true→V = (listP ts [44] (someP ts unit) f j ps).bind (fun r=>(takeP ts sz [41] r.2).bind (fun j=>if 1≤N∧N≤r.1.length then (.ok (.mk 3 [] [] (N:Int) r.1,j):PR Prd) else .error (3,offP ts sz u)))∧ts.length - j < f) ∧
       Hid (b = false→V = (takeP ts sz [41] j).bind (fun j=>if 1≤N∧N≤ps.length then (.ok (.mk 3 [] [] (N:Int) ps,j):PR Prd) else .error (3,offP ts sz u)))) (fun _ wr=>ts.length + 1 - idxW wr R)
     case atStart=>exact ⟨true,i + 1 + 1 + 1 + 1,ts.length + 1,0,0,none,[],[],rfl,by omega,l5,by omega,S5,Z5,mkHid (KidsM.nil _ _ _ _),P5,OB,T5,mkHid (fun _=>⟨HVN.out,by omega⟩),mkHid (fun e=>by cases e)⟩
     case round =>
      clear S5 Z5 OB HVN P5 T5
      obtain ⟨b,j,f,k,cp,ao2,ps,vss,rfl,hij,hj,hkj,hs,hz,hk,hp,ho,ht,hv1,hv0⟩:=hrel
      cases b with
      | false =>
       have HF:=mkHid (hv0.out rfl)
       clear hv1 hv0
       go_wp2_with fail
       cases h9:isP ts [41] j with
       | false =>
        refine (take_no wr R ao cap ts sz j [41] hp.out hj hn HTS.out (by decide) h9).mono ?_
        rw [takeP_no h9] at HF
        clear h9
        rintro e w6 ⟨rfl,o6⟩
        have O6:=mkHid (ho.out.trans o6)
        clear o6
        unfold failE
        go_wp2
        exact ⟨rfl,parR_no (by rw [HF.out]; try rfl) O6.out rfl⟩
       | true =>
        have l9:=isP_lt h9
        rw [takeP_yes h9] at HF
        simp only [Except.bind] at HF
        refine (take_ok wr R ao cap ts sz j [41] hp.out hn HTS.out (by decide) h9).mono ?_
        clear h9
        rintro e w6 ⟨rfl,p6,o6⟩
        have P6:=mkHid p6
        have O6:=mkHid (ho.out.trans o6)
        have S6:=mkHid (hs.out.only o6 (by have:=RA.out; omega))
        have Z6:=mkHid (hz.out.only o6 (by have:=RL.out; omega))
        have K6:=mkHid (hk.out.only o6 RL.out (by have:=HA.out; omega))
        have hcnt:=hk.out.cnt
        clear p6 o6 hp ho hs hz hk ht
        have c3:=S6.out.cell 3 _ rfl
        have c4:=S6.out.cell 4 _ rfl
        by_cases g1:1≤N
        ·have i1:¬ ((N:Int) < 1):=by omega
         by_cases g2:N≤k
         ·have i2:¬ ((k:Int) < N):=by omega
          have HF2:Hid (V = .ok (.mk 3 [] [] (N:Int) ps,j + 1)):=mkHid (by rw [HF.out,if_pos ⟨g1,by omega⟩])
          clear hcnt HF g1 g2
          go_wp2_with (first
           | (refine wpList_load_row rfl 25 (.tmp 5) rfl A ?x1 25 (kidV 3 (N:Int) ao2 k cp).toArray (0,0) _ S6.out Tryz.underlying25 rfl (inf_pred _ rfl) ?_; (case x1=>rfl))
           | (refine wpList_store_abs rfl 25 (.tmp 4) (.tmp 42) rfl w.heap.size (kidV 3 (N:Int) ao2 k cp).toArray ?s1 ?s2 25 _ Z6.out (inf_pred _ rfl) rfl (kidV_one _ _ _ _ _) ?_; (case s1=>rfl); (case s2=>rfl); intro w9 s9 u9; have S9:=mkHid s9; have U9:=mkHid u9; clear s9 u9))
          have K9:=K6.out.upd U9.out (.inl rfl) (fun e=>by have:=(K6.out.own.blk_lt e).1; have:=HA.out; omega)
          exact bodyPost_ret (results_cell_row (p:=4) (by kernel_rfl) _ _ w.heap.size 25 (kidV 3 (N:Int) ao2 k cp).toArray (0,0) _ rfl S9.out Tryz.underlying25 rfl (inf_pred _ rfl)) rfl (parR_ok HF2.out (O6.out.updNew U9.out (Nat.le_refl _)) rfl ⟨_,rfl,K9.predV (by have:=HA.out; omega) 3 (N:Int)⟩ (H0.out.upd P6.out U9.out (Nat.le_refl _)))
         ·have i2:(k:Int) < N:=by omega
          have HF2:Hid (V = .error (3,offP ts sz u)):=mkHid (by rw [HF.out,if_neg (fun h=>g2 (by omega))])
          clear hcnt HF g1 g2
          go_wp2_with fail
          refine (fail_any w6 R ao cap ts sz u (j + 1) 3 P6.out hu hn).mono ?_
          rintro e w7 ⟨rfl,b7⟩
          have O7:=mkHid (O6.out.step b7)
          clear b7
          unfold failE
          go_wp2
          exact ⟨rfl,parR_no HF2.out O7.out rfl⟩
        ·have i1:(N:Int) < 1:=by omega
         have HF2:Hid (V = .error (3,offP ts sz u)):=mkHid (by rw [HF.out,if_neg (fun h=>g1 h.1)])
         clear hcnt HF g1
         go_wp2_with fail
         refine (fail_any w6 R ao cap ts sz u (j + 1) 3 P6.out hu hn).mono ?_
         rintro e w7 ⟨rfl,b7⟩
         have O7:=mkHid (O6.out.step b7)
         clear b7
         unfold failE
         go_wp2
         exact ⟨rfl,parR_no HF2.out O7.out rfl⟩
      | true =>
       have HF:=mkHid (hv1.out rfl)
       clear hv1 hv0
       have c4:=hs.out.cell 4 _ rfl
       go_upto_region 8 with (fail)
       refine wp_region_pick [0,1,2] [3,4,5,6,7] (fun w'=>w'.cell? ⟨A,4,none⟩ = some (.slice ao2 k cp)) (by kernel_rfl) (by kernel_rfl) (by kernel_rfl) (fun _ _ d _ _ h=>by cases d <;> exact h) c4 ?_
       simp only [pickI,List.filterMap_cons,List.filterMap_nil,List.getElem?_cons_zero,List.getElem?_cons_succ,Option.map_some,List.map_cons,List.map_nil]
       apply Exists.intro
       refine ⟨?hh,?ht⟩
       case hh =>
        intro w' hw'
        repeat still_step
        exact wpStill_nil rfl
       case ht =>
        have BD:Below wr.heap.size wr wr.drew:=(Below.refl wr.heap.size wr).drew
        have ZD:Hid (wr.drew.heap.size = wr.heap.size):=mkHid rfl
        have hs1:=mkHid (hs.out.step BD)
        have hz1:=mkHid (hz.out.step BD)
        have hk1:=mkHid (hk.out.step BD)
        have hp1:=mkHid (hp.out.step BD)
        have ho1:=mkHid (ho.out.step BD)
        have HID:=mkHid hp.out.idx
        have WS:Hid (A < wr.heap.size):=mkHid hs.out.lt
        have T1:=mkHid (ht.out.step BD)
        clear BD c4 hs hz hk hp ho ht
        generalize wr.drew = wd at *
        have c4:=hs1.out.cell 4 _ rfl
        refine wpTailT_cons ?_
        go_wp2_with fail
        refine (HEL.out j wd hij hj T1.out hp1.out).mono ?_
        rintro e w2 ⟨o2,hr⟩
        have hf0:∃ f',f = f' + 1:=⟨f - 1,by have:=HF.out.2; omega⟩
        obtain ⟨f',rfl⟩:=hf0
        cases hej:someP ts unit j with
        | error x =>
         rw [hej] at hr
         have HVX:Hid (V = .error x):=mkHid (by rw [HF.out.1,listP,hej]; rfl)
         have O2:=mkHid (ho1.out.trans o2)
         clear o2 hej
         subst hr
         unfold failE
         go_wp2
         exact ⟨rfl,parR_no HVX.out O2.out rfl⟩
        | ok r =>
         rw [hej] at hr
         obtain ⟨p,j2⟩:=r
         obtain ⟨⟨v,rfl,vs,rfl,hpc⟩,hp2⟩:=hr
         have hgo:=(someP_ok HGO.out) j (p,j2) hej
         have HF2:Hid (V = (if isP ts [44] j2 = true then listP ts [44] (someP ts unit) f' (j2 + 1) (ps ++ [p]) else .ok (ps ++ [p],j2)).bind (fun r=>(takeP ts sz [41] r.2).bind (fun j=>if 1≤N∧N≤r.1.length then (.ok (.mk 3 [] [] (N:Int) r.1,j):PR Prd) else .error (3,offP ts sz u)))):=mkHid (by rw [HF.out.1,listP,hej]; rfl)
         have HFF:Hid (ts.length - j < f' + 1):=mkHid HF.out.2
         have O2:=mkHid (ho1.out.trans o2)
         have RW:Hid (R < w.heap.size):=RL
         have S2:=mkHid (hs1.out.only o2 (by have:=RA.out; omega))
         have Z2:=mkHid (hz1.out.only o2 (by have:=RW.out; omega))
         have K2:=mkHid (hk1.out.only o2 RW.out (by have:=HA.out; omega))
         have P2:=mkHid hp2
         have T2:=mkHid (T1.out.onlyR o2 hR)
         have L2:Hid (wd.heap.size≤w2.heap.size):=mkHid o2.size
         have PC:=mkHid hpc
         have WD:Hid (A < wd.heap.size):=mkHid hs1.out.lt
         clear HF hej o2 hp2 hpc c4
         go_wp2_with fail
         have c2:=S2.out.cell 4 _ rfl
         refine postOf_normal ⟨c2,?_⟩
         refine wpTailT_cons ?_
         have hl5:vs.length = 5:=PC.out.len
         have hfd:=fold5 #[.int .i64 0,.string ⟨#[]⟩,.string ⟨#[]⟩,.int .i64 0,.slice none 0 0] rfl vs hl5
         go_wp2_with fail
         refine postOf_normal ⟨(((Below.refl w2.heap.size w2).alloc (Nat.le_refl _) (.cells vs.toArray 25)).cell (p:=⟨A,4,none⟩) S2.out.lt).trans c2,?_⟩
         clear c2
         refine wpTailT_cons ?_
         go_wp2_with (at_builtin; refine app_k 23 25 predZ 5 72 Tryz.underlying23 info_pred rfl (by omega) (by omega) w2 (A + 1) rfl (.tmp 20) (.tmp 23) rfl ao2 cp k vss.flatten ?q1 K2.out.own S2.out.lt 1 1 vs.toArray 25 ?q2 ?q6 (by omega) PC.out.ones ?q4 ?_; (case q1=>rfl); (case q2=>rfl); (case q6=>rw [List.size_toArray,hl5]); (case q4=>omega); intro g5 off5 c5 wa o8 gr8 b8 or8; have O8:=mkHid o8; have GR8:=mkHid gr8; have B8:=mkHid b8; have OR8:=mkHid or8; clear o8 gr8 b8 or8)
         have KA:=mkHid (KidsM.add hk1.out K2.out (by have:=WD.out; have:=HA.out; omega) (fun g hg=>by have:=WD.out; have:=HA.out; rcases hg with h | h <;> omega) PC.out O8.out GR8.out OR8.out)
         have SA:=mkHid (S2.out.below B8.out (Nat.lt_succ_self A))
         have ZA:=mkHid (Z2.out.below B8.out (by have:=HA.out; omega))
         have BB8:=mkHid (B8.out.mono (B':=w.heap.size) (by have:=HA.out; omega))
         have PA:=mkHid (H0.out.below P2.out BB8.out)
         have OA:=mkHid (O2.out.belowB BB8.out)
         have TA:=mkHid (T2.out.below B8.out (by have:=RA.out; omega))
         clear K2 S2 Z2 P2 O2 T2 GR8 OR8 B8 BB8 hs1 hz1 hk1 hp1 ho1 T1 PC
         refine postOf_normal ⟨SA.out.cell 4 _ rfl,?_⟩
         refine wpTailT_cons ?_
         go_wp2_with fail
         refine postOf_normal ⟨SA.out.cell 4 _ rfl,?_⟩
         refine wpTailT_one ?_
         have m4:=SA.out.cell 4 _ rfl
         have f4:=SA.out.warm 4
         go_wp2_with fail
         clear m4 f4
         have U5:=mkHid (upd_setCell wa ⟨A,4,none⟩ (.slice (some ⟨g5,off5,none⟩) (k + 1) c5))
         have S5:Hid (HasV (wa.setCell ⟨A,4,none⟩ (.slice (some ⟨g5,off5,none⟩) (k + 1) c5)) A 25 (kidV 3 (N:Int) (some ⟨g5,off5,none⟩) (k + 1) c5)):=mkHid (SA.out.set 4 _)
         have Z5:=mkHid (ZA.out.upd U5.out (by show w.heap.size ≠ A; have:=HA.out; omega))
         have K5:=mkHid (KA.out.upd U5.out (.inr rfl) (fun e=>by have:=(KA.out.own.blk_lt e).1; have:A + 1≤A:=this; omega))
         have P5:=mkHid (H0.out.upd PA.out U5.out (by show w.heap.size≤A; have:=HA.out; omega))
         have O5:=mkHid (OA.out.updNew U5.out (by show w.heap.size≤A; have:=HA.out; omega))
         have T5:=mkHid (TA.out.below (Below.upd (B:=A) U5.out (Nat.le_refl _)) (by have:=RA.out; omega))
         clear SA ZA KA PA OA TA U5 O8
         generalize wa.setCell ⟨A,4,none⟩ (.slice (some ⟨g5,off5,none⟩) (k + 1) c5) = w5 at *
         cases hw:isP ts [44] j2 with
         | false =>
          refine (skip_no w5 R ao cap ts sz j2 [44] P5.out hgo.2 hn HTS.out (by decide) hw).mono ?_
          have HX:Hid (V = (takeP ts sz [41] j2).bind (fun j=>if 1≤N∧N≤(ps ++ [p]).length then (.ok (.mk 3 [] [] (N:Int) (ps ++ [p]),j):PR Prd) else .error (3,offP ts sz u))):=mkHid (by rw [HF2.out,if_neg (by rw [hw]; simp)]; rfl)
          rintro e w6 ⟨rfl,b6⟩
          have S6:=mkHid (S5.out.step b6)
          have Z6:=mkHid (Z5.out.step b6)
          have K6:=mkHid (K5.out.step b6)
          have P6:=mkHid (P5.out.step b6)
          have O6:=mkHid (O5.out.step b6)
          have T6:=mkHid (T5.out.step b6)
          clear b6 S5 Z5 K5 P5 O5 T5 hw HF2
          go_wp2
          go_roundw
          case rel=>exact ⟨false,j2,0,k + 1,c5,some ⟨g5,off5,none⟩,ps ++ [p],vss ++ [vs],rfl,by omega,by omega,by omega,S6,Z6,K6,P6,O6,T6,mkHid (fun e=>by cases e),mkHid (fun _=>HX.out)⟩
          case measure=>rw [P6.out.idx,HID.out]; omega
         | true =>
          have hlt:=isP_lt hw
          refine (skip_yes w5 R ao cap ts sz j2 [44] P5.out hn HTS.out (by decide) hw).mono ?_
          have HX:Hid (V = (listP ts [44] (someP ts unit) f' (j2 + 1) (ps ++ [p])).bind (fun r=>(takeP ts sz [41] r.2).bind (fun j=>if 1≤N∧N≤r.1.length then (.ok (.mk 3 [] [] (N:Int) r.1,j):PR Prd) else .error (3,offP ts sz u)))):=mkHid (by rw [HF2.out,if_pos hw])
          rintro e w6 ⟨rfl,p6,o6⟩
          have S6:=mkHid (S5.out.only o6 (by have:=RA.out; omega))
          have Z6:=mkHid (Z5.out.only o6 (by have:=RW.out; omega))
          have K6:=mkHid (K5.out.only o6 RW.out (by have:=HA.out; omega))
          have P6:=mkHid p6
          have O6:=mkHid (O5.out.trans o6)
          have T6:=mkHid (T5.out.onlyR o6 hR)
          clear p6 o6 S5 Z5 K5 P5 O5 T5 hw HF2
          go_wp2
          go_roundw
          case rel=>exact ⟨true,j2 + 1,f',k + 1,c5,some ⟨g5,off5,none⟩,ps ++ [p],vss ++ [vs],rfl,by omega,by omega,by omega,S6,Z6,K6,P6,O6,T6,mkHid (fun _=>⟨HX.out,by have:=HFF.out; omega⟩),mkHid (fun e=>by cases e)⟩
          case measure=>rw [P6.out.idx,HID.out]; omega
end Go.Proofs.YtmkdfbelbcocpaaGreatDoor
namespace Go.Proofs.YtmkdfbelbcocpaaGreatDoor
open Go.RowKit
def MkR (w:World) (p:Prd) (e:Ending) (w':World):Prop:=(∃ v,e = .returned v∧PredV w.heap.size w' p v)∧Below w.heap.size w w'
set_option maxHeartbeats 4000000 in
set_option maxRecDepth 100000 in
theorem sg2_any (a b:SumV) (w:World) (ha:SumOk a) (hb:SumOk b) :
  Calls Tryz.prog 339 #[.agg (sumC a).toArray,.agg (sumC b).toArray] w fun e w'=>MkR w (makeP 0 a b) e w':=by
 obtain ⟨a1,a2⟩:=a
 obtain ⟨b1,b2⟩:=b
 have HM:=mkHid (fun w=>most_any ⟨a1,a2⟩ ⟨b1,b2⟩ 0 w ha hb (by omega) (by omega))
 clear ha hb
 have HE:Hid (makeP 0 ⟨a1,a2⟩ ⟨b1,b2⟩ = .mk 0 a1 b1 (b2 - a2 - 0) []):=mkHid rfl
 rw [HE.out]
 clear HE
 unfold sumC at *
 generalize hD:b2 - a2 - 0 = D at *
 have HD:=mkHid hD
 clear hD
 have HM2:Hid (∀ w:World,Calls Tryz.prog 291 #[.agg #[.string (strN a1),.int .i64 a2],.agg #[.string (strN b1),.int .i64 b2],.int .i64 0] w fun e w'=>e = .returned (.agg (atomC a1 b1 D).toArray)∧Below w.heap.size w w'):=mkHid (fun w=>by have:=HM.out w; simp only [HD.out] at this; exact this)
 clear HM HD
 generalize strN a1 = x at *
 generalize strN b1 = y at *
 have X1:Hid (HasV (((w.alloc (.cells #[.string x,.int .i64 a2] 258)).alloc (.cells #[.string y,.int .i64 b2] 258)).alloc (.cells #[.int .i64 0,.string ⟨#[]⟩,.string ⟨#[]⟩,.int .i64 0,.slice none 0 0] 25)) w.heap.size 258 [.string x,.int .i64 a2]):=mkHid (heap_alloc3_old _ _ _ _)
 have Y1:Hid (HasV (((w.alloc (.cells #[.string x,.int .i64 a2] 258)).alloc (.cells #[.string y,.int .i64 b2] 258)).alloc (.cells #[.int .i64 0,.string ⟨#[]⟩,.string ⟨#[]⟩,.int .i64 0,.slice none 0 0] 25)) (w.heap.size + 1) 258 [.string y,.int .i64 b2]):=mkHid (heap_alloc3_mid _ _ _ _)
 have Z1:Hid (HasV (((w.alloc (.cells #[.string x,.int .i64 a2] 258)).alloc (.cells #[.string y,.int .i64 b2] 258)).alloc (.cells #[.int .i64 0,.string ⟨#[]⟩,.string ⟨#[]⟩,.int .i64 0,.slice none 0 0] 25)) (w.heap.size + 1 + 1) 25 pred0):=mkHid (heap_alloc3_new _ _ _ _)
 have D1:=mkHid ((((Below.refl w.heap.size w).alloc (Nat.le_refl _) (.cells #[.string x,.int .i64 a2] 258)).alloc (by simp) (.cells #[.string y,.int .i64 b2] 258)).alloc (by simp; omega) (.cells #[.int .i64 0,.string ⟨#[]⟩,.string ⟨#[]⟩,.int .i64 0,.slice none 0 0] 25))
 go_enter Tryz.func339,Tryz.ntmps339
 go_wp2_with fail
 generalize ((w.alloc (.cells #[.string x,.int .i64 a2] 258)).alloc (.cells #[.string y,.int .i64 b2] 258)).alloc (.cells #[.int .i64 0,.string ⟨#[]⟩,.string ⟨#[]⟩,.int .i64 0,.slice none 0 0] 25) = w1 at *
 refine (HM2.out _).mono ?_
 rintro e w2 ⟨rfl,b2'⟩
 have Z2:=mkHid (Z1.out.step b2')
 have D2:=mkHid (D1.out.trans (b2'.mono D1.out.size))
 clear b2' Z1 D1 X1 Y1
 go_wp2_with (refine wpList_store_abs rfl 25 (.tmp 4) (.tmp 7) rfl (w.heap.size + 1 + 1) (atomC a1 b1 D).toArray ?s1 ?s2 25 _ Z2.out (inf_pred _ rfl) rfl (by simp [atomC,Value.oneCell']) ?_; (case s1=>rfl); (case s2=>rfl); intro w9 s9 u9; have S9:=mkHid s9; have U9:=mkHid u9; clear s9 u9)
 exact bodyPost_ret (results_cell_row (p:=4) (by kernel_rfl) _ _ (w.heap.size + 1 + 1) 25 (atomC a1 b1 D).toArray (0,0) _ rfl S9.out Tryz.underlying25 rfl (inf_pred _ rfl)) rfl ⟨⟨_,rfl,_,rfl,atomC_pred _ _ _ _ _⟩,U9.out.below D2.out (by omega)⟩
set_option maxHeartbeats 4000000 in
set_option maxRecDepth 100000 in
theorem sg3_any (a b:SumV) (w:World) (ha:SumOk a) (hb:SumOk b) :
  Calls Tryz.prog 340 #[.agg (sumC a).toArray,.agg (sumC b).toArray] w fun e w'=>MkR w (makeP 1 a b) e w':=by
 obtain ⟨a1,a2⟩:=a
 obtain ⟨b1,b2⟩:=b
 have HM:=mkHid (fun w=>most_any ⟨a1,a2⟩ ⟨b1,b2⟩ 1 w ha hb (by omega) (by omega))
 clear ha hb
 have HE:Hid (makeP 1 ⟨a1,a2⟩ ⟨b1,b2⟩ = .mk 0 a1 b1 (b2 - a2 - 1) []):=mkHid rfl
 rw [HE.out]
 clear HE
 unfold sumC at *
 generalize hD:b2 - a2 - 1 = D at *
 have HD:=mkHid hD
 clear hD
 have HM2:Hid (∀ w:World,Calls Tryz.prog 291 #[.agg #[.string (strN a1),.int .i64 a2],.agg #[.string (strN b1),.int .i64 b2],.int .i64 1] w fun e w'=>e = .returned (.agg (atomC a1 b1 D).toArray)∧Below w.heap.size w w'):=mkHid (fun w=>by have:=HM.out w; simp only [HD.out] at this; exact this)
 clear HM HD
 generalize strN a1 = x at *
 generalize strN b1 = y at *
 have X1:Hid (HasV (((w.alloc (.cells #[.string x,.int .i64 a2] 258)).alloc (.cells #[.string y,.int .i64 b2] 258)).alloc (.cells #[.int .i64 0,.string ⟨#[]⟩,.string ⟨#[]⟩,.int .i64 0,.slice none 0 0] 25)) w.heap.size 258 [.string x,.int .i64 a2]):=mkHid (heap_alloc3_old _ _ _ _)
 have Y1:Hid (HasV (((w.alloc (.cells #[.string x,.int .i64 a2] 258)).alloc (.cells #[.string y,.int .i64 b2] 258)).alloc (.cells #[.int .i64 0,.string ⟨#[]⟩,.string ⟨#[]⟩,.int .i64 0,.slice none 0 0] 25)) (w.heap.size + 1) 258 [.string y,.int .i64 b2]):=mkHid (heap_alloc3_mid _ _ _ _)
 have Z1:Hid (HasV (((w.alloc (.cells #[.string x,.int .i64 a2] 258)).alloc (.cells #[.string y,.int .i64 b2] 258)).alloc (.cells #[.int .i64 0,.string ⟨#[]⟩,.string ⟨#[]⟩,.int .i64 0,.slice none 0 0] 25)) (w.heap.size + 1 + 1) 25 pred0):=mkHid (heap_alloc3_new _ _ _ _)
 have D1:=mkHid ((((Below.refl w.heap.size w).alloc (Nat.le_refl _) (.cells #[.string x,.int .i64 a2] 258)).alloc (by simp) (.cells #[.string y,.int .i64 b2] 258)).alloc (by simp; omega) (.cells #[.int .i64 0,.string ⟨#[]⟩,.string ⟨#[]⟩,.int .i64 0,.slice none 0 0] 25))
 go_enter Tryz.func340,Tryz.ntmps340
 go_wp2_with fail
 generalize ((w.alloc (.cells #[.string x,.int .i64 a2] 258)).alloc (.cells #[.string y,.int .i64 b2] 258)).alloc (.cells #[.int .i64 0,.string ⟨#[]⟩,.string ⟨#[]⟩,.int .i64 0,.slice none 0 0] 25) = w1 at *
 refine (HM2.out _).mono ?_
 rintro e w2 ⟨rfl,b2'⟩
 have Z2:=mkHid (Z1.out.step b2')
 have D2:=mkHid (D1.out.trans (b2'.mono D1.out.size))
 clear b2' Z1 D1 X1 Y1
 go_wp2_with (refine wpList_store_abs rfl 25 (.tmp 4) (.tmp 7) rfl (w.heap.size + 1 + 1) (atomC a1 b1 D).toArray ?s1 ?s2 25 _ Z2.out (inf_pred _ rfl) rfl (by simp [atomC,Value.oneCell']) ?_; (case s1=>rfl); (case s2=>rfl); intro w9 s9 u9; have S9:=mkHid s9; have U9:=mkHid u9; clear s9 u9)
 exact bodyPost_ret (results_cell_row (p:=4) (by kernel_rfl) _ _ (w.heap.size + 1 + 1) 25 (atomC a1 b1 D).toArray (0,0) _ rfl S9.out Tryz.underlying25 rfl (inf_pred _ rfl)) rfl ⟨⟨_,rfl,_,rfl,atomC_pred _ _ _ _ _⟩,U9.out.below D2.out (by omega)⟩
set_option maxHeartbeats 4000000 in
set_option maxRecDepth 100000 in
theorem sg4_any (a b:SumV) (w:World) (ha:SumOk a) (hb:SumOk b) :
  Calls Tryz.prog 341 #[.agg (sumC a).toArray,.agg (sumC b).toArray] w fun e w'=>MkR w (makeP 2 a b) e w':=by
 obtain ⟨a1,a2⟩:=a
 obtain ⟨b1,b2⟩:=b
 have HM:=mkHid (fun w=>most_any ⟨b1,b2⟩ ⟨a1,a2⟩ 0 w hb ha (by omega) (by omega))
 clear ha hb
 have HE:Hid (makeP 2 ⟨a1,a2⟩ ⟨b1,b2⟩ = .mk 0 b1 a1 (a2 - b2 - 0) []):=mkHid rfl
 rw [HE.out]
 clear HE
 unfold sumC at *
 generalize hD:a2 - b2 - 0 = D at *
 have HD:=mkHid hD
 clear hD
 have HM2:Hid (∀ w:World,Calls Tryz.prog 291 #[.agg #[.string (strN b1),.int .i64 b2],.agg #[.string (strN a1),.int .i64 a2],.int .i64 0] w fun e w'=>e = .returned (.agg (atomC b1 a1 D).toArray)∧Below w.heap.size w w'):=mkHid (fun w=>by have:=HM.out w; simp only [HD.out] at this; exact this)
 clear HM HD
 generalize strN a1 = x at *
 generalize strN b1 = y at *
 have X1:Hid (HasV (((w.alloc (.cells #[.string x,.int .i64 a2] 258)).alloc (.cells #[.string y,.int .i64 b2] 258)).alloc (.cells #[.int .i64 0,.string ⟨#[]⟩,.string ⟨#[]⟩,.int .i64 0,.slice none 0 0] 25)) w.heap.size 258 [.string x,.int .i64 a2]):=mkHid (heap_alloc3_old _ _ _ _)
 have Y1:Hid (HasV (((w.alloc (.cells #[.string x,.int .i64 a2] 258)).alloc (.cells #[.string y,.int .i64 b2] 258)).alloc (.cells #[.int .i64 0,.string ⟨#[]⟩,.string ⟨#[]⟩,.int .i64 0,.slice none 0 0] 25)) (w.heap.size + 1) 258 [.string y,.int .i64 b2]):=mkHid (heap_alloc3_mid _ _ _ _)
 have Z1:Hid (HasV (((w.alloc (.cells #[.string x,.int .i64 a2] 258)).alloc (.cells #[.string y,.int .i64 b2] 258)).alloc (.cells #[.int .i64 0,.string ⟨#[]⟩,.string ⟨#[]⟩,.int .i64 0,.slice none 0 0] 25)) (w.heap.size + 1 + 1) 25 pred0):=mkHid (heap_alloc3_new _ _ _ _)
 have D1:=mkHid ((((Below.refl w.heap.size w).alloc (Nat.le_refl _) (.cells #[.string x,.int .i64 a2] 258)).alloc (by simp) (.cells #[.string y,.int .i64 b2] 258)).alloc (by simp; omega) (.cells #[.int .i64 0,.string ⟨#[]⟩,.string ⟨#[]⟩,.int .i64 0,.slice none 0 0] 25))
 go_enter Tryz.func341,Tryz.ntmps341
 go_wp2_with fail
 generalize ((w.alloc (.cells #[.string x,.int .i64 a2] 258)).alloc (.cells #[.string y,.int .i64 b2] 258)).alloc (.cells #[.int .i64 0,.string ⟨#[]⟩,.string ⟨#[]⟩,.int .i64 0,.slice none 0 0] 25) = w1 at *
 refine (HM2.out _).mono ?_
 rintro e w2 ⟨rfl,b2'⟩
 have Z2:=mkHid (Z1.out.step b2')
 have D2:=mkHid (D1.out.trans (b2'.mono D1.out.size))
 clear b2' Z1 D1 X1 Y1
 go_wp2_with (refine wpList_store_abs rfl 25 (.tmp 4) (.tmp 7) rfl (w.heap.size + 1 + 1) (atomC b1 a1 D).toArray ?s1 ?s2 25 _ Z2.out (inf_pred _ rfl) rfl (by simp [atomC,Value.oneCell']) ?_; (case s1=>rfl); (case s2=>rfl); intro w9 s9 u9; have S9:=mkHid s9; have U9:=mkHid u9; clear s9 u9)
 exact bodyPost_ret (results_cell_row (p:=4) (by kernel_rfl) _ _ (w.heap.size + 1 + 1) 25 (atomC b1 a1 D).toArray (0,0) _ rfl S9.out Tryz.underlying25 rfl (inf_pred _ rfl)) rfl ⟨⟨_,rfl,_,rfl,atomC_pred _ _ _ _ _⟩,U9.out.below D2.out (by omega)⟩
set_option maxHeartbeats 4000000 in
set_option maxRecDepth 100000 in
theorem sg5_any (a b:SumV) (w:World) (ha:SumOk a) (hb:SumOk b) :
  Calls Tryz.prog 342 #[.agg (sumC a).toArray,.agg (sumC b).toArray] w fun e w'=>MkR w (makeP 3 a b) e w':=by
 obtain ⟨a1,a2⟩:=a
 obtain ⟨b1,b2⟩:=b
 have HM:=mkHid (fun w=>most_any ⟨b1,b2⟩ ⟨a1,a2⟩ 1 w hb ha (by omega) (by omega))
 clear ha hb
 have HE:Hid (makeP 3 ⟨a1,a2⟩ ⟨b1,b2⟩ = .mk 0 b1 a1 (a2 - b2 - 1) []):=mkHid rfl
 rw [HE.out]
 clear HE
 unfold sumC at *
 generalize hD:a2 - b2 - 1 = D at *
 have HD:=mkHid hD
 clear hD
 have HM2:Hid (∀ w:World,Calls Tryz.prog 291 #[.agg #[.string (strN b1),.int .i64 b2],.agg #[.string (strN a1),.int .i64 a2],.int .i64 1] w fun e w'=>e = .returned (.agg (atomC b1 a1 D).toArray)∧Below w.heap.size w w'):=mkHid (fun w=>by have:=HM.out w; simp only [HD.out] at this; exact this)
 clear HM HD
 generalize strN a1 = x at *
 generalize strN b1 = y at *
 have X1:Hid (HasV (((w.alloc (.cells #[.string x,.int .i64 a2] 258)).alloc (.cells #[.string y,.int .i64 b2] 258)).alloc (.cells #[.int .i64 0,.string ⟨#[]⟩,.string ⟨#[]⟩,.int .i64 0,.slice none 0 0] 25)) w.heap.size 258 [.string x,.int .i64 a2]):=mkHid (heap_alloc3_old _ _ _ _)
 have Y1:Hid (HasV (((w.alloc (.cells #[.string x,.int .i64 a2] 258)).alloc (.cells #[.string y,.int .i64 b2] 258)).alloc (.cells #[.int .i64 0,.string ⟨#[]⟩,.string ⟨#[]⟩,.int .i64 0,.slice none 0 0] 25)) (w.heap.size + 1) 258 [.string y,.int .i64 b2]):=mkHid (heap_alloc3_mid _ _ _ _)
 have Z1:Hid (HasV (((w.alloc (.cells #[.string x,.int .i64 a2] 258)).alloc (.cells #[.string y,.int .i64 b2] 258)).alloc (.cells #[.int .i64 0,.string ⟨#[]⟩,.string ⟨#[]⟩,.int .i64 0,.slice none 0 0] 25)) (w.heap.size + 1 + 1) 25 pred0):=mkHid (heap_alloc3_new _ _ _ _)
 have D1:=mkHid ((((Below.refl w.heap.size w).alloc (Nat.le_refl _) (.cells #[.string x,.int .i64 a2] 258)).alloc (by simp) (.cells #[.string y,.int .i64 b2] 258)).alloc (by simp; omega) (.cells #[.int .i64 0,.string ⟨#[]⟩,.string ⟨#[]⟩,.int .i64 0,.slice none 0 0] 25))
 go_enter Tryz.func342,Tryz.ntmps342
 go_wp2_with fail
 generalize ((w.alloc (.cells #[.string x,.int .i64 a2] 258)).alloc (.cells #[.string y,.int .i64 b2] 258)).alloc (.cells #[.int .i64 0,.string ⟨#[]⟩,.string ⟨#[]⟩,.int .i64 0,.slice none 0 0] 25) = w1 at *
 refine (HM2.out _).mono ?_
 rintro e w2 ⟨rfl,b2'⟩
 have Z2:=mkHid (Z1.out.step b2')
 have D2:=mkHid (D1.out.trans (b2'.mono D1.out.size))
 clear b2' Z1 D1 X1 Y1
 go_wp2_with (refine wpList_store_abs rfl 25 (.tmp 4) (.tmp 7) rfl (w.heap.size + 1 + 1) (atomC b1 a1 D).toArray ?s1 ?s2 25 _ Z2.out (inf_pred _ rfl) rfl (by simp [atomC,Value.oneCell']) ?_; (case s1=>rfl); (case s2=>rfl); intro w9 s9 u9; have S9:=mkHid s9; have U9:=mkHid u9; clear s9 u9)
 exact bodyPost_ret (results_cell_row (p:=4) (by kernel_rfl) _ _ (w.heap.size + 1 + 1) 25 (atomC b1 a1 D).toArray (0,0) _ rfl S9.out Tryz.underlying25 rfl (inf_pred _ rfl)) rfl ⟨⟨_,rfl,_,rfl,atomC_pred _ _ _ _ _⟩,U9.out.below D2.out (by omega)⟩
set_option maxHeartbeats 8000000 in
set_option maxRecDepth 100000 in
theorem sgb_any (a b:SumV) (κ less:Int) (kp lp:Nat) (w:World) (ha:SumOk a) (hb:SumOk b) (h0:0≤less) (h1:less≤1) (hk:w.cell? ⟨kp,0,none⟩ = some (.int .i64 κ)) (hl:w.cell? ⟨lp,0,none⟩ = some (.int .i64 less)) (hkl:kp < w.heap.size) (hll:lp < w.heap.size) :
  Calls Tryz.prog 338 #[.agg (sumC a).toArray,.agg (sumC b).toArray,.pointer (some ⟨kp,0,none⟩),.pointer (some ⟨lp,0,none⟩)] w fun e w'=>MkR w (.mk κ [] [] 0 [mostP a b less,mostP b a less]) e w':=by
 obtain ⟨a1,a2⟩:=a
 obtain ⟨b1,b2⟩:=b
 have HM1:=mkHid (fun w=>most_any ⟨a1,a2⟩ ⟨b1,b2⟩ less w ha hb h0 h1)
 have HM2:=mkHid (fun w=>most_any ⟨b1,b2⟩ ⟨a1,a2⟩ less w hb ha h0 h1)
 have HE:Hid (Prd.mk κ [] [] 0 [mostP ⟨a1,a2⟩ ⟨b1,b2⟩ less,mostP ⟨b1,b2⟩ ⟨a1,a2⟩ less] = .mk κ [] [] 0 [.mk 0 a1 b1 (b2 - a2 - less) [],.mk 0 b1 a1 (a2 - b2 - less) []]):=mkHid rfl
 rw [HE.out]
 clear HE ha hb h0 h1
 unfold sumC at *
 simp only at HM1 HM2
 generalize b2 - a2 - less = D1 at *
 generalize a2 - b2 - less = D2 at *
 have HAT:Hid (∀ (w:World) (P:Nat→Prop) (g:Nat),P g→g < w.heap.size→Reads w g 0 (atomC a1 b1 D1 ++ atomC b1 a1 D2)→KidsC w P [.mk 0 a1 b1 D1 [],.mk 0 b1 a1 D2 []] g 0):=mkHid (fun w P g _ _ hr=>KidsC.of _ [atomC a1 b1 D1,atomC b1 a1 D2] g 0 rfl (fun i p vs hp hv=>by
  match i,hp,hv with
  | 0,hp,hv=>cases hp; cases hv; exact atomC_pred _ _ _ _ _
  | 1,hp,hv=>cases hp; cases hv; exact atomC_pred _ _ _ _ _
  | i + 2,hp,hv=>simp at hp) (by simpa using hr))
 unfold atomC at HM1 HM2 HAT
 generalize strN a1 = x at *
 generalize strN b1 = y at *
 have X1:Hid (HasV (((w.alloc (.cells #[.string x,.int .i64 a2] 258)).alloc (.cells #[.string y,.int .i64 b2] 258)).alloc (.cells #[.int .i64 0,.string ⟨#[]⟩,.string ⟨#[]⟩,.int .i64 0,.slice none 0 0] 25)) w.heap.size 258 [.string x,.int .i64 a2]):=mkHid (heap_alloc3_old _ _ _ _)
 have Y1:Hid (HasV (((w.alloc (.cells #[.string x,.int .i64 a2] 258)).alloc (.cells #[.string y,.int .i64 b2] 258)).alloc (.cells #[.int .i64 0,.string ⟨#[]⟩,.string ⟨#[]⟩,.int .i64 0,.slice none 0 0] 25)) (w.heap.size + 1) 258 [.string y,.int .i64 b2]):=mkHid (heap_alloc3_mid _ _ _ _)
 have Z1:Hid (HasV (((w.alloc (.cells #[.string x,.int .i64 a2] 258)).alloc (.cells #[.string y,.int .i64 b2] 258)).alloc (.cells #[.int .i64 0,.string ⟨#[]⟩,.string ⟨#[]⟩,.int .i64 0,.slice none 0 0] 25)) (w.heap.size + 1 + 1) 25 pred0):=mkHid (heap_alloc3_new _ _ _ _)
 have DD:=mkHid ((((Below.refl w.heap.size w).alloc (Nat.le_refl _) (.cells #[.string x,.int .i64 a2] 258)).alloc (by simp) (.cells #[.string y,.int .i64 b2] 258)).alloc (by simp; omega) (.cells #[.int .i64 0,.string ⟨#[]⟩,.string ⟨#[]⟩,.int .i64 0,.slice none 0 0] 25))
 have k1:=(DD.out.cell (p:=⟨kp,0,none⟩) hkl).trans hk
 have l1:=(DD.out.cell (p:=⟨lp,0,none⟩) hll).trans hl
 have KL:Hid (kp < w.heap.size∧lp < w.heap.size):=mkHid ⟨hkl,hll⟩
 clear hk hl hkl hll
 go_enter Tryz.func338,Tryz.ntmps338
 go_upto_region 1 with (fail)
 generalize ((w.alloc (.cells #[.string x,.int .i64 a2] 258)).alloc (.cells #[.string y,.int .i64 b2] 258)).alloc (.cells #[.int .i64 0,.string ⟨#[]⟩,.string ⟨#[]⟩,.int .i64 0,.slice none 0 0] 25) = w1 at *
 have x0:=X1.out.cell 0 _ rfl
 have x1:=X1.out.cell 1 _ rfl
 have y0:=Y1.out.cell 0 _ rfl
 have y1:=Y1.out.cell 1 _ rfl
 refine wp_region_pick [0,1,2,3,5,6,7] [4,8,9,10,11] (fun w'=>w'.cell? ⟨kp,0,none⟩ = some (.int .i64 κ)∧w'.cell? ⟨lp,0,none⟩ = some (.int .i64 less)∧w'.cell? ⟨w.heap.size,0,none⟩ = some (.string x)∧w'.cell? ⟨w.heap.size,1,none⟩ = some (.int .i64 a2)∧w'.cell? ⟨w.heap.size + 1,0,none⟩ = some (.string y)∧w'.cell? ⟨w.heap.size + 1,1,none⟩ = some (.int .i64 b2)) (by kernel_rfl) (by kernel_rfl) (by kernel_rfl) (fun _ _ d _ _ h=>by cases d <;> exact h) ⟨k1,l1,x0,x1,y0,y1⟩ ?_
 simp only [pickI,List.filterMap_cons,List.filterMap_nil,List.getElem?_cons_zero,List.getElem?_cons_succ,Option.map_some,List.map_cons,List.map_nil]
 apply Exists.intro
 refine ⟨?hh,?ht⟩
 case hh =>
  intro w' hw'
  obtain ⟨c1,c2,c3,c4,c5,c6⟩:=hw'
  repeat still_step
  exact wpStill_nil rfl
 case ht =>
  have BD:Below w1.heap.size w1 w1.drew:=(Below.refl w1.heap.size w1).drew
  have X3:=mkHid (X1.out.step BD)
  have Y3:=mkHid (Y1.out.step BD)
  have Z3:=mkHid (Z1.out.step BD)
  have DD3:=mkHid (DD.out.trans (BD.mono DD.out.size))
  have SS:Hid (∀ w':World,Below w1.drew.heap.size w1.drew w'→w'.cell? ⟨kp,0,none⟩ = some (.int .i64 κ)∧w'.cell? ⟨lp,0,none⟩ = some (.int .i64 less)∧w'.cell? ⟨w.heap.size,0,none⟩ = some (.string x)∧w'.cell? ⟨w.heap.size,1,none⟩ = some (.int .i64 a2)∧w'.cell? ⟨w.heap.size + 1,0,none⟩ = some (.string y)∧w'.cell? ⟨w.heap.size + 1,1,none⟩ = some (.int .i64 b2)):=mkHid (fun w' hb =>
   ⟨(hb.cell (p:=⟨kp,0,none⟩) (by have:=KL.out; have:=DD3.out.size; show kp < _; omega)).trans k1,(hb.cell (p:=⟨lp,0,none⟩) (by have:=KL.out; have:=DD3.out.size; show lp < _; omega)).trans l1,(X3.out.step hb).cell 0 _ rfl,(X3.out.step hb).cell 1 _ rfl,(Y3.out.step hb).cell 0 _ rfl,(Y3.out.step hb).cell 1 _ rfl⟩)
  clear BD X1 Y1 Z1 DD
  generalize w1.drew = wd at *
  refine wpTailT_cons ?_
  go_wp2_with fail
  refine (HM1.out wd).mono ?_
  rintro e w2 ⟨rfl,b2'⟩
  have B2:=mkHid b2'
  clear b2'
  go_wp2_with fail
  refine postOf_normal ⟨SS.out w2 B2.out,?_⟩
  refine wpTailT_cons ?_
  go_wp2_with fail
  refine (HM2.out w2).mono ?_
  rintro e w3 ⟨rfl,b3'⟩
  have B3:=mkHid (B2.out.trans (b3'.mono B2.out.size))
  clear b3' B2
  go_wp2_with fail
  refine postOf_normal ⟨SS.out w3 B3.out,?_⟩
  refine wpTailT_cons ?_
  have B4:=mkHid (B3.out.alloc B3.out.size (.cells #[.int .i64 0,.string x,.string y,.int .i64 D1,.slice none 0 0,.int .i64 0,.string y,.string x,.int .i64 D2,.slice none 0 0] 25))
  have N4:Hid ((w3.alloc (.cells #[.int .i64 0,.string x,.string y,.int .i64 D1,.slice none 0 0,.int .i64 0,.string y,.string x,.int .i64 D2,.slice none 0 0] 25)).heap[w3.heap.size]? = some (.cells #[.int .i64 0,.string x,.string y,.int .i64 D1,.slice none 0 0,.int .i64 0,.string y,.string x,.int .i64 D2,.slice none 0 0] 25)):=mkHid (heap_alloc_new w3 _)
  have L4:Hid (w3.heap.size < (w3.alloc (.cells #[.int .i64 0,.string x,.string y,.int .i64 D1,.slice none 0 0,.int .i64 0,.string y,.string x,.int .i64 D2,.slice none 0 0] 25)).heap.size):=mkHid (by simp)
  go_wp2_with fail
  generalize w3.alloc (.cells #[.int .i64 0,.string x,.string y,.int .i64 D1,.slice none 0 0,.int .i64 0,.string y,.string x,.int .i64 D2,.slice none 0 0] 25) = w4 at *
  refine postOf_normal ⟨SS.out w4 B4.out,?_⟩
  refine wpTailT_cons ?_
  go_wp2_with fail
  refine postOf_normal ⟨SS.out w4 B4.out,?_⟩
  refine wpTailT_one ?_
  have Z4:=mkHid (Z3.out.step B4.out)
  have G4:Hid (w.heap.size + 1 + 1 < w3.heap.size):=mkHid (by have:=B3.out.size; have:=Z3.out.lt; omega)
  go_wp2_with (refine wpList_store_abs rfl 25 (.tmp 6) (.tmp 17) rfl (w.heap.size + 1 + 1) (kidV κ 0 (some ⟨w3.heap.size,0,none⟩) 2 2).toArray ?s1 ?s2 25 _ Z4.out (inf_pred _ rfl) rfl (kidV_one _ _ _ _ _) ?_; (case s1=>rfl); (case s2=>rfl); intro w9 s9 u9; have S9:=mkHid s9; have U9:=mkHid u9; clear s9 u9)
  have hblk:w9.heap[w3.heap.size]? = some (.cells #[.int .i64 0,.string x,.string y,.int .i64 D1,.slice none 0 0,.int .i64 0,.string y,.string x,.int .i64 D2,.slice none 0 0] 25):=(U9.out.block _ (by have:=G4.out; omega)).trans N4.out
  have hrd:Reads w9 w3.heap.size 0 [.int .i64 0,.string x,.string y,.int .i64 D1,.slice none 0 0,.int .i64 0,.string y,.string x,.int .i64 D2,.slice none 0 0]:=fun j u hj=>by
   have:w9.cell? ⟨w3.heap.size,0 + j,none⟩ = (#[.int .i64 0,.string x,.string y,.int .i64 D1,.slice none 0 0,.int .i64 0,.string y,.string x,.int .i64 D2,.slice none 0 0]:Array Value)[j]?:=by simp [World.cell?,hblk]
   rw [this,← Array.getElem?_toList]; exact hj
  have hlt9:w3.heap.size < w9.heap.size:=by rw [U9.out.size]; exact L4.out
  exact bodyPost_ret (results_cell_row (p:=6) (by kernel_rfl) _ _ (w.heap.size + 1 + 1) 25 (kidV κ 0 (some ⟨w3.heap.size,0,none⟩) 2 2).toArray (0,0) _ rfl S9.out Tryz.underlying25 rfl (inf_pred _ rfl)) rfl
   ⟨⟨_,rfl,_,rfl,by
    unfold PredC
    exact ⟨_,_,rfl,.inr ⟨w3.heap.size,0,rfl,by have:=G4.out; omega,hlt9,HAT.out w9 _ w3.heap.size (by have:=G4.out; omega) hlt9 hrd⟩⟩⟩,U9.out.below (DD3.out.trans (B4.out.mono DD3.out.size)) (by omega)⟩
end Go.Proofs.YtmkdfbelbcocpaaGreatDoor
namespace Go.Proofs.YtmkdfbelbcocpaaGreatDoor
open Go.RowKit
def cfn (k:Nat) (cap:Array Value):Value:=.func (.func k) #[] cap
def sigT (k:Nat):List Value:=[.string (strN [60,61]),cfn 339 #[],.string (strN [60]),cfn 340 #[],.string (strN [62,61]),cfn 341 #[],.string (strN [62]),cfn 342 #[],
 .string (strN [61]),cfn 338 #[.pointer (some ⟨k,0,none⟩),.pointer (some ⟨k + 1,0,none⟩)],.string (strN [33,61]),cfn 338 #[.pointer (some ⟨k + 2,0,none⟩),.pointer (some ⟨k + 3,0,none⟩)]]
structure SigW (w:World) (g k:Nat):Prop where
 tab:Reads w g 0 (sigT k)
 k0:w.cell? ⟨k,0,none⟩ = some (.int .i64 1)
 k1:w.cell? ⟨k + 1,0,none⟩ = some (.int .i64 0)
 k2:w.cell? ⟨k + 2,0,none⟩ = some (.int .i64 2)
 k3:w.cell? ⟨k + 3,0,none⟩ = some (.int .i64 1)
 lg:g < w.heap.size
 lk:k + 3 < w.heap.size
theorem SigW.keep {w w':World} {g k:Nat} (h:SigW w g k) (hb:∀ x,(x = g∨(k≤x∧x≤k + 3))→w'.heap[x]? = w.heap[x]?) (hs:w.heap.size≤w'.heap.size):SigW w' g k:=by
 have hc:∀ x v,k≤x→x≤k + 3→w.cell? ⟨x,0,none⟩ = v→w'.cell? ⟨x,0,none⟩ = v:=fun x v h1 h2 h3=>by
  rw [World.cell?_of_block (w:=w) (a:=⟨x,0,none⟩) (hb x (.inr ⟨h1,h2⟩))]; exact h3
 exact ⟨h.tab.of_block (hb g (.inl rfl)),hc _ _ (by omega) (by omega) h.k0,hc _ _ (by omega) (by omega) h.k1,hc _ _ (by omega) (by omega) h.k2,hc _ _ (by omega) (by omega) h.k3,Nat.lt_of_lt_of_le h.lg hs,Nat.lt_of_lt_of_le h.lk hs⟩
theorem SigW.step {w w':World} {g k:Nat} (h:SigW w g k) (hb:Below w.heap.size w w'):SigW w' g k :=
 h.keep (fun x hx=>hb.block x (by have:=h.lg; have:=h.lk; omega)) hb.size
theorem SigW.only {w w':World} {g k R:Nat} (h:SigW w g k) (hb:Only w w' (· = R)) (hR:R < g) (hk:R < k):SigW w' g k :=
 h.keep (fun x hx=>hb.block x (by have:=h.lg; have:=h.lk; omega) (by rintro rfl; omega)) hb.size
set_option maxHeartbeats 4000000 in
set_option maxRecDepth 100000 in
theorem sg1_any (κ less:Int) (w:World) :
  Calls Tryz.prog 337 #[.int .i64 κ,.int .i64 less] w fun e w'=>e = .returned (.func (.func 338) #[] #[.pointer (some ⟨w.heap.size,0,none⟩),.pointer (some ⟨w.heap.size + 1,0,none⟩)])∧w' = (w.alloc (.cells #[.int .i64 κ] 3)).alloc (.cells #[.int .i64 less] 3):=by
 have hmf:∀ (fn:Fn) (first cap:Array Value) (w:World),(Instr.makeFunc fn first cap).run Tryz.prog w = .ok (.func fn first cap) w:=fun _ _ _ _=>rfl
 go_enter Tryz.func337,Tryz.ntmps337
 go_wp2
 go_ret
 exact ⟨rfl,rfl⟩
set_option maxHeartbeats 4000000 in
set_option maxRecDepth 100000 in
theorem signs_any (w:World) :
  Calls Tryz.prog 293 #[] w fun e w'=>e = .returned (.slice (some ⟨w.heap.size + 4,0,none⟩) 6 6)∧SigW w' (w.heap.size + 4) w.heap.size∧Below w.heap.size w w':=by
 have B1:=mkHid (((Below.refl w.heap.size w).alloc (Nat.le_refl _) (.cells #[.int .i64 1] 3)).alloc (by simp) (.cells #[.int .i64 0] 3))
 have C0:Hid (((w.alloc (.cells #[.int .i64 1] 3)).alloc (.cells #[.int .i64 0] 3)).heap[w.heap.size]? = some (.cells #[.int .i64 1] 3)):=mkHid (heap_alloc2_old w _ _)
 have C1:Hid (((w.alloc (.cells #[.int .i64 1] 3)).alloc (.cells #[.int .i64 0] 3)).heap[w.heap.size + 1]? = some (.cells #[.int .i64 0] 3)):=mkHid (heap_alloc2_new w _ _)
 have L1:Hid (((w.alloc (.cells #[.int .i64 1] 3)).alloc (.cells #[.int .i64 0] 3)).heap.size = w.heap.size + 2):=mkHid (by simp)
 go_enter Tryz.func293,Tryz.ntmps293
 go_wp2_with fail
 refine (sg1_any 1 0 _).mono ?_
 rintro e w1 ⟨rfl,hw1⟩
 rw [← hw1] at B1 C0 C1 L1
 clear hw1
 go_wp2_with fail
 have B2:=mkHid (B1.out.trans ((((Below.refl w1.heap.size w1).alloc (Nat.le_refl _) (.cells #[.int .i64 2] 3)).alloc (by simp) (.cells #[.int .i64 1] 3)).mono B1.out.size))
 have D0:Hid (((w1.alloc (.cells #[.int .i64 2] 3)).alloc (.cells #[.int .i64 1] 3)).heap[w.heap.size]? = some (.cells #[.int .i64 1] 3)):=mkHid (by rw [Below.heap_alloc _ _ _ (by simp; have:=L1.out; omega),Below.heap_alloc _ _ _ (by have:=L1.out; omega)]; exact C0.out)
 have D1:Hid (((w1.alloc (.cells #[.int .i64 2] 3)).alloc (.cells #[.int .i64 1] 3)).heap[w.heap.size + 1]? = some (.cells #[.int .i64 0] 3)):=mkHid (by rw [Below.heap_alloc _ _ _ (by simp; have:=L1.out; omega),Below.heap_alloc _ _ _ (by have:=L1.out; omega)]; exact C1.out)
 have D2:Hid (((w1.alloc (.cells #[.int .i64 2] 3)).alloc (.cells #[.int .i64 1] 3)).heap[w.heap.size + 2]? = some (.cells #[.int .i64 2] 3)):=mkHid (by rw [← L1.out]; exact heap_alloc2_old w1 _ _)
 have D3:Hid (((w1.alloc (.cells #[.int .i64 2] 3)).alloc (.cells #[.int .i64 1] 3)).heap[w.heap.size + 3]? = some (.cells #[.int .i64 1] 3)):=mkHid (by rw [show w.heap.size + 3 = w1.heap.size + 1 by rw [L1.out]]; exact heap_alloc2_new w1 _ _)
 have L2:Hid (((w1.alloc (.cells #[.int .i64 2] 3)).alloc (.cells #[.int .i64 1] 3)).heap.size = w.heap.size + 4):=mkHid (by simp; have:=L1.out; omega)
 refine (sg1_any 2 1 _).mono ?_
 rintro e w2 ⟨rfl,hw2⟩
 rw [← hw2] at B2 D0 D1 D2 D3 L2
 rw [show w1.heap.size = w.heap.size + 2 from L1.out]
 clear hw2 C0 C1 B1 L1
 go_wp2
 go_ret
 have hA:=(Below.refl w2.heap.size w2).alloc (Nat.le_refl _) (.cells (sigT w.heap.size).toArray 293)
 have hz:(w2.alloc (.cells (sigT w.heap.size).toArray 293)).heap.size = w2.heap.size + 1:=by simp
 have hl:=L2.out
 have hc:∀ x v,x < w2.heap.size→w2.heap[x]? = some (.cells #[v] 3)→(w2.alloc (.cells (sigT w.heap.size).toArray 293)).cell? ⟨x,0,none⟩ = some v:=fun x v h1 h2=>by
  rw [World.cell?_of_block (w:=w2) (a:=⟨x,0,none⟩) (hA.block x h1)]
  simp [World.cell?,h2]
 refine ⟨by rw [hl]; rfl,⟨fun j u hj=>?_,hc _ _ (by omega) D0.out,hc _ _ (by omega) D1.out,hc _ _ (by omega) D2.out,hc _ _ (by omega) D3.out,?_,?_⟩,B2.out.trans (hA.mono (by omega))⟩
 ·rw [← hl,Nat.zero_add]
  exact (HasV.new w2 293 (sigT w.heap.size)).cell j u hj
 ·exact Nat.lt_of_lt_of_le (by omega) (Nat.le_of_eq hz.symm)
 ·exact Nat.lt_of_lt_of_le (by omega) (Nat.le_of_eq hz.symm)
end Go.Proofs.YtmkdfbelbcocpaaGreatDoor
