import Derived.Deep.Cut
import Derived.Test.YtmkdfbelbcocpaaGreatDoorCD8
set_option linter.unusedVariables false
set_option linter.unusedSimpArgs false
set_option maxHeartbeats 8000000
set_option maxRecDepth 100000
namespace Go.Proofs.YtmkdfbelbcocpaaGreatDoor
section
open Go.RowKit
def Z7t (w:World) (R:Nat):Nat:=match w.cell? ⟨R,1,none⟩ with
 | some (.int _ x)=>x.toNat
 | _=>0
theorem Zar (w:World) (a b:Obj):((w.alloc a).alloc b).heap[w.heap.size]?=some a:=by
 rw[Below.heap_alloc (w.alloc a) b w.heap.size (by simp)];exact heap_alloc_new w a
theorem ParW.idx {w:World} {R cap sz i:Nat} {ao:Option Addr} {ts:List Tok} (h:ParW w R ao cap ts sz i):Z7t w R=i:=by
 unfold Z7t;rw[h.cells.2.1];simp
theorem Z1y (w:World) (R:Nat) (ao:Option Addr) (cap:Nat) (ts:List Tok) (sz i0 B:Nat) (κ:Int) (word:List Nat) (el:Nat→PR Prd) (hT:Tab w B) (hR:B≤R) (h:ParW w R ao cap ts sz i0) (hi:i0≤ts.length) (hn:ts.length≤1000000) (hts:∀ t∈ts,TokOk t) (hword:∀ y∈word,y<256) (hgo:Zsf ts.length el)
  (hel:∀ (i:Nat) (w:World),i0≤i→i≤ts.length→Tab w B→ParW w R ao cap ts sz i→Calls Tryz.prog 203 #[.pointer (some ⟨R,0,none⟩)] w fun e w'=>Zht w R ao cap ts sz (el i) e w') :
  Calls Tryz.prog 137 #[.pointer (some ⟨R,0,none⟩),.int .i64 κ,.string (Zad word),Value.func (.func 203) #[.pointer (some ⟨R,0,none⟩)] #[]] w fun e w' =>
   Zht w R ao cap ts sz ((Zdd ts word el (ts.length+1) i0 []).bind (fun r=>.ok (Zeq κ r.1,r.2))) e w':=by
 obtain⟨V,hV⟩:∃ V,(Zdd ts word el (ts.length+1) i0 []).bind (fun r=>(.ok (Zeq κ r.1,r.2):PR Prd))=V:=⟨_,rfl⟩
 rw[hV]
 have HV:=ħ hV.symm
 clear hV
 have Z1:Hid (Zah ((w.alloc (.cells #[.int .i64 0,.string ⟨#[]⟩,.string ⟨#[]⟩,.int .i64 0,.slice none 0 0] 25)).alloc (.cells #[.int .i64 κ,.string ⟨#[]⟩,.string ⟨#[]⟩,.int .i64 0,.slice none 0 0] 25)) w.heap.size 25 Zb0):=ħ (Zar w _ _)
 have S1:Hid (Zah ((w.alloc (.cells #[.int .i64 0,.string ⟨#[]⟩,.string ⟨#[]⟩,.int .i64 0,.slice none 0 0] 25)).alloc (.cells #[.int .i64 κ,.string ⟨#[]⟩,.string ⟨#[]⟩,.int .i64 0,.slice none 0 0] 25)) (w.heap.size+1) 25 (Zds κ 0 none 0 0)):=ħ (heap_alloc2_new w _ _)
 have D1:=ħ (((Below.refl w.heap.size w).alloc (Nat.le_refl _) (.cells #[.int .i64 0,.string ⟨#[]⟩,.string ⟨#[]⟩,.int .i64 0,.slice none 0 0] 25)).alloc (by simp) (.cells #[.int .i64 κ,.string ⟨#[]⟩,.string ⟨#[]⟩,.int .i64 0,.slice none 0 0] 25))
 have H0:=ħ h
 have HT:=ħ hT
 have HTS:=ħ hts
 have HEL:=ħ hel
 have HGO:=ħ hgo
 have RL:=ħ h.lt
 clear h hT hts hel hgo
 go_enter Tryz.func137,Tryz.ntmps137
 go_wp2_with fail
 generalize (w.alloc (.cells #[.int .i64 0,.string ⟨#[]⟩,.string ⟨#[]⟩,.int .i64 0,.slice none 0 0] 25)).alloc (.cells #[.int .i64 κ,.string ⟨#[]⟩,.string ⟨#[]⟩,.int .i64 0,.slice none 0 0] 25)=w1 at *
 obtain⟨A,hA⟩:∃ A,w.heap.size+1=A:=⟨_,rfl⟩
 rw[hA] at S1 ⊢
 have HA:Hid (A=w.heap.size+1):=ħ hA.symm
 clear hA
 go_loopw [10] (fun c wr=>∃ (b:Bool) (j f k cp:Nat) (ao2:Option Addr) (ps:List Prd) (vss:List (List Value)),c = .bool b∧i0≤j∧j≤ts.length∧k≤j ∧
   Hid (Zah wr A 25 (Zds κ 0 ao2 k cp))∧Hid (Zah wr w.heap.size 25 Zb0) ∧
   Hid (KidsM w wr (A+1) (fun g=>g=w.heap.size∨g=A) ao2 k cp ps vss)∧Hid (ParW wr R ao cap ts sz j)∧Hid (Only w wr (· = R)) ∧
   Hid (b=true→V=(Zdd ts word el f j ps).bind (fun r=>(.ok (Zeq κ r.1,r.2):PR Prd))∧ts.length-j<f)∧Hid (b=false→V = .ok (Zeq κ ps,j))) (fun _ wr=>ts.length+1-Z7t wr R)
 case atStart=>exact⟨true,i0,ts.length+1,0,0,none,[],[],rfl,by omega,hi,by omega,S1,Z1,ħ (KidsM.nil _ _ _ _),ħ (H0.o.step D1.o),ħ (Only.of_below D1.o),ħ (fun _=>⟨HV.o,by omega⟩),ħ (fun e=>by cases e)⟩
 case round =>
  clear S1 Z1 D1
  obtain⟨b,j,f,k,cp,ao2,ps,vss,rfl,hij,hj,hkj,hs,hz,hk,hp,ho,hv1,hv0⟩:=hrel
  have RA:Hid (R<A):=ħ (by have:=HA.o;have:=RL.o;omega)
  cases b with
  | false =>
   have HF:=ħ (hv0.o rfl)
   clear hv1 hv0
   have c4:=hs.o.cell 4 _ rfl
   by_cases hk1:k=1
   ·have HP1:Hid (∃ p,ps=[p]):=ħ (by
     have:=hk.o.cnt
     cases ps with
     | nil=>simp at this;omega
     | cons p l=>cases l with
      | nil=>exact⟨p,rfl⟩
      | cons q l=>simp at this;omega)
    obtain⟨p,hps⟩:=HP1.o
    have HP2:=ħ hps
    clear HP1
    rw[hps] at hk HF
    clear hps
    obtain⟨vs,g,off,hvs,rfl,hrd,hpc,hl5⟩:=hk.o.one
    have HVS:=ħ hvs
    have HRD:=ħ hrd
    have HPC:=ħ hpc
    have HL5:=ħ hl5
    clear hvs hrd hpc hl5
    subst hk1
    go_wp2_with (first
     | (refine Zcu rfl 25 (.tmp 30) rfl g off ?x1 vs _ HRD.o Tryz.underlying25 rfl ?x2 ?_;(case x1=>rfl);(case x2=>(have h5:=Zae vs HL5.o;rw[List.size_toArray] at h5;exact h5)))
     | (refine Zab rfl 25 (.tmp 8) (.tmp 31) rfl w.heap.size vs.toArray ?s1 ?s2 25 _ hz.o (Zae _ HL5.o) ?s3 (HPC.o.one) ?_;(case s1=>rfl);(case s2=>rfl);(case s3=>rw[List.size_toArray,List.size_toArray,HL5.o];rfl);intro w9 s9 u9;have S9:=ħ s9;have U9:=ħ u9;clear s9 u9))
    exact bodyPost_ret (results_cell_row (p:=8) (by kernel_rfl) _ _ w.heap.size 25 vs.toArray (0,0) _ rfl S9.o Tryz.underlying25 rfl (Zae _ HL5.o)) rfl (Zba HF.o (ho.o.updNew U9.o (Nat.le_refl _)) rfl ⟨vs,rfl,(HPC.o.upd U9.o (fun hh=>hh.2.1 (.inl rfl))).mono (fun g hg _=>hg.1)⟩ (H0.o.upd hp.o U9.o (Nat.le_refl _)))
   ·have HK1:Hid (Zeq κ ps = .mk κ [] [] 0 ps):=ħ (by
     have:=hk.o.cnt
     cases ps with
     | nil=>rfl
     | cons p l=>cases l with
      | nil=>simp at this;omega
      | cons q l=>rfl)
    rw[HK1.o] at HF
    have k1:((k:Int)==1)=false:=by rw[beq_eq_false_iff_ne];omega
    have k2:¬ ((k:Int)=1):=by omega
    clear hk1 HK1
    go_wp2_with (first
     | (refine wpList_load_row rfl 25 (.tmp 9) rfl A ?x1 25 (Zds κ 0 ao2 k cp).toArray (0,0) _ hs.o Tryz.underlying25 rfl (Zae _ rfl) ?_;(case x1=>rfl))
     | (refine Zab rfl 25 (.tmp 8) (.tmp 32) rfl w.heap.size (Zds κ 0 ao2 k cp).toArray ?s1 ?s2 25 _ hz.o (Zae _ rfl) rfl (Zep _ _ _ _ _) ?_;(case s1=>rfl);(case s2=>rfl);intro w9 s9 u9;have S9:=ħ s9;have U9:=ħ u9;clear s9 u9))
    have K9:=hk.o.upd U9.o (.inl rfl) (fun e=>by have:=(hk.o.own.blk_lt e).1;have:=HA.o;omega)
    exact bodyPost_ret (results_cell_row (p:=8) (by kernel_rfl) _ _ w.heap.size 25 (Zds κ 0 ao2 k cp).toArray (0,0) _ rfl S9.o Tryz.underlying25 rfl (Zae _ rfl)) rfl (Zba HF.o (ho.o.updNew U9.o (Nat.le_refl _)) rfl ⟨_,rfl,K9.predV (by have:=HA.o;omega) κ 0⟩ (H0.o.upd hp.o U9.o (Nat.le_refl _)))
  | true =>
   have HF:=ħ (hv1.o rfl)
   clear hv1 hv0
   have c4:=hs.o.cell 4 _ rfl
   go_upto_region 5 with (fail)
   refine Zaw [0,1,2] [3,4,5,6,7] (fun w'=>w'.cell? ⟨A,4,none⟩=some (.slice ao2 k cp)) (by kernel_rfl) (by kernel_rfl) (by kernel_rfl) (fun _ _ d _ _ h=>by cases d<;>exact h) c4 ?_
   simp only[Zbx,List.filterMap_cons,List.filterMap_nil,List.getElem?_cons_zero,List.getElem?_cons_succ,Option.map_some,List.map_cons,List.map_nil]
   apply Exists.intro
   refine⟨?hh,?ht⟩
   case hh =>
    intro w' hw'
    repeat still_step
    exact wpStill_nil rfl
   case ht =>
    have BD:Below wr.heap.size wr wr.drew:=(Below.refl wr.heap.size wr).drew
    have ZD:Hid (wr.drew.heap.size=wr.heap.size):=ħ rfl
    have hs1:=ħ (hs.o.step BD)
    have hz1:=ħ (hz.o.step BD)
    have hk1:=ħ (hk.o.step BD)
    have hp1:=ħ (hp.o.step BD)
    have ho1:=ħ (ho.o.step BD)
    have HID:=ħ hp.o.idx
    have WS:Hid (A<wr.heap.size):=ħ hs.o.lt
    have T1:=ħ (HT.o.onlyR ho1.o hR)
    clear BD c4 hs hz hk hp ho
    generalize wr.drew=wd at *
    have c4:=hs1.o.cell 4 _ rfl
    refine Zaf ?_
    go_wp2_with fail
    refine (HEL.o j wd hij hj T1.o hp1.o).mono ?_
    rintro e w2 ⟨o2,hr⟩
    have hf0:∃ f',f=f'+1:=⟨f-1,by have:=HF.o.2;omega⟩
    obtain⟨f',rfl⟩:=hf0
    cases hej:el j with
    | error x =>
     rw[hej] at hr
     have HVX:Hid (V = .error x):=ħ (by rw[HF.o.1,Zdd,hej];rfl)
     have O2:=ħ (ho1.o.trans o2)
     clear o2 hej
     subst hr
     unfold Za0
     go_wp2
     exact⟨rfl,Zas HVX.o O2.o rfl⟩
    | ok r =>
     rw[hej] at hr
     obtain⟨p,j2⟩:=r
     obtain⟨⟨v,rfl,vs,rfl,hpc⟩,hp2⟩:=hr
     have hgo:=HGO.o j (p,j2) hej
     have HF2:Hid (V=(if isP ts word j2=true then Zdd ts word el f' (j2+1) (ps++[p]) else .ok (ps++[p],j2)).bind (fun r=>(.ok (Zeq κ r.1,r.2):PR Prd))):=ħ (by rw[HF.o.1,Zdd,hej];rfl)
     have HFF:Hid (ts.length-j<f'+1):=ħ HF.o.2
     have O2:=ħ (ho1.o.trans o2)
     have RW:Hid (R<w.heap.size):=RL
     have S2:=ħ (hs1.o.only o2 (by have:=RA.o;omega))
     have Z2:=ħ (hz1.o.only o2 (by have:=RW.o;omega))
     have K2:=ħ (hk1.o.only o2 RW.o (by have:=HA.o;omega))
     have P2:=ħ hp2
     have T2:=ħ (T1.o.onlyR o2 hR)
     have L2:Hid (wd.heap.size≤w2.heap.size):=ħ o2.size
     have PC:=ħ hpc
     have WD:Hid (A<wd.heap.size):=ħ hs1.o.lt
     clear HF hej o2 hp2 hpc c4
     go_wp2_with fail
     have c2:=S2.o.cell 4 _ rfl
     refine Zaa ⟨c2,?_⟩
     refine Zaf ?_
     have hl5:vs.length=5:=PC.o.len
     have hfd:=Z5g #[.int .i64 0,.string ⟨#[]⟩,.string ⟨#[]⟩,.int .i64 0,.slice none 0 0] rfl vs hl5
     go_wp2_with fail
     refine Zaa ⟨(((Below.refl w2.heap.size w2).alloc (Nat.le_refl _) (.cells vs.toArray 25)).cell (p:=⟨A,4,none⟩) S2.o.lt).trans c2,?_⟩
     clear c2
     refine Zaf ?_
     go_wp2_with (at_builtin;refine Zfa 23 25 Znm 5 72 Tryz.underlying23 Zdo rfl (by omega) (by omega) w2 (A+1) rfl (.tmp 18) (.tmp 21) rfl ao2 cp k vss.flatten ?q1 K2.o.own S2.o.lt 1 1 vs.toArray 25 ?q2 ?q6 (by omega) PC.o.ones ?q4 ?_;(case q1=>rfl);(case q2=>rfl);(case q6=>rw[List.size_toArray,hl5]);(case q4=>omega);intro g5 off5 c5 wa o8 gr8 b8 or8;have O8:=ħ o8;have GR8:=ħ gr8;have B8:=ħ b8;have OR8:=ħ or8;clear o8 gr8 b8 or8)
     have KA:=ħ (KidsM.add hk1.o K2.o (by have:=WD.o;have:=HA.o;omega) (fun g hg=>by have:=WD.o;have:=HA.o;rcases hg with h | h<;>omega) PC.o O8.o GR8.o OR8.o)
     have SA:=ħ (S2.o.below B8.o (Nat.lt_succ_self A))
     have ZA:=ħ (Z2.o.below B8.o (by have:=HA.o;omega))
     have BB8:=ħ (B8.o.mono (B':=w.heap.size) (by have:=HA.o;omega))
     have PA:=ħ (H0.o.below P2.o BB8.o)
     have OA:=ħ (O2.o.belowB BB8.o)
     have TA:=ħ (T2.o.below B8.o (by have:=RA.o;omega))
     clear K2 S2 Z2 P2 O2 T2 GR8 OR8 B8 BB8 hs1 hz1 hk1 hp1 ho1 T1 PC
     refine Zaa ⟨SA.o.cell 4 _ rfl,?_⟩
     refine Zaf ?_
     go_wp2_with fail
     refine Zaa ⟨SA.o.cell 4 _ rfl,?_⟩
     refine Zaz ?_
     have m4:=SA.o.cell 4 _ rfl
     have f4:=SA.o.warm 4
     go_wp2_with fail
     clear m4 f4
     have U5:=ħ (Zaj wa ⟨A,4,none⟩ (.slice (some ⟨g5,off5,none⟩) (k+1) c5))
     have S5:Hid (Zah (wa.setCell ⟨A,4,none⟩ (.slice (some ⟨g5,off5,none⟩) (k+1) c5)) A 25 (Zds κ 0 (some ⟨g5,off5,none⟩) (k+1) c5)):=ħ (SA.o.set 4 _)
     have Z5:=ħ (ZA.o.upd U5.o (by show w.heap.size≠A;have:=HA.o;omega))
     have K5:=ħ (KA.o.upd U5.o (.inr rfl) (fun e=>by have:=(KA.o.own.blk_lt e).1;have:A+1≤A:=this;omega))
     have P5:=ħ (H0.o.upd PA.o U5.o (by show w.heap.size≤A;have:=HA.o;omega))
     have O5:=ħ (OA.o.updNew U5.o (by show w.heap.size≤A;have:=HA.o;omega))
     have T5:=ħ (TA.o.below (Below.upd (B:=A) U5.o (Nat.le_refl _)) (by have:=RA.o;omega))
     clear SA ZA KA PA OA TA U5 O8
     generalize wa.setCell ⟨A,4,none⟩ (.slice (some ⟨g5,off5,none⟩) (k+1) c5)=w5 at *
     cases hw:isP ts word j2 with
     | false =>
      refine (Zcd w5 R ao cap ts sz j2 word P5.o hgo.2 hn HTS.o hword hw).mono ?_
      have HX:Hid (V = .ok (Zeq κ (ps++[p]),j2)):=ħ (by rw[HF2.o,if_neg (by rw[hw];simp)];rfl)
      rintro e w6 ⟨rfl,b6⟩
      have S6:=ħ (S5.o.step b6)
      have Z6:=ħ (Z5.o.step b6)
      have K6:=ħ (K5.o.step b6)
      have P6:=ħ (P5.o.step b6)
      have O6:=ħ (O5.o.step b6)
      clear b6 S5 Z5 K5 P5 O5 T5 hw HF2
      go_wp2
      go_roundw
      case rel=>exact⟨false,j2,0,k+1,c5,some ⟨g5,off5,none⟩,ps++[p],vss++[vs],rfl,by omega,by omega,by omega,S6,Z6,K6,P6,O6,ħ (fun e=>by cases e),ħ (fun _=>HX.o)⟩
      case measure=>rw[P6.o.idx,HID.o];omega
     | true =>
      have hlt:=Zbv hw
      refine (Zbt w5 R ao cap ts sz j2 word P5.o hn HTS.o hword hw).mono ?_
      have HX:Hid (V=(Zdd ts word el f' (j2+1) (ps++[p])).bind (fun r=>(.ok (Zeq κ r.1,r.2):PR Prd))):=ħ (by rw[HF2.o,if_pos hw])
      rintro e w6 ⟨rfl,p6,o6⟩
      have S6:=ħ (S5.o.only o6 (by have:=RA.o;omega))
      have Z6:=ħ (Z5.o.only o6 (by have:=RW.o;omega))
      have K6:=ħ (K5.o.only o6 RW.o (by have:=HA.o;omega))
      have P6:=ħ p6
      have O6:=ħ (O5.o.trans o6)
      clear p6 o6 S5 Z5 K5 P5 O5 T5 hw HF2
      go_wp2
      go_roundw
      case rel=>exact⟨true,j2+1,f',k+1,c5,some ⟨g5,off5,none⟩,ps++[p],vss++[vs],rfl,by omega,by omega,by omega,S6,Z6,K6,P6,O6,ħ (fun _=>⟨HX.o,by have:=HFF.o;omega⟩),ħ (fun e=>by cases e)⟩
      case measure=>rw[P6.o.idx,HID.o];omega
end
section
open Go.RowKit
theorem Z5h (w:World) (R:Nat) (ao:Option Addr) (cap:Nat) (ts:List Tok) (sz i0 B:Nat) (κ:Int) (word:List Nat) (el:Nat→PR Prd) (hT:Tab w B) (hR:B≤R) (h:ParW w R ao cap ts sz i0) (hi:i0≤ts.length) (hn:ts.length≤1000000) (hts:∀ t∈ts,TokOk t) (hword:∀ y∈word,y<256) (hgo:Zsf ts.length el)
  (hel:∀ (i:Nat) (w:World),i0≤i→i≤ts.length→Tab w B→ParW w R ao cap ts sz i→Calls Tryz.prog 138 #[.pointer (some ⟨R,0,none⟩)] w fun e w'=>Zht w R ao cap ts sz (el i) e w') :
  Calls Tryz.prog 137 #[.pointer (some ⟨R,0,none⟩),.int .i64 κ,.string (Zad word),Value.func (.func 138) #[.pointer (some ⟨R,0,none⟩)] #[]] w fun e w' =>
   Zht w R ao cap ts sz ((Zdd ts word el (ts.length+1) i0 []).bind (fun r=>.ok (Zeq κ r.1,r.2))) e w':=by
 obtain⟨V,hV⟩:∃ V,(Zdd ts word el (ts.length+1) i0 []).bind (fun r=>(.ok (Zeq κ r.1,r.2):PR Prd))=V:=⟨_,rfl⟩
 rw[hV]
 have HV:=ħ hV.symm
 clear hV
 have Z1:Hid (Zah ((w.alloc (.cells #[.int .i64 0,.string ⟨#[]⟩,.string ⟨#[]⟩,.int .i64 0,.slice none 0 0] 25)).alloc (.cells #[.int .i64 κ,.string ⟨#[]⟩,.string ⟨#[]⟩,.int .i64 0,.slice none 0 0] 25)) w.heap.size 25 Zb0):=ħ (Zar w _ _)
 have S1:Hid (Zah ((w.alloc (.cells #[.int .i64 0,.string ⟨#[]⟩,.string ⟨#[]⟩,.int .i64 0,.slice none 0 0] 25)).alloc (.cells #[.int .i64 κ,.string ⟨#[]⟩,.string ⟨#[]⟩,.int .i64 0,.slice none 0 0] 25)) (w.heap.size+1) 25 (Zds κ 0 none 0 0)):=ħ (heap_alloc2_new w _ _)
 have D1:=ħ (((Below.refl w.heap.size w).alloc (Nat.le_refl _) (.cells #[.int .i64 0,.string ⟨#[]⟩,.string ⟨#[]⟩,.int .i64 0,.slice none 0 0] 25)).alloc (by simp) (.cells #[.int .i64 κ,.string ⟨#[]⟩,.string ⟨#[]⟩,.int .i64 0,.slice none 0 0] 25))
 have H0:=ħ h
 have HT:=ħ hT
 have HTS:=ħ hts
 have HEL:=ħ hel
 have HGO:=ħ hgo
 have RL:=ħ h.lt
 clear h hT hts hel hgo
 go_enter Tryz.func137,Tryz.ntmps137
 go_wp2_with fail
 generalize (w.alloc (.cells #[.int .i64 0,.string ⟨#[]⟩,.string ⟨#[]⟩,.int .i64 0,.slice none 0 0] 25)).alloc (.cells #[.int .i64 κ,.string ⟨#[]⟩,.string ⟨#[]⟩,.int .i64 0,.slice none 0 0] 25)=w1 at *
 obtain⟨A,hA⟩:∃ A,w.heap.size+1=A:=⟨_,rfl⟩
 rw[hA] at S1 ⊢
 have HA:Hid (A=w.heap.size+1):=ħ hA.symm
 clear hA
 go_loopw [10] (fun c wr=>∃ (b:Bool) (j f k cp:Nat) (ao2:Option Addr) (ps:List Prd) (vss:List (List Value)),c = .bool b∧i0≤j∧j≤ts.length∧k≤j ∧
   Hid (Zah wr A 25 (Zds κ 0 ao2 k cp))∧Hid (Zah wr w.heap.size 25 Zb0) ∧
   Hid (KidsM w wr (A+1) (fun g=>g=w.heap.size∨g=A) ao2 k cp ps vss)∧Hid (ParW wr R ao cap ts sz j)∧Hid (Only w wr (· = R)) ∧
   Hid (b=true→V=(Zdd ts word el f j ps).bind (fun r=>(.ok (Zeq κ r.1,r.2):PR Prd))∧ts.length-j<f)∧Hid (b=false→V = .ok (Zeq κ ps,j))) (fun _ wr=>ts.length+1-Z7t wr R)
 case atStart=>exact⟨true,i0,ts.length+1,0,0,none,[],[],rfl,by omega,hi,by omega,S1,Z1,ħ (KidsM.nil _ _ _ _),ħ (H0.o.step D1.o),ħ (Only.of_below D1.o),ħ (fun _=>⟨HV.o,by omega⟩),ħ (fun e=>by cases e)⟩
 case round =>
  clear S1 Z1 D1
  obtain⟨b,j,f,k,cp,ao2,ps,vss,rfl,hij,hj,hkj,hs,hz,hk,hp,ho,hv1,hv0⟩:=hrel
  have RA:Hid (R<A):=ħ (by have:=HA.o;have:=RL.o;omega)
  cases b with
  | false =>
   have HF:=ħ (hv0.o rfl)
   clear hv1 hv0
   have c4:=hs.o.cell 4 _ rfl
   by_cases hk1:k=1
   ·have HP1:Hid (∃ p,ps=[p]):=ħ (by
     have:=hk.o.cnt
     cases ps with
     | nil=>simp at this;omega
     | cons p l=>cases l with
      | nil=>exact⟨p,rfl⟩
      | cons q l=>simp at this;omega)
    obtain⟨p,hps⟩:=HP1.o
    have HP2:=ħ hps
    clear HP1
    rw[hps] at hk HF
    clear hps
    obtain⟨vs,g,off,hvs,rfl,hrd,hpc,hl5⟩:=hk.o.one
    have HVS:=ħ hvs
    have HRD:=ħ hrd
    have HPC:=ħ hpc
    have HL5:=ħ hl5
    clear hvs hrd hpc hl5
    subst hk1
    go_wp2_with (first
     | (refine Zcu rfl 25 (.tmp 30) rfl g off ?x1 vs _ HRD.o Tryz.underlying25 rfl ?x2 ?_;(case x1=>rfl);(case x2=>(have h5:=Zae vs HL5.o;rw[List.size_toArray] at h5;exact h5)))
     | (refine Zab rfl 25 (.tmp 8) (.tmp 31) rfl w.heap.size vs.toArray ?s1 ?s2 25 _ hz.o (Zae _ HL5.o) ?s3 (HPC.o.one) ?_;(case s1=>rfl);(case s2=>rfl);(case s3=>rw[List.size_toArray,List.size_toArray,HL5.o];rfl);intro w9 s9 u9;have S9:=ħ s9;have U9:=ħ u9;clear s9 u9))
    exact bodyPost_ret (results_cell_row (p:=8) (by kernel_rfl) _ _ w.heap.size 25 vs.toArray (0,0) _ rfl S9.o Tryz.underlying25 rfl (Zae _ HL5.o)) rfl (Zba HF.o (ho.o.updNew U9.o (Nat.le_refl _)) rfl ⟨vs,rfl,(HPC.o.upd U9.o (fun hh=>hh.2.1 (.inl rfl))).mono (fun g hg _=>hg.1)⟩ (H0.o.upd hp.o U9.o (Nat.le_refl _)))
   ·have HK1:Hid (Zeq κ ps = .mk κ [] [] 0 ps):=ħ (by
     have:=hk.o.cnt
     cases ps with
     | nil=>rfl
     | cons p l=>cases l with
      | nil=>simp at this;omega
      | cons q l=>rfl)
    rw[HK1.o] at HF
    have k1:((k:Int)==1)=false:=by rw[beq_eq_false_iff_ne];omega
    have k2:¬ ((k:Int)=1):=by omega
    clear hk1 HK1
    go_wp2_with (first
     | (refine wpList_load_row rfl 25 (.tmp 9) rfl A ?x1 25 (Zds κ 0 ao2 k cp).toArray (0,0) _ hs.o Tryz.underlying25 rfl (Zae _ rfl) ?_;(case x1=>rfl))
     | (refine Zab rfl 25 (.tmp 8) (.tmp 32) rfl w.heap.size (Zds κ 0 ao2 k cp).toArray ?s1 ?s2 25 _ hz.o (Zae _ rfl) rfl (Zep _ _ _ _ _) ?_;(case s1=>rfl);(case s2=>rfl);intro w9 s9 u9;have S9:=ħ s9;have U9:=ħ u9;clear s9 u9))
    have K9:=hk.o.upd U9.o (.inl rfl) (fun e=>by have:=(hk.o.own.blk_lt e).1;have:=HA.o;omega)
    exact bodyPost_ret (results_cell_row (p:=8) (by kernel_rfl) _ _ w.heap.size 25 (Zds κ 0 ao2 k cp).toArray (0,0) _ rfl S9.o Tryz.underlying25 rfl (Zae _ rfl)) rfl (Zba HF.o (ho.o.updNew U9.o (Nat.le_refl _)) rfl ⟨_,rfl,K9.predV (by have:=HA.o;omega) κ 0⟩ (H0.o.upd hp.o U9.o (Nat.le_refl _)))
  | true =>
   have HF:=ħ (hv1.o rfl)
   clear hv1 hv0
   have c4:=hs.o.cell 4 _ rfl
   go_upto_region 5 with (fail)
   refine Zaw [0,1,2] [3,4,5,6,7] (fun w'=>w'.cell? ⟨A,4,none⟩=some (.slice ao2 k cp)) (by kernel_rfl) (by kernel_rfl) (by kernel_rfl) (fun _ _ d _ _ h=>by cases d<;>exact h) c4 ?_
   simp only[Zbx,List.filterMap_cons,List.filterMap_nil,List.getElem?_cons_zero,List.getElem?_cons_succ,Option.map_some,List.map_cons,List.map_nil]
   apply Exists.intro
   refine⟨?hh,?ht⟩
   case hh =>
    intro w' hw'
    repeat still_step
    exact wpStill_nil rfl
   case ht =>
    have BD:Below wr.heap.size wr wr.drew:=(Below.refl wr.heap.size wr).drew
    have ZD:Hid (wr.drew.heap.size=wr.heap.size):=ħ rfl
    have hs1:=ħ (hs.o.step BD)
    have hz1:=ħ (hz.o.step BD)
    have hk1:=ħ (hk.o.step BD)
    have hp1:=ħ (hp.o.step BD)
    have ho1:=ħ (ho.o.step BD)
    have HID:=ħ hp.o.idx
    have WS:Hid (A<wr.heap.size):=ħ hs.o.lt
    have T1:=ħ (HT.o.onlyR ho1.o hR)
    clear BD c4 hs hz hk hp ho
    generalize wr.drew=wd at *
    have c4:=hs1.o.cell 4 _ rfl
    refine Zaf ?_
    go_wp2_with fail
    refine (HEL.o j wd hij hj T1.o hp1.o).mono ?_
    rintro e w2 ⟨o2,hr⟩
    have hf0:∃ f',f=f'+1:=⟨f-1,by have:=HF.o.2;omega⟩
    obtain⟨f',rfl⟩:=hf0
    cases hej:el j with
    | error x =>
     rw[hej] at hr
     have HVX:Hid (V = .error x):=ħ (by rw[HF.o.1,Zdd,hej];rfl)
     have O2:=ħ (ho1.o.trans o2)
     clear o2 hej
     subst hr
     unfold Za0
     go_wp2
     exact⟨rfl,Zas HVX.o O2.o rfl⟩
    | ok r =>
     rw[hej] at hr
     obtain⟨p,j2⟩:=r
     obtain⟨⟨v,rfl,vs,rfl,hpc⟩,hp2⟩:=hr
     have hgo:=HGO.o j (p,j2) hej
     have HF2:Hid (V=(if isP ts word j2=true then Zdd ts word el f' (j2+1) (ps++[p]) else .ok (ps++[p],j2)).bind (fun r=>(.ok (Zeq κ r.1,r.2):PR Prd))):=ħ (by rw[HF.o.1,Zdd,hej];rfl)
     have HFF:Hid (ts.length-j<f'+1):=ħ HF.o.2
     have O2:=ħ (ho1.o.trans o2)
     have RW:Hid (R<w.heap.size):=RL
     have S2:=ħ (hs1.o.only o2 (by have:=RA.o;omega))
     have Z2:=ħ (hz1.o.only o2 (by have:=RW.o;omega))
     have K2:=ħ (hk1.o.only o2 RW.o (by have:=HA.o;omega))
     have P2:=ħ hp2
     have T2:=ħ (T1.o.onlyR o2 hR)
     have L2:Hid (wd.heap.size≤w2.heap.size):=ħ o2.size
     have PC:=ħ hpc
     have WD:Hid (A<wd.heap.size):=ħ hs1.o.lt
     clear HF hej o2 hp2 hpc c4
     go_wp2_with fail
     have c2:=S2.o.cell 4 _ rfl
     refine Zaa ⟨c2,?_⟩
     refine Zaf ?_
     have hl5:vs.length=5:=PC.o.len
     have hfd:=Z5g #[.int .i64 0,.string ⟨#[]⟩,.string ⟨#[]⟩,.int .i64 0,.slice none 0 0] rfl vs hl5
     go_wp2_with fail
     refine Zaa ⟨(((Below.refl w2.heap.size w2).alloc (Nat.le_refl _) (.cells vs.toArray 25)).cell (p:=⟨A,4,none⟩) S2.o.lt).trans c2,?_⟩
     clear c2
     refine Zaf ?_
     go_wp2_with (at_builtin;refine Zfa 23 25 Znm 5 72 Tryz.underlying23 Zdo rfl (by omega) (by omega) w2 (A+1) rfl (.tmp 18) (.tmp 21) rfl ao2 cp k vss.flatten ?q1 K2.o.own S2.o.lt 1 1 vs.toArray 25 ?q2 ?q6 (by omega) PC.o.ones ?q4 ?_;(case q1=>rfl);(case q2=>rfl);(case q6=>rw[List.size_toArray,hl5]);(case q4=>omega);intro g5 off5 c5 wa o8 gr8 b8 or8;have O8:=ħ o8;have GR8:=ħ gr8;have B8:=ħ b8;have OR8:=ħ or8;clear o8 gr8 b8 or8)
     have KA:=ħ (KidsM.add hk1.o K2.o (by have:=WD.o;have:=HA.o;omega) (fun g hg=>by have:=WD.o;have:=HA.o;rcases hg with h | h<;>omega) PC.o O8.o GR8.o OR8.o)
     have SA:=ħ (S2.o.below B8.o (Nat.lt_succ_self A))
     have ZA:=ħ (Z2.o.below B8.o (by have:=HA.o;omega))
     have BB8:=ħ (B8.o.mono (B':=w.heap.size) (by have:=HA.o;omega))
     have PA:=ħ (H0.o.below P2.o BB8.o)
     have OA:=ħ (O2.o.belowB BB8.o)
     have TA:=ħ (T2.o.below B8.o (by have:=RA.o;omega))
     clear K2 S2 Z2 P2 O2 T2 GR8 OR8 B8 BB8 hs1 hz1 hk1 hp1 ho1 T1 PC
     refine Zaa ⟨SA.o.cell 4 _ rfl,?_⟩
     refine Zaf ?_
     go_wp2_with fail
     refine Zaa ⟨SA.o.cell 4 _ rfl,?_⟩
     refine Zaz ?_
     have m4:=SA.o.cell 4 _ rfl
     have f4:=SA.o.warm 4
     go_wp2_with fail
     clear m4 f4
     have U5:=ħ (Zaj wa ⟨A,4,none⟩ (.slice (some ⟨g5,off5,none⟩) (k+1) c5))
     have S5:Hid (Zah (wa.setCell ⟨A,4,none⟩ (.slice (some ⟨g5,off5,none⟩) (k+1) c5)) A 25 (Zds κ 0 (some ⟨g5,off5,none⟩) (k+1) c5)):=ħ (SA.o.set 4 _)
     have Z5:=ħ (ZA.o.upd U5.o (by show w.heap.size≠A;have:=HA.o;omega))
     have K5:=ħ (KA.o.upd U5.o (.inr rfl) (fun e=>by have:=(KA.o.own.blk_lt e).1;have:A+1≤A:=this;omega))
     have P5:=ħ (H0.o.upd PA.o U5.o (by show w.heap.size≤A;have:=HA.o;omega))
     have O5:=ħ (OA.o.updNew U5.o (by show w.heap.size≤A;have:=HA.o;omega))
     have T5:=ħ (TA.o.below (Below.upd (B:=A) U5.o (Nat.le_refl _)) (by have:=RA.o;omega))
     clear SA ZA KA PA OA TA U5 O8
     generalize wa.setCell ⟨A,4,none⟩ (.slice (some ⟨g5,off5,none⟩) (k+1) c5)=w5 at *
     cases hw:isP ts word j2 with
     | false =>
      refine (Zcd w5 R ao cap ts sz j2 word P5.o hgo.2 hn HTS.o hword hw).mono ?_
      have HX:Hid (V = .ok (Zeq κ (ps++[p]),j2)):=ħ (by rw[HF2.o,if_neg (by rw[hw];simp)];rfl)
      rintro e w6 ⟨rfl,b6⟩
      have S6:=ħ (S5.o.step b6)
      have Z6:=ħ (Z5.o.step b6)
      have K6:=ħ (K5.o.step b6)
      have P6:=ħ (P5.o.step b6)
      have O6:=ħ (O5.o.step b6)
      clear b6 S5 Z5 K5 P5 O5 T5 hw HF2
      go_wp2
      go_roundw
      case rel=>exact⟨false,j2,0,k+1,c5,some ⟨g5,off5,none⟩,ps++[p],vss++[vs],rfl,by omega,by omega,by omega,S6,Z6,K6,P6,O6,ħ (fun e=>by cases e),ħ (fun _=>HX.o)⟩
      case measure=>rw[P6.o.idx,HID.o];omega
     | true =>
      have hlt:=Zbv hw
      refine (Zbt w5 R ao cap ts sz j2 word P5.o hn HTS.o hword hw).mono ?_
      have HX:Hid (V=(Zdd ts word el f' (j2+1) (ps++[p])).bind (fun r=>(.ok (Zeq κ r.1,r.2):PR Prd))):=ħ (by rw[HF2.o,if_pos hw])
      rintro e w6 ⟨rfl,p6,o6⟩
      have S6:=ħ (S5.o.only o6 (by have:=RA.o;omega))
      have Z6:=ħ (Z5.o.only o6 (by have:=RW.o;omega))
      have K6:=ħ (K5.o.only o6 RW.o (by have:=HA.o;omega))
      have P6:=ħ p6
      have O6:=ħ (O5.o.trans o6)
      clear p6 o6 S5 Z5 K5 P5 O5 T5 hw HF2
      go_wp2
      go_roundw
      case rel=>exact⟨true,j2+1,f',k+1,c5,some ⟨g5,off5,none⟩,ps++[p],vss++[vs],rfl,by omega,by omega,by omega,S6,Z6,K6,P6,O6,ħ (fun _=>⟨HX.o,by have:=HFF.o;omega⟩),ħ (fun e=>by cases e)⟩
      case measure=>rw[P6.o.idx,HID.o];omega
theorem Z7k (w:World) (R:Nat) (ao:Option Addr) (cap:Nat) (ts:List Tok) (sz i0 B:Nat) (unit:Nat→PR Prd) (hT:Tab w B) (hR:B≤R) (h:ParW w R ao cap ts sz i0) (hi:i0≤ts.length) (hn:ts.length≤1000000) (hts:∀ t∈ts,TokOk t) (hgo:Zsf ts.length unit)
  (hel:∀ (i:Nat) (w:World),i0≤i→i≤ts.length→Tab w B→ParW w R ao cap ts sz i→Calls Tryz.prog 203 #[.pointer (some ⟨R,0,none⟩)] w fun e w'=>Zht w R ao cap ts sz (unit i) e w') :
  Calls Tryz.prog 138 #[.pointer (some ⟨R,0,none⟩)] w fun e w'=>Zht w R ao cap ts sz (Z19 ts unit i0) e w':=by
 obtain⟨V,hV⟩:∃ V,(Zdd ts [97,110,100] unit (ts.length+1) i0 []).bind (fun r=>(.ok (Zeq 1 r.1,r.2):PR Prd))=V:=⟨_,rfl⟩
 have hpl:Z19 ts unit i0=V:=hV
 rw[hpl]
 have HV:=ħ hV
 clear hpl hV
 have hmf:∀ (fn:Fn) (first cap:Array Value) (w:World),(Instr.makeFunc fn first cap).run Tryz.prog w = .ok (.func fn first cap) w:=fun _ _ _ _=>rfl
 have Z0:Hid (Zah (w.alloc (.cells #[.int .i64 0,.string ⟨#[]⟩,.string ⟨#[]⟩,.int .i64 0,.slice none 0 0] 25)) w.heap.size 25 Zb0):=ħ (Zah.new w _ Zb0)
 have B0:=ħ ((Below.refl w.heap.size w).alloc (Nat.le_refl _) (.cells #[.int .i64 0,.string ⟨#[]⟩,.string ⟨#[]⟩,.int .i64 0,.slice none 0 0] 25))
 have SZ:Hid ((w.alloc (.cells #[.int .i64 0,.string ⟨#[]⟩,.string ⟨#[]⟩,.int .i64 0,.slice none 0 0] 25)).heap.size=w.heap.size+1):=ħ (by simp)
 have H0:=ħ h
 have HT:=ħ hT
 have HTS:=ħ hts
 have HEL:=ħ hel
 have HGO:=ħ hgo
 have RL:=ħ h.lt
 clear h hT hts hel hgo
 go_enter Tryz.func138,Tryz.ntmps138
 go_wp2_with fail
 generalize w.alloc (.cells #[.int .i64 0,.string ⟨#[]⟩,.string ⟨#[]⟩,.int .i64 0,.slice none 0 0] 25)=w0 at *
 have P0:=ħ (H0.o.step B0.o)
 have T0:=ħ (HT.o.step B0.o)
 refine (Z1y w0 R ao cap ts sz i0 B 1 [97,110,100] unit T0.o hR P0.o hi hn HTS.o (by decide) HGO.o HEL.o).mono ?_
 rintro e w2 ⟨o2,hr⟩
 rw[HV.o] at hr
 have O2:=ħ ((Only.of_below (p:=(· = R)) B0.o).trans o2)
 cases V with
 | error x =>
  clear o2
  subst hr
  unfold Za0
  go_wp2
  exact⟨rfl,Zas rfl O2.o rfl⟩
 | ok r =>
  obtain⟨p,j2⟩:=r
  obtain⟨⟨v,rfl,vs,rfl,hpc⟩,hp2⟩:=hr
  have PC:=ħ (hpc.mono (P':=fun g=>w.heap.size<g) (fun g hg _=>by have:=SZ.o;omega))
  have HL5:=ħ hpc.len
  have Z2:=ħ (Z0.o.only o2 (by have:=RL.o;omega))
  have P2:=ħ hp2
  clear hpc hp2 o2
  go_wp2_with (refine Zab rfl 25 (.tmp 2) (.tmp 6) rfl w.heap.size vs.toArray ?s1 ?s2 25 _ Z2.o (Zae _ HL5.o) ?s3 (PC.o.one) ?_;(case s1=>rfl);(case s2=>rfl);(case s3=>rw[List.size_toArray,List.size_toArray,HL5.o];rfl);intro w9 s9 u9;have S9:=ħ s9;have U9:=ħ u9;clear s9 u9)
  exact bodyPost_ret (results_cell_row (p:=2) (by kernel_rfl) _ _ w.heap.size 25 vs.toArray (0,0) _ rfl S9.o Tryz.underlying25 rfl (Zae _ HL5.o)) rfl (Zba rfl (O2.o.updNew U9.o (Nat.le_refl _)) rfl ⟨vs,rfl,(PC.o.upd U9.o (Nat.lt_irrefl _)).mono (fun g hg _=>Nat.le_of_lt hg)⟩ (H0.o.upd P2.o U9.o (Nat.le_refl _)))
theorem Zpu (w:World) (R:Nat) (ao:Option Addr) (cap:Nat) (ts:List Tok) (sz i0 B:Nat) (unit:Nat→PR Prd) (hT:Tab w B) (hR:B≤R) (h:ParW w R ao cap ts sz i0) (hi:i0≤ts.length) (hn:ts.length≤1000000) (hts:∀ t∈ts,TokOk t) (hgo:Zsf ts.length unit)
  (hel:∀ (i:Nat) (w:World),i0≤i→i≤ts.length→Tab w B→ParW w R ao cap ts sz i→Calls Tryz.prog 203 #[.pointer (some ⟨R,0,none⟩)] w fun e w'=>Zht w R ao cap ts sz (unit i) e w') :
  Calls Tryz.prog 74 #[.pointer (some ⟨R,0,none⟩)] w fun e w'=>Zht w R ao cap ts sz (Zfc ts unit i0) e w':=by
 obtain⟨V,hV⟩:∃ V,(Zdd ts [111,114] (Z19 ts unit) (ts.length+1) i0 []).bind (fun r=>(.ok (Zeq 2 r.1,r.2):PR Prd))=V:=⟨_,rfl⟩
 have hpl:Zfc ts unit i0=V:=hV
 rw[hpl]
 have HV:=ħ hV
 clear hpl hV
 have hmf:∀ (fn:Fn) (first cap:Array Value) (w:World),(Instr.makeFunc fn first cap).run Tryz.prog w = .ok (.func fn first cap) w:=fun _ _ _ _=>rfl
 have Z0:Hid (Zah (w.alloc (.cells #[.int .i64 0,.string ⟨#[]⟩,.string ⟨#[]⟩,.int .i64 0,.slice none 0 0] 25)) w.heap.size 25 Zb0):=ħ (Zah.new w _ Zb0)
 have B0:=ħ ((Below.refl w.heap.size w).alloc (Nat.le_refl _) (.cells #[.int .i64 0,.string ⟨#[]⟩,.string ⟨#[]⟩,.int .i64 0,.slice none 0 0] 25))
 have SZ:Hid ((w.alloc (.cells #[.int .i64 0,.string ⟨#[]⟩,.string ⟨#[]⟩,.int .i64 0,.slice none 0 0] 25)).heap.size=w.heap.size+1):=ħ (by simp)
 have H0:=ħ h
 have HT:=ħ hT
 have HTS:=ħ hts
 have HEL:=ħ hel
 have HGO:=ħ hgo
 have RL:=ħ h.lt
 clear h hT hts hel hgo
 go_enter Tryz.func74,Tryz.ntmps74
 go_wp2_with fail
 generalize w.alloc (.cells #[.int .i64 0,.string ⟨#[]⟩,.string ⟨#[]⟩,.int .i64 0,.slice none 0 0] 25)=w0 at *
 have P0:=ħ (H0.o.step B0.o)
 have T0:=ħ (HT.o.step B0.o)
 refine (Z5h w0 R ao cap ts sz i0 B 2 [111,114] (Z19 ts unit) T0.o hR P0.o hi hn HTS.o (by decide) (Zxh HGO.o) (fun i w h1 h2 hT hp=>Z7k w R ao cap ts sz i B unit hT hR hp h2 hn HTS.o HGO.o (fun k w h3 h4=>HEL.o k w (Nat.le_trans h1 h3) h4))).mono ?_
 rintro e w2 ⟨o2,hr⟩
 rw[HV.o] at hr
 have O2:=ħ ((Only.of_below (p:=(· = R)) B0.o).trans o2)
 cases V with
 | error x =>
  clear o2
  subst hr
  unfold Za0
  go_wp2
  exact⟨rfl,Zas rfl O2.o rfl⟩
 | ok r =>
  obtain⟨p,j2⟩:=r
  obtain⟨⟨v,rfl,vs,rfl,hpc⟩,hp2⟩:=hr
  have PC:=ħ (hpc.mono (P':=fun g=>w.heap.size<g) (fun g hg _=>by have:=SZ.o;omega))
  have HL5:=ħ hpc.len
  have Z2:=ħ (Z0.o.only o2 (by have:=RL.o;omega))
  have P2:=ħ hp2
  clear hpc hp2 o2
  go_wp2_with (refine Zab rfl 25 (.tmp 2) (.tmp 6) rfl w.heap.size vs.toArray ?s1 ?s2 25 _ Z2.o (Zae _ HL5.o) ?s3 (PC.o.one) ?_;(case s1=>rfl);(case s2=>rfl);(case s3=>rw[List.size_toArray,List.size_toArray,HL5.o];rfl);intro w9 s9 u9;have S9:=ħ s9;have U9:=ħ u9;clear s9 u9)
  exact bodyPost_ret (results_cell_row (p:=2) (by kernel_rfl) _ _ w.heap.size 25 vs.toArray (0,0) _ rfl S9.o Tryz.underlying25 rfl (Zae _ HL5.o)) rfl (Zba rfl (O2.o.updNew U9.o (Nat.le_refl _)) rfl ⟨vs,rfl,(PC.o.upd U9.o (Nat.lt_irrefl _)).mono (fun g hg _=>Nat.le_of_lt hg)⟩ (H0.o.upd P2.o U9.o (Nat.le_refl _)))
end
section
open Go.RowKit
theorem Za6 (w:World) (a b c:Obj):(((w.alloc a).alloc b).alloc c).heap[w.heap.size+1+1]?=some c:=by
 have:=heap_alloc_new ((w.alloc a).alloc b) c
 simpa using this
def Zb8 (l r:List Nat) (c:Int):List Value:=[.int .i64 0,.string (Zad l),.string (Zad r),.int .i64 c,.slice none 0 0]
theorem Zcv (w:World) (P:Nat→Prop) (l r:List Nat) (c:Int):Zai w P (.mk 0 l r c []) (Zb8 l r c):=by
 unfold Zai
 exact⟨none,0,rfl,.inl rfl⟩
theorem Zfo (a b:Zfx) (less:Int) (w:World) (ha:SumOk a) (hb:SumOk b) (h0:0≤less) (h1:less≤1) :
  Calls Tryz.prog 291 #[.agg (Zc2 a).toArray,.agg (Zc2 b).toArray,.int .i64 less] w fun e w'=>e = .returned (.agg (Zb8 a.1 b.1 (b.2-a.2-less)).toArray)∧Below w.heap.size w w':=by
 have e1:IntKind.i64.wrap (b.2-a.2)=b.2-a.2:=IntWalk.i64_in _ (by have:=ha.lo;have:=ha.hi;have:=hb.lo;have:=hb.hi;omega)
 have e2:IntKind.i64.wrap (b.2-a.2-less)=b.2-a.2-less:=IntWalk.i64_in _ (by have:=ha.lo;have:=ha.hi;have:=hb.lo;have:=hb.hi;omega)
 clear ha hb h0 h1
 obtain⟨a1,a2⟩:=a
 obtain⟨b1,b2⟩:=b
 simp only at e1 e2
 unfold Zc2 Zb8
 generalize Zad a1=x at *
 generalize Zad b1=y at *
 go_enter Tryz.func291,Tryz.ntmps291
 go_wp2
 exact bodyPost_ret (results_cell_row (p:=6) (by kernel_rfl) _ _ (w.heap.size+1+1) 25 _ (0,0) _ rfl (Za6 _ _ _ _) Tryz.underlying25 rfl (Zae _ rfl)) rfl ⟨rfl,(((Below.refl _ w).alloc (Nat.le_refl _) _).alloc (by simp) _).alloc (by simp;omega) _⟩
def Zr8 (l r:List Nat) (c:Int):List Value:=[.string (Zad l),.string (Zad r),.int .i64 c]
theorem Ztq (vs:List Value) (h:vs.length=3):(Tryz.prog.info? 123).map (·.size)=some vs.toArray.size:=by
 rw[List.size_toArray,h]
 kernel_rfl
theorem Zje (κ:Int) (l r:List Nat) (c:Int) (x:Value) (hx:x.oneCell'=true) (w:World) :
  Calls Tryz.prog 106 #[.agg #[.int .i64 κ,.string (Zad l),.string (Zad r),.int .i64 c,x]] w fun e w'=>e = .returned (.agg (Zr8 l r c).toArray)∧Below w.heap.size w w':=by
 unfold Zr8
 generalize Zad l=y at *
 generalize Zad r=z at *
 go_enter Tryz.func106,Tryz.ntmps106
 go_wp2
 exact bodyPost_ret (results_cell_row (p:=2) (by kernel_rfl) _ _ (w.heap.size+1) 123 _ (0,0) _ rfl (heap_alloc2_new _ _ _) Tryz.underlying123 rfl (Ztq _ rfl)) rfl ⟨rfl,((Below.refl _ w).alloc (Nat.le_refl _) _).alloc (by simp) _⟩
theorem Zkf (l r:List Nat) (c:Int) (w:World) :
  Calls Tryz.prog 155 #[.agg (Zr8 l r c).toArray] w fun e w'=>e = .returned (.agg (Zr8 r l (w64 (w64 (-c)-1))).toArray)∧Below w.heap.size w w':=by
 have e1:IntKind.i64.wrap (-c)=w64 (-c):=by rw[IntKind.wrap_i64];rfl
 have e2:IntKind.i64.wrap (w64 (-c)-1)=w64 (w64 (-c)-1):=by rw[IntKind.wrap_i64];rfl
 unfold Zr8
 generalize Zad l=y at *
 generalize Zad r=z at *
 generalize w64 (w64 (-c)-1)=d at *
 generalize w64 (-c)=d1 at *
 go_enter Tryz.func155,Tryz.ntmps155
 go_wp2
 exact bodyPost_ret (results_cell_row (p:=2) (by kernel_rfl) _ _ (w.heap.size+1) 123 _ (0,0) _ rfl (heap_alloc2_new _ _ _) Tryz.underlying123 rfl (Ztq _ rfl)) rfl ⟨rfl,((Below.refl _ w).alloc (Nat.le_refl _) _).alloc (by simp) _⟩
theorem Z1z (l r:List Nat) (c:Int) (w:World) :
  Calls Tryz.prog 92 #[.agg (Zr8 l r c).toArray] w fun e w'=>e = .returned (.agg (Zb8 l r c).toArray)∧Below w.heap.size w w':=by
 unfold Zr8 Zb8
 generalize Zad l=y at *
 generalize Zad r=z at *
 go_enter Tryz.func92,Tryz.ntmps92
 go_wp2
 exact bodyPost_ret (results_cell_row (p:=2) (by kernel_rfl) _ _ (w.heap.size+1) 25 _ (0,0) _ rfl (heap_alloc2_new _ _ _) Tryz.underlying25 rfl (Zae _ rfl)) rfl ⟨rfl,((Below.refl _ w).alloc (Nat.le_refl _) _).alloc (by simp) _⟩
end
section
open Go.RowKit
theorem Zbf (w:World) (a b c:Obj):(((w.alloc a).alloc b).alloc c).heap[w.heap.size+1]?=some b:=by
 rw[Below.heap_alloc ((w.alloc a).alloc b) c (w.heap.size+1) (by simp)];exact heap_alloc2_new w a b
theorem Zbg (w:World) (a b c:Obj):(((w.alloc a).alloc b).alloc c).heap[w.heap.size]?=some a:=by
 rw[Below.heap_alloc ((w.alloc a).alloc b) c w.heap.size (by simp;omega)];exact Zar w a b
theorem Zah.grownBy {w w':World} {g:Nat} {t:TypeId} {cs:List Value} {row:Option Nat} (h:Zah w g t cs) (hg:w.grownBy w' row) (hr:row≠some g):Zah w' g t cs:=by
 unfold Zah;rw[hg.block g h.lt (fun e=>hr e.symm)];exact h
theorem Zhg (p:Prd):1≤Za8 p:=by
 cases p;unfold Za8;omega
theorem Zcs:∀ ks:List Prd,ks.length≤Zb9 ks
 | []=>Nat.zero_le _
 | p::ps=>by
  unfold Zb9
  have:=Zcs ps
  have:=Zhg p
  simp only[List.length_cons]
  omega
theorem Zhh:∀ (ks:List Prd) (i:Nat) (p:Prd),ks[i]?=some p→Za8 p≤Zb9 ks
 | [],_,_,h=>by simp at h
 | q::ps,0,p,h=>by
  obtain rfl:q=p:=by simpa using h
  unfold Zb9;omega
 | q::ps,i+1,p,h=>by
  unfold Zb9
  have:=Zhh ps i p (by simpa using h)
  omega
theorem Zr4:∀ (ks:List Prd) (i:Nat) (p:Prd),ks[i]?=some p→Zxb (ks.take (i+1))=Zxb (ks.take i)++[Zsc p]
 | [],_,_,h=>by simp at h
 | q::ps,0,p,h=>by
  obtain rfl:q=p:=by simpa using h
  simp[Zxb]
 | q::ps,i+1,p,h=>by
  rw[List.take_succ_cons,List.take_succ_cons]
  unfold Zxb
  rw[Zr4 ps i p (by simpa using h)]
  rfl
def Z8t (w:World) (p:Prd) (e:Ending) (w':World):Prop:=(∃ v,e = .returned v∧Zpt w.heap.size w' p v)∧Below w.heap.size w w'
theorem Z5i (w:World) (l r:List Nat) (c:Int) (ks:List Prd) (a:Option Addr) (n cap:Nat) :
  Calls Tryz.prog 90 #[.agg #[.int .i64 0,.string (Zad l),.string (Zad r),.int .i64 c,.slice a n cap]] w fun e w'=>Z8t w (Zsc (.mk 0 l r c ks)) e w':=by
 have HN:Hid (Zsc (.mk 0 l r c ks) = .mk 0 r l (w64 (w64 (-c)-1)) []):=ħ (by unfold Zsc;rw[if_pos rfl])
 rw[HN.o]
 clear HN
 generalize hd:w64 (w64 (-c)-1)=d at *
 have HD:=ħ hd
 clear hd
 have K1:=ħ (fun (w:World)=>Zje 0 l r c (.slice a n cap) rfl w)
 have K2:=ħ (fun (w:World)=>Zkf l r c w)
 have K3:=ħ (fun (w:World)=>Z1z r l d w)
 rw[HD.o] at K2
 generalize Zad l=y at *
 generalize Zad r=z at *
 generalize (Zr8 l r c).toArray=k1 at *
 generalize (Zr8 r l d).toArray=k2 at *
 have Z1:Hid (Zah ((w.alloc (.cells #[.int .i64 0,.string y,.string z,.int .i64 c,.slice a n cap] 25)).alloc (.cells #[.int .i64 0,.string ⟨#[]⟩,.string ⟨#[]⟩,.int .i64 0,.slice none 0 0] 25)) (w.heap.size+1) 25 Zb0):=ħ (heap_alloc2_new w _ _)
 have D1:=ħ (((Below.refl w.heap.size w).alloc (Nat.le_refl _) (.cells #[.int .i64 0,.string y,.string z,.int .i64 c,.slice a n cap] 25)).alloc (by simp) (.cells #[.int .i64 0,.string ⟨#[]⟩,.string ⟨#[]⟩,.int .i64 0,.slice none 0 0] 25))
 have SZ:Hid (((w.alloc (.cells #[.int .i64 0,.string y,.string z,.int .i64 c,.slice a n cap] 25)).alloc (.cells #[.int .i64 0,.string ⟨#[]⟩,.string ⟨#[]⟩,.int .i64 0,.slice none 0 0] 25)).heap.size=w.heap.size+2):=ħ (by simp)
 go_enter Tryz.func90,Tryz.ntmps90
 go_wp2_with fail
 generalize (w.alloc (.cells #[.int .i64 0,.string y,.string z,.int .i64 c,.slice a n cap] 25)).alloc (.cells #[.int .i64 0,.string ⟨#[]⟩,.string ⟨#[]⟩,.int .i64 0,.slice none 0 0] 25)=w0 at *
 refine (K1.o _).mono ?_
 rintro e w1 ⟨rfl,b1⟩
 have Z2:=ħ (Z1.o.step b1)
 have D2:=ħ (D1.o.trans (b1.mono D1.o.size))
 clear b1 Z1 D1
 go_wp2_with fail
 refine (K2.o _).mono ?_
 rintro e w2 ⟨rfl,b2⟩
 have Z3:=ħ (Z2.o.step b2)
 have D3:=ħ (D2.o.trans (b2.mono D2.o.size))
 clear b2 Z2 D2
 go_wp2_with fail
 refine (K3.o _).mono ?_
 rintro e w3 ⟨rfl,b3⟩
 have Z4:=ħ (Z3.o.step b3)
 have D4:=ħ (D3.o.trans (b3.mono D3.o.size))
 clear b3 Z3 D3
 go_wp2_with (refine Zab rfl 25 (.tmp 2) (.tmp 12) rfl (w.heap.size+1) (Zb8 r l d).toArray ?s1 ?s2 25 _ Z4.o (Zae _ rfl) rfl (by simp[Zb8,Value.oneCell']) ?_;(case s1=>rfl);(case s2=>rfl);intro w9 s9 u9;have S9:=ħ s9;have U9:=ħ u9;clear s9 u9)
 exact bodyPost_ret (results_cell_row (p:=2) (by kernel_rfl) _ _ (w.heap.size+1) 25 (Zb8 r l d).toArray (0,0) _ rfl S9.o Tryz.underlying25 rfl (Zae _ rfl)) rfl ⟨⟨_,rfl,_,rfl,Zcv _ _ _ _ _⟩,U9.o.below D4.o (Nat.le_succ _)⟩
def nkP (k:Int):Int:=if k=1 then 2 else if k=2 then 1 else k
def ncP (k:Int) (m:Nat) (c:Int):Int:=if k=3 then w64 (w64 ((m:Int)-c)+1) else 0
theorem Z10 {k:Int} {l r:List Nat} {c:Int} {ks:List Prd} (h:k≠0):Zsc (.mk k l r c ks) = .mk (nkP k) [] [] (ncP k ks.length c) (Zxb ks):=by unfold Zsc nkP ncP;rw[if_neg h]
theorem Z5j (w:World) (P:Nat→Prop) (κ:Int) (l r:List Nat) (c:Int) (ks:List Prd) (ao:Option Addr) (n cap:Nat) (hn:n=ks.length) (hκ:κ≠0) (hbig:n≤1000000)
  (hk:ks=[]∨∃ g off,ao=some ⟨g,off,none⟩∧P g∧g<w.heap.size∧Za1 w P ks g off)
  (ih:∀ (q:Prd) (w:World) (vs:List Value),q∈ks→Zai w P q vs→Calls Tryz.prog 90 #[.agg vs.toArray] w fun e w'=>Z8t w (Zsc q) e w') :
  Calls Tryz.prog 90 #[.agg #[.int .i64 κ,.string (Zad l),.string (Zad r),.int .i64 c,.slice ao n cap]] w fun e w'=>Z8t w (Zsc (.mk κ l r c ks)) e w':=by
 rw[Z10 hκ]
 have HK:=ħ hk
 have IH:=ħ ih
 have HN:=ħ hn
 clear hk ih hn
 generalize Zad l=y at *
 generalize Zad r=z at *
 have X1:Hid (Zah (((w.alloc (.cells #[.int .i64 κ,.string y,.string z,.int .i64 c,.slice ao n cap] 25)).alloc (.cells #[.int .i64 0,.string ⟨#[]⟩,.string ⟨#[]⟩,.int .i64 0,.slice none 0 0] 25)).alloc (.cells #[.int .i64 κ,.string ⟨#[]⟩,.string ⟨#[]⟩,.int .i64 0,.slice none 0 0] 25)) w.heap.size 25 [.int .i64 κ,.string y,.string z,.int .i64 c,.slice ao n cap]):=ħ (Zbg _ _ _ _)
 have Z1:Hid (Zah (((w.alloc (.cells #[.int .i64 κ,.string y,.string z,.int .i64 c,.slice ao n cap] 25)).alloc (.cells #[.int .i64 0,.string ⟨#[]⟩,.string ⟨#[]⟩,.int .i64 0,.slice none 0 0] 25)).alloc (.cells #[.int .i64 κ,.string ⟨#[]⟩,.string ⟨#[]⟩,.int .i64 0,.slice none 0 0] 25)) (w.heap.size+1) 25 Zb0):=ħ (Zbf _ _ _ _)
 have S1:Hid (Zah (((w.alloc (.cells #[.int .i64 κ,.string y,.string z,.int .i64 c,.slice ao n cap] 25)).alloc (.cells #[.int .i64 0,.string ⟨#[]⟩,.string ⟨#[]⟩,.int .i64 0,.slice none 0 0] 25)).alloc (.cells #[.int .i64 κ,.string ⟨#[]⟩,.string ⟨#[]⟩,.int .i64 0,.slice none 0 0] 25)) (w.heap.size+1+1) 25 (Zds κ 0 none 0 0)):=ħ (Za6 _ _ _ _)
 have D1:=ħ ((((Below.refl w.heap.size w).alloc (Nat.le_refl _) (.cells #[.int .i64 κ,.string y,.string z,.int .i64 c,.slice ao n cap] 25)).alloc (by simp) (.cells #[.int .i64 0,.string ⟨#[]⟩,.string ⟨#[]⟩,.int .i64 0,.slice none 0 0] 25)).alloc (by simp;omega) (.cells #[.int .i64 κ,.string ⟨#[]⟩,.string ⟨#[]⟩,.int .i64 0,.slice none 0 0] 25))
 have κ0:(κ==0)=false:=by rw[beq_eq_false_iff_ne];exact hκ
 go_enter Tryz.func90,Tryz.ntmps90
 go_wp2_with fail
 generalize ((w.alloc (.cells #[.int .i64 κ,.string y,.string z,.int .i64 c,.slice ao n cap] 25)).alloc (.cells #[.int .i64 0,.string ⟨#[]⟩,.string ⟨#[]⟩,.int .i64 0,.slice none 0 0] 25)).alloc (.cells #[.int .i64 κ,.string ⟨#[]⟩,.string ⟨#[]⟩,.int .i64 0,.slice none 0 0] 25)=w1 at *
 obtain⟨A,hA⟩:∃ A,w.heap.size+1+1=A:=⟨_,rfl⟩
 rw[hA] at S1 ⊢
 have HA:Hid (A=w.heap.size+2):=ħ (by omega)
 clear hA
 go_loopw [19] (fun cc wr=>∃ (i cp:Nat) (ao2:Option Addr) (vss:List (List Value)),cc = .int .i64 i∧i≤n ∧
   Hid (Zah wr w.heap.size 25 [.int .i64 κ,.string y,.string z,.int .i64 c,.slice ao n cap])∧Hid (Zah wr (w.heap.size+1) 25 Zb0)∧Hid (Zah wr A 25 (Zds κ 0 ao2 i cp)) ∧
   Hid (KidsM w wr (A+1) (fun g=>g=w.heap.size+1∨g=A) ao2 i cp (Zxb (ks.take i)) vss)∧Hid (Below w.heap.size w wr)) (fun c _=>(n-intOf c).toNat)
 case atStart=>exact⟨0,0,none,[],rfl,by omega,X1,Z1,S1,ħ (KidsM.nil _ _ _ _),D1⟩
 case round =>
  clear X1 Z1 S1 D1
  obtain⟨i,cp,ao2,vss,rfl,hi,hx,hz,hs,hkm,hw⟩:=hrel
  have e2:IntKind.i64.wrap ((i:Int)+1)=((i+1:Nat):Int):=IntWalk.i64_in _ (by omega)
  have c4:=hs.o.cell 4 _ rfl
  by_cases hlt:i<n
  ·have ii:(i:Int)<n:=by omega
   have HQ:Hid (∃ q,ks[i]?=some q∧∃ g off,ao=some ⟨g,off,none⟩∧g<w.heap.size∧∃ vs,Zai wr P q vs∧Za3 wr g (off+i*5) vs):=ħ (by
    have hl:i<ks.length:=by rw[← HN.o];exact hlt
    refine⟨ks[i],List.getElem?_eq_getElem hl,?_⟩
    rcases HK.o with h | ⟨g,off,h1,h2,h3,h4⟩
    ·rw[h] at hl;exact absurd hl (Nat.not_lt_zero _)
    ·obtain⟨vs,hv1,hv2⟩:=Za1.at ks g off i _ (List.getElem?_eq_getElem hl) h4
     exact⟨g,off,h1,h3,vs,hv1.below hw.o,hv2.of_block (hw.o.block g h3)⟩)
   obtain⟨q,hq,g,off,hao,hg,vs,hpc,hrd⟩:=HQ.o
   clear HQ
   have HQI:=ħ hq
   obtain⟨xa,xn,xc,hvf,-⟩:=hpc.form
   rw[hvf] at hrd hpc
   have PC:=ħ hpc
   have r0:=hrd 0 _ rfl
   have r1:=hrd 1 _ rfl
   have r2:=hrd 2 _ rfl
   have r3:=hrd 3 _ rfl
   have r4:=hrd 4 _ rfl
   clear hrd hpc hvf vs hq
   rw[Nat.add_zero] at r0
   have HAO:=ħ hao
   subst hao
   generalize q.k=q0 at *
   generalize Zad q.l=q1 at *
   generalize Zad q.r=q2 at *
   generalize q.c=q3 at *
   go_wp2_with fail
   have XS:Hid (Zah (wr.alloc (.cells #[.int .i64 q0,.string q1,.string q2,.int .i64 q3,.slice xa xn xc] 25)) wr.heap.size 25 [.int .i64 q0,.string q1,.string q2,.int .i64 q3,.slice xa xn xc]):=ħ (Zah.new wr _ _)
   have bx:=(Below.refl wr.heap.size wr).alloc (Nat.le_refl _) (.cells #[.int .i64 q0,.string q1,.string q2,.int .i64 q3,.slice xa xn xc] 25)
   have BX:=ħ bx
   have XL:Hid ((wr.alloc (.cells #[.int .i64 q0,.string q1,.string q2,.int .i64 q3,.slice xa xn xc] 25)).heap.size=wr.heap.size+1):=ħ (by simp)
   have AL:Hid (A<wr.heap.size):=ħ hs.o.lt
   have hx2:=ħ (hx.o.step bx)
   have hz2:=ħ (hz.o.step bx)
   have hs2:=ħ (hs.o.step bx)
   have hk2:=ħ (hkm.o.step bx)
   have hw2:=ħ (hw.o.trans (bx.mono hw.o.size))
   have PX:=ħ (PC.o.below bx)
   have HBX:Hid (blk ao2≠some wr.heap.size):=ħ (fun e=>by have:=(hkm.o.own.blk_lt e).2;omega)
   clear r0 r1 r2 r3 r4 bx hx hz hs hkm hw PC c4 BX
   generalize wr.alloc (.cells #[.int .i64 q0,.string q1,.string q2,.int .i64 q3,.slice xa xn xc] 25)=wx at *
   have c4:=hs2.o.cell 4 _ rfl
   have x0:=XS.o.cell 0 _ rfl
   have x1:=XS.o.cell 1 _ rfl
   have x2:=XS.o.cell 2 _ rfl
   have x3:=XS.o.cell 3 _ rfl
   have x4:=XS.o.cell 4 _ rfl
   obtain⟨X,hX⟩:∃ X,wr.heap.size=X:=⟨_,rfl⟩
   rw[hX] at x0 x1 x2 x3 x4 XS AL XL HBX ⊢
   clear hX
   go_upto_region 7 with (fail)
   refine Zaw [0,1,2] [3,4,5,6,7] (fun w'=>w'.cell? ⟨A,4,none⟩=some (.slice ao2 i cp)∧w'.cell? ⟨X,0,none⟩=some (.int .i64 q0)∧w'.cell? ⟨X,1,none⟩=some (.string q1)∧w'.cell? ⟨X,2,none⟩=some (.string q2)∧w'.cell? ⟨X,3,none⟩=some (.int .i64 q3)∧w'.cell? ⟨X,4,none⟩=some (.slice xa xn xc)) (by kernel_rfl) (by kernel_rfl) (by kernel_rfl) (fun _ _ d _ _ h=>by cases d<;>exact h) ⟨c4,x0,x1,x2,x3,x4⟩ ?_
   simp only[Zbx,List.filterMap_cons,List.filterMap_nil,List.getElem?_cons_zero,List.getElem?_cons_succ,Option.map_some,List.map_cons,List.map_nil]
   apply Exists.intro
   refine⟨?hh,?ht⟩
   case hh =>
    intro w' hw'
    obtain⟨c4',y0,y1,y2,y3,y4⟩:=hw'
    repeat still_step
    exact wpStill_nil rfl
   case ht =>
    have BD:Below wx.heap.size wx wx.drew:=(Below.refl wx.heap.size wx).drew
    have hx3:=ħ (hx2.o.step BD)
    have hz3:=ħ (hz2.o.step BD)
    have hs3:=ħ (hs2.o.step BD)
    have hk3:=ħ (hk2.o.step BD)
    have hw3:=ħ (hw2.o.trans (BD.mono hw2.o.size))
    have XS3:=ħ (XS.o.step BD)
    have PX3:=ħ (PX.o.below BD)
    have XL3:Hid (wx.drew.heap.size=X+1):=ħ XL.o
    clear BD hx2 hz2 hs2 hk2 hw2 XS PX XL
    generalize wx.drew=wd at *
    refine Zaf ?_
    go_wp2_with fail
    refine (IH.o q wd _ (List.mem_of_getElem? HQI.o) PX3.o).mono ?_
    rintro e w2 ⟨⟨v,rfl,vs,rfl,hpc⟩,b2⟩
    have SS:Hid (∀ w':World,Below wd.heap.size wd w'→w'.cell? ⟨A,4,none⟩=some (.slice ao2 i cp)∧w'.cell? ⟨X,0,none⟩=some (.int .i64 q0)∧w'.cell? ⟨X,1,none⟩=some (.string q1)∧w'.cell? ⟨X,2,none⟩=some (.string q2)∧w'.cell? ⟨X,3,none⟩=some (.int .i64 q3)∧w'.cell? ⟨X,4,none⟩=some (.slice xa xn xc)):=ħ (fun w' hb=>⟨(hs3.o.step hb).cell 4 _ rfl,(XS3.o.step hb).cell 0 _ rfl,(XS3.o.step hb).cell 1 _ rfl,(XS3.o.step hb).cell 2 _ rfl,(XS3.o.step hb).cell 3 _ rfl,(XS3.o.step hb).cell 4 _ rfl⟩)
    have PC:=ħ hpc
    have B2:=ħ b2
    have S2:=ħ (hs3.o.step b2)
    have Z2:=ħ (hz3.o.step b2)
    have X2:=ħ (hx3.o.step b2)
    have K2:=ħ (hk3.o.step b2)
    have W2:=ħ (hw3.o.trans (b2.mono hw3.o.size))
    have XS2:=ħ (XS3.o.step b2)
    clear hpc b2
    go_wp2_with fail
    refine Zaa ⟨SS.o w2 B2.o,?_⟩
    refine Zaf ?_
    have hl5:vs.length=5:=PC.o.len
    have hfd:=Z5g #[.int .i64 0,.string ⟨#[]⟩,.string ⟨#[]⟩,.int .i64 0,.slice none 0 0] rfl vs hl5
    go_wp2_with fail
    refine Zaa ⟨SS.o _ (B2.o.alloc B2.o.size _),?_⟩
    refine Zaf ?_
    go_wp2_with (at_builtin;refine Zfa 23 25 Znm 5 72 Tryz.underlying23 Zdo rfl (by omega) (by omega) w2 (A+1) rfl (.tmp 24) (.tmp 27) rfl ao2 cp i vss.flatten ?q1 K2.o.own S2.o.lt 1 1 vs.toArray 25 ?q2 ?q6 (by omega) PC.o.ones ?q4 ?_;(case q1=>rfl);(case q2=>rfl);(case q6=>rw[List.size_toArray,hl5]);(case q4=>omega);intro g5 off5 c5 wa o8 gr8 b8 or8;have O8:=ħ o8;have GR8:=ħ gr8;have B8:=ħ b8;have OR8:=ħ or8;clear o8 gr8 b8 or8)
    have KA:=ħ (KidsM.add hk3.o K2.o hw3.o.size (fun g hg=>by have:=hs3.o.lt;have:=HA.o;rcases hg with h | h<;>omega) PC.o O8.o GR8.o OR8.o)
    have SA:=ħ (S2.o.below B8.o (Nat.lt_succ_self A))
    have ZA:=ħ (Z2.o.below B8.o (by have:=HA.o;omega))
    have XA:=ħ (X2.o.below B8.o (by have:=HA.o;omega))
    have WA:=ħ (W2.o.trans (B8.o.mono (by have:=HA.o;omega)))
    have XSA:=ħ (XS2.o.grownBy GR8.o HBX.o)
    refine Zaa ⟨⟨SA.o.cell 4 _ rfl,XSA.o.cell 0 _ rfl,XSA.o.cell 1 _ rfl,XSA.o.cell 2 _ rfl,XSA.o.cell 3 _ rfl,XSA.o.cell 4 _ rfl⟩,?_⟩
    refine Zaf ?_
    go_wp2_with fail
    refine Zaa ⟨⟨SA.o.cell 4 _ rfl,XSA.o.cell 0 _ rfl,XSA.o.cell 1 _ rfl,XSA.o.cell 2 _ rfl,XSA.o.cell 3 _ rfl,XSA.o.cell 4 _ rfl⟩,?_⟩
    refine Zaz ?_
    have m4:=SA.o.cell 4 _ rfl
    have f4:=SA.o.warm 4
    have U5:=ħ (Zaj wa ⟨A,4,none⟩ (.slice (some ⟨g5,off5,none⟩) (i+1) c5))
    have S5:Hid (Zah (wa.setCell ⟨A,4,none⟩ (.slice (some ⟨g5,off5,none⟩) (i+1) c5)) A 25 (Zds κ 0 (some ⟨g5,off5,none⟩) (i+1) c5)):=ħ (SA.o.set 4 _)
    have X5:=ħ (XA.o.upd U5.o (by show w.heap.size≠A;have:=HA.o;omega))
    have Z5:=ħ (ZA.o.upd U5.o (by show w.heap.size+1≠A;have:=HA.o;omega))
    have K5:=ħ (KA.o.upd U5.o (.inr rfl) (fun e=>by have:=(KA.o.own.blk_lt e).1;have:A+1≤A:=this;omega))
    have W5:=ħ (U5.o.below WA.o (by show w.heap.size≤A;have:=HA.o;omega))
    clear SA ZA XA KA WA XSA U5 O8 K2 S2 Z2 X2 W2 XS2 GR8 OR8 B8 B2 SS hs3 hz3 hx3 hk3 hw3 XS3 PX3 PC
    go_wp2_with fail
    go_roundw
    case rel=>exact⟨i+1,c5,some ⟨g5,off5,none⟩,vss++[vs],by go_num,by omega,X5,Z5,S5,ħ (by rw[Zr4 ks i q HQI.o];exact K5.o),W5⟩
    case measure=>simp only[intOf];omega
  ·obtain hin:i=n:=by omega
   have ii:¬ ((i:Int)<n):=by omega
   have HIN:Hid (Zxb (ks.take i)=Zxb ks):=ħ (by rw[hin,HN.o,List.take_length])
   have HLEN:Hid ((ks.length:Int)=(n:Int)):=ħ (by rw[HN.o])
   rw[HIN.o] at hkm
   have k0:=hx.o.cell 0 _ rfl
   have k4:=hx.o.cell 4 _ rfl
   have k3:=hx.o.cell 3 _ rfl
   clear c4 e2
   by_cases h1:κ=1
   ·have HNK:Hid (nkP κ=2):=ħ (by unfold nkP;rw[if_pos h1])
    have HNC:Hid (ncP κ ks.length c=0):=ħ (by unfold ncP;rw[if_neg (by omega)])
    have c1:(κ==1)=true:=by rw[h1];rfl
    have c2:(κ==2)=false:=by rw[h1];rfl
    clear h1
    have m:=hs.o.cell 0 _ rfl
    have f:=hs.o.warm 0
    have U8:=ħ (Zaj wr ⟨A,0,none⟩ (.int .i64 2))
    have S9:Hid (Zah (wr.setCell ⟨A,0,none⟩ (.int .i64 2)) A 25 (Zds 2 0 ao2 i cp)):=ħ (hs.o.set 0 _)
    have Z9:=ħ (hz.o.upd U8.o (by show w.heap.size+1≠A;have:=HA.o;omega))
    have K9:=ħ (hkm.o.upd U8.o (.inr rfl) (fun e=>by have:=(hkm.o.own.blk_lt e).1;have:A+1≤A:=this;omega))
    have W9:=ħ (U8.o.below hw.o (by show w.heap.size≤A;have:=HA.o;omega))
    go_wp2_with (first
     | (refine wpList_load_row rfl 25 (.tmp 3) rfl A ?x1 25 (Zds 2 0 ao2 i cp).toArray (0,0) _ S9.o Tryz.underlying25 rfl (Zae _ rfl) ?_;(case x1=>rfl))
     | (refine Zab rfl 25 (.tmp 2) (.tmp 49) rfl (w.heap.size+1) (Zds 2 0 ao2 i cp).toArray ?s1 ?s2 25 _ Z9.o (Zae _ rfl) rfl (Zep _ _ _ _ _) ?_;(case s1=>rfl);(case s2=>rfl);intro w9 s9 u9;have SR:=ħ s9;have U9:=ħ u9;clear s9 u9))
    have KR:=K9.o.upd U9.o (.inl rfl) (fun e=>by have:=(K9.o.own.blk_lt e).1;have:=HA.o;omega)
    exact bodyPost_ret (results_cell_row (p:=2) (by kernel_rfl) _ _ (w.heap.size+1) 25 (Zds 2 0 ao2 i cp).toArray (0,0) _ rfl SR.o Tryz.underlying25 rfl (Zae _ rfl)) rfl ⟨⟨_,rfl,_,rfl,by rw[HNK.o,HNC.o];exact KR.predV (by have:=HA.o;omega) _ _⟩,U9.o.below W9.o (Nat.le_succ _)⟩
   ·have c1:(κ==1)=false:=by rw[beq_eq_false_iff_ne];exact h1
    by_cases h2:κ=2
    ·have HNK:Hid (nkP κ=1):=ħ (by unfold nkP;rw[if_neg h1,if_pos h2])
     have HNC:Hid (ncP κ ks.length c=0):=ħ (by unfold ncP;rw[if_neg (by omega)])
     have c2:(κ==2)=true:=by rw[h2];rfl
     clear h1 h2
     have m:=hs.o.cell 0 _ rfl
     have f:=hs.o.warm 0
     have U8:=ħ (Zaj wr ⟨A,0,none⟩ (.int .i64 1))
     have S9:Hid (Zah (wr.setCell ⟨A,0,none⟩ (.int .i64 1)) A 25 (Zds 1 0 ao2 i cp)):=ħ (hs.o.set 0 _)
     have Z9:=ħ (hz.o.upd U8.o (by show w.heap.size+1≠A;have:=HA.o;omega))
     have K9:=ħ (hkm.o.upd U8.o (.inr rfl) (fun e=>by have:=(hkm.o.own.blk_lt e).1;have:A+1≤A:=this;omega))
     have W9:=ħ (U8.o.below hw.o (by show w.heap.size≤A;have:=HA.o;omega))
     go_wp2_with (first
      | (refine wpList_load_row rfl 25 (.tmp 3) rfl A ?x1 25 (Zds 1 0 ao2 i cp).toArray (0,0) _ S9.o Tryz.underlying25 rfl (Zae _ rfl) ?_;(case x1=>rfl))
      | (refine Zab rfl 25 (.tmp 2) (.tmp 49) rfl (w.heap.size+1) (Zds 1 0 ao2 i cp).toArray ?s1 ?s2 25 _ Z9.o (Zae _ rfl) rfl (Zep _ _ _ _ _) ?_;(case s1=>rfl);(case s2=>rfl);intro w9 s9 u9;have SR:=ħ s9;have U9:=ħ u9;clear s9 u9))
     have KR:=K9.o.upd U9.o (.inl rfl) (fun e=>by have:=(K9.o.own.blk_lt e).1;have:=HA.o;omega)
     exact bodyPost_ret (results_cell_row (p:=2) (by kernel_rfl) _ _ (w.heap.size+1) 25 (Zds 1 0 ao2 i cp).toArray (0,0) _ rfl SR.o Tryz.underlying25 rfl (Zae _ rfl)) rfl ⟨⟨_,rfl,_,rfl,by rw[HNK.o,HNC.o];exact KR.predV (by have:=HA.o;omega) _ _⟩,U9.o.below W9.o (Nat.le_succ _)⟩
    ·have HNK:Hid (nkP κ=κ):=ħ (by unfold nkP;rw[if_neg h1,if_neg h2])
     have c2:(κ==2)=false:=by rw[beq_eq_false_iff_ne];exact h2
     by_cases h3:κ=3
     ·have c3:(κ==3)=true:=by rw[h3];rfl
      obtain⟨D,hD⟩:∃ D,w64 (w64 ((n:Int)-c)+1)=D:=⟨_,rfl⟩
      have HNC:Hid (ncP κ ks.length c=D):=ħ (by unfold ncP;rw[if_pos h3,HLEN.o];exact hD)
      have e3:IntKind.i64.wrap ((n:Int)-c)=w64 ((n:Int)-c):=by rw[IntKind.wrap_i64];rfl
      have e4:IntKind.i64.wrap (w64 ((n:Int)-c)+1)=D:=by rw[IntKind.wrap_i64];exact hD
      generalize w64 ((n:Int)-c)=D1 at *
      clear h1 h2 h3 hD
      have m:=hs.o.cell 3 _ rfl
      have f:=hs.o.warm 3
      have U8:=ħ (Zaj wr ⟨A,3,none⟩ (.int .i64 D))
      have S9:Hid (Zah (wr.setCell ⟨A,3,none⟩ (.int .i64 D)) A 25 (Zds κ D ao2 i cp)):=ħ (hs.o.set 3 _)
      have Z9:=ħ (hz.o.upd U8.o (by show w.heap.size+1≠A;have:=HA.o;omega))
      have K9:=ħ (hkm.o.upd U8.o (.inr rfl) (fun e=>by have:=(hkm.o.own.blk_lt e).1;have:A+1≤A:=this;omega))
      have W9:=ħ (U8.o.below hw.o (by show w.heap.size≤A;have:=HA.o;omega))
      go_wp2_with (first
       | (refine wpList_load_row rfl 25 (.tmp 3) rfl A ?x1 25 (Zds κ D ao2 i cp).toArray (0,0) _ S9.o Tryz.underlying25 rfl (Zae _ rfl) ?_;(case x1=>rfl))
       | (refine Zab rfl 25 (.tmp 2) (.tmp 49) rfl (w.heap.size+1) (Zds κ D ao2 i cp).toArray ?s1 ?s2 25 _ Z9.o (Zae _ rfl) rfl (Zep _ _ _ _ _) ?_;(case s1=>rfl);(case s2=>rfl);intro w9 s9 u9;have SR:=ħ s9;have U9:=ħ u9;clear s9 u9))
      have KR:=K9.o.upd U9.o (.inl rfl) (fun e=>by have:=(K9.o.own.blk_lt e).1;have:=HA.o;omega)
      exact bodyPost_ret (results_cell_row (p:=2) (by kernel_rfl) _ _ (w.heap.size+1) 25 (Zds κ D ao2 i cp).toArray (0,0) _ rfl SR.o Tryz.underlying25 rfl (Zae _ rfl)) rfl ⟨⟨_,rfl,_,rfl,by rw[HNK.o,HNC.o];exact KR.predV (by have:=HA.o;omega) _ _⟩,U9.o.below W9.o (Nat.le_succ _)⟩
     ·have c3:(κ==3)=false:=by rw[beq_eq_false_iff_ne];exact h3
      have HNC:Hid (ncP κ ks.length c=0):=ħ (by unfold ncP;rw[if_neg h3])
      have S9:=hs
      have Z9:=hz
      have K9:=hkm
      have W9:=hw
      clear h1 h2 h3
      go_wp2_with (first
       | (refine wpList_load_row rfl 25 (.tmp 3) rfl A ?x1 25 (Zds κ 0 ao2 i cp).toArray (0,0) _ S9.o Tryz.underlying25 rfl (Zae _ rfl) ?_;(case x1=>rfl))
       | (refine Zab rfl 25 (.tmp 2) (.tmp 49) rfl (w.heap.size+1) (Zds κ 0 ao2 i cp).toArray ?s1 ?s2 25 _ Z9.o (Zae _ rfl) rfl (Zep _ _ _ _ _) ?_;(case s1=>rfl);(case s2=>rfl);intro w9 s9 u9;have SR:=ħ s9;have U9:=ħ u9;clear s9 u9))
      have KR:=K9.o.upd U9.o (.inl rfl) (fun e=>by have:=(K9.o.own.blk_lt e).1;have:=HA.o;omega)
      exact bodyPost_ret (results_cell_row (p:=2) (by kernel_rfl) _ _ (w.heap.size+1) 25 (Zds κ 0 ao2 i cp).toArray (0,0) _ rfl SR.o Tryz.underlying25 rfl (Zae _ rfl)) rfl ⟨⟨_,rfl,_,rfl,by rw[HNK.o,HNC.o];exact KR.predV (by have:=HA.o;omega) _ _⟩,U9.o.below W9.o (Nat.le_succ _)⟩
end
section
open Go.RowKit
def Z51 (κ:Int) (y z:ByteArray) (c:Int) (ao:Option Addr) (n cap:Nat):List Value:=[.int .i64 κ,.string y,.string z,.int .i64 c,.slice ao n cap]
theorem Zop:∀ (N:Nat) (p:Prd) (w:World) (P:Nat→Prop) (vs:List Value),Za8 p≤N→N≤1000000→Zai w P p vs →
  Calls Tryz.prog 90 #[.agg vs.toArray] w fun e w'=>Z8t w (Zsc p) e w'
 | 0,p,w,P,vs,hN,_,_=>by have:=Zhg p;omega
 | N+1,.mk κ l r c ks,w,P,vs,hN,hM,h=>by
  have hc:Zb9 ks≤N:=by unfold Za8 at hN;omega
  have hl:=Zcs ks
  unfold Zai at h
  obtain⟨ao,cap,rfl,hk⟩:=h
  by_cases hκ:κ=0
  ·subst hκ
   exact Z5i w l r c ks ao ks.length cap
  ·exact Z5j w P κ l r c ks ao ks.length cap rfl hκ (by omega) hk (fun q w' us hq hp=>Zop N q w' P us (by
    obtain⟨i,hi⟩:=List.mem_iff_getElem?.1 hq
    have:=Zhh ks i q hi
    omega) (by omega) hp)
mutual
def okT:Prd→Bool
 | .mk k l r c ks=>(decide (-1099511627776≤c)&&decide (c<1099511627776))&&okL ks
def okL:List Prd→Bool
 | []=>true
 | p::ps=>okT p&&okL ps
end
theorem Ztr:∀ ks:List Prd,okL ks=true↔∀ q∈ks,okT q=true
 | []=>by simp[okL]
 | p::ps=>by unfold okL;simp[Ztr ps]
def Z88 (w:World) (ok:Bool) (v:Value) (x:Int×Nat) (e:Ending) (w':World):Prop:=Below w.heap.size w w'∧(if ok=true then e = .returned v else e=Za0 x)
theorem Z5k (w:World) (P:Nat→Prop) (κ:Int) (l r:List Nat) (c:Int) (ks:List Prd) (ao:Option Addr) (n cap:Nat) (hn:n=ks.length) (hbig:n≤1000000)
  (hk:ks=[]∨∃ g off,ao=some ⟨g,off,none⟩∧P g∧g<w.heap.size∧Za1 w P ks g off)
  (R:Nat) (po:Option Addr) (pc:Nat) (ts:List Tok) (sz i0 u:Nat) (hp:ParW w R po pc ts sz i0) (hu:u≤ts.length) (hts:ts.length≤1000000)
  (ih:∀ (q:Prd) (w:World) (vs:List Value),q∈ks→Zai w P q vs→ParW w R po pc ts sz i0→Calls Tryz.prog 292 #[.pointer (some ⟨R,0,none⟩),.agg vs.toArray,.int .i64 (u:Int)] w fun e w'=>Z88 w (okT q) (.agg vs.toArray) (3,Zdu ts sz u) e w') :
  Calls Tryz.prog 292 #[.pointer (some ⟨R,0,none⟩),.agg #[.int .i64 κ,.string (Zad l),.string (Zad r),.int .i64 c,.slice ao n cap],.int .i64 (u:Int)] w fun e w'=>Z88 w (okT (.mk κ l r c ks)) (.agg #[.int .i64 κ,.string (Zad l),.string (Zad r),.int .i64 c,.slice ao n cap]) (3,Zdu ts sz u) e w':=by
 obtain⟨V,hV⟩:∃ V,okT (.mk κ l r c ks)=V:=⟨_,rfl⟩
 rw[hV]
 have HV:=ħ hV.symm
 clear hV
 have HK:=ħ hk
 have IH:=ħ ih
 have HN:=ħ hn
 have HP:=ħ hp
 clear hk ih hn hp
 generalize Zad l=y at *
 generalize Zad r=z at *
 have X1:Hid (Zah ((w.alloc (.cells #[.int .i64 κ,.string y,.string z,.int .i64 c,.slice ao n cap] 25)).alloc (.cells #[.int .i64 0,.string ⟨#[]⟩,.string ⟨#[]⟩,.int .i64 0,.slice none 0 0] 25)) w.heap.size 25 [.int .i64 κ,.string y,.string z,.int .i64 c,.slice ao n cap]):=ħ (Zar _ _ _)
 have Z1:Hid (Zah ((w.alloc (.cells #[.int .i64 κ,.string y,.string z,.int .i64 c,.slice ao n cap] 25)).alloc (.cells #[.int .i64 0,.string ⟨#[]⟩,.string ⟨#[]⟩,.int .i64 0,.slice none 0 0] 25)) (w.heap.size+1) 25 Zb0):=ħ (heap_alloc2_new _ _ _)
 have D1:=ħ (((Below.refl w.heap.size w).alloc (Nat.le_refl _) (.cells #[.int .i64 κ,.string y,.string z,.int .i64 c,.slice ao n cap] 25)).alloc (by simp) (.cells #[.int .i64 0,.string ⟨#[]⟩,.string ⟨#[]⟩,.int .i64 0,.slice none 0 0] 25))
 by_cases hin:-1099511627776≤c∧c<1099511627776
 ·have g1:¬ c < -1099511627776:=by omega
  have g2:¬ 1099511627776≤c:=by omega
  have HV2:Hid (V=okL ks):=ħ (by rw[HV.o];unfold okT;rw[decide_eq_true hin.1,decide_eq_true hin.2];rfl)
  clear hin HV
  go_enter Tryz.func292,Tryz.ntmps292
  go_wp2_with fail
  clear g1 g2
  generalize (w.alloc (.cells #[.int .i64 κ,.string y,.string z,.int .i64 c,.slice ao n cap] 25)).alloc (.cells #[.int .i64 0,.string ⟨#[]⟩,.string ⟨#[]⟩,.int .i64 0,.slice none 0 0] 25)=w1 at *
  go_loopw [23] (fun cc wr=>∃ (i:Nat),cc = .int .i64 i∧i≤n ∧
    Hid (Zah wr w.heap.size 25 [.int .i64 κ,.string y,.string z,.int .i64 c,.slice ao n cap])∧Hid (Zah wr (w.heap.size+1) 25 Zb0) ∧
    Hid (Below w.heap.size w wr)∧Hid (∀ j q,j<i→ks[j]?=some q→okT q=true)) (fun c _=>(n-intOf c).toNat)
  case atStart=>exact⟨0,rfl,by omega,X1,Z1,D1,ħ (fun j q hj=>absurd hj (Nat.not_lt_zero j))⟩
  case round =>
   clear X1 Z1 D1
   obtain⟨i,rfl,hi,hx,hz,hw,hok⟩:=hrel
   have e2:IntKind.i64.wrap ((i:Int)+1)=((i+1:Nat):Int):=IntWalk.i64_in _ (by omega)
   by_cases hlt:i<n
   ·have ii:(i:Int)<n:=by omega
    have HQ:Hid (∃ q,ks[i]?=some q∧∃ g off,ao=some ⟨g,off,none⟩∧g<w.heap.size∧∃ vs,Zai wr P q vs∧Za3 wr g (off+i*5) vs):=ħ (by
     have hl:i<ks.length:=by rw[← HN.o];exact hlt
     refine⟨ks[i],List.getElem?_eq_getElem hl,?_⟩
     rcases HK.o with h | ⟨g,off,h1,h2,h3,h4⟩
     ·rw[h] at hl;exact absurd hl (Nat.not_lt_zero _)
     ·obtain⟨vs,hv1,hv2⟩:=Za1.at ks g off i _ (List.getElem?_eq_getElem hl) h4
      exact⟨g,off,h1,h3,vs,hv1.below hw.o,hv2.of_block (hw.o.block g h3)⟩)
    obtain⟨q,hq,g,off,hao,hg,vs,hpc,hrd⟩:=HQ.o
    clear HQ
    have HQI:=ħ hq
    obtain⟨xa,xn,xc,hvf,-⟩:=hpc.form
    rw[hvf] at hrd hpc
    have PC:=ħ hpc
    have r0:=hrd 0 _ rfl
    have r1:=hrd 1 _ rfl
    have r2:=hrd 2 _ rfl
    have r3:=hrd 3 _ rfl
    have r4:=hrd 4 _ rfl
    clear hrd hpc hvf vs hq
    rw[Nat.add_zero] at r0
    have HAO:=ħ hao
    subst hao
    generalize q.k=q0 at *
    generalize Zad q.l=q1 at *
    generalize Zad q.r=q2 at *
    generalize q.c=q3 at *
    go_wp2_with fail
    have bx:=(Below.refl wr.heap.size wr).alloc (Nat.le_refl _) (.cells #[.int .i64 q0,.string q1,.string q2,.int .i64 q3,.slice xa xn xc] 25)
    have hx2:=ħ (hx.o.step bx)
    have hz2:=ħ (hz.o.step bx)
    have hw2:=ħ (hw.o.trans (bx.mono hw.o.size))
    have PX:=ħ (PC.o.below bx)
    have HP2:=ħ (HP.o.step hw2.o)
    clear r0 r1 r2 r3 r4 bx hx hz hw PC
    generalize wr.alloc (.cells #[.int .i64 q0,.string q1,.string q2,.int .i64 q3,.slice xa xn xc] 25)=wx at *
    refine (IH.o q wx _ (List.mem_of_getElem? HQI.o) PX.o HP2.o).mono ?_
    rintro e w2 ⟨b2,he⟩
    have hx3:=ħ (hx2.o.step b2)
    have hz3:=ħ (hz2.o.step b2)
    have hw3:=ħ (hw2.o.trans (b2.mono hw2.o.size))
    clear b2 hx2 hz2 hw2 PX HP2
    cases hq:okT q with
    | true =>
     rw[hq,if_pos rfl] at he
     subst he
     have HOK:=ħ hq
     clear hq
     go_wp2
     go_roundw
     case rel=>exact⟨i+1,by go_num,by omega,hx3,hz3,hw3,ħ (fun j q' hj hq'=>by
      rcases Nat.lt_or_ge j i with h | h
      ·exact hok.o j q' h hq'
      ·obtain rfl:j=i:=by omega
       rw[HQI.o] at hq'
       obtain rfl:=Option.some.inj hq'
       exact HOK.o)⟩
     case measure=>simp only[intOf];omega
    | false =>
     rw[hq,if_neg (by simp)] at he
     have HF:Hid (V=false):=ħ (by
      rw[HV2.o,Bool.eq_false_iff]
      intro h
      have:=(Ztr ks).1 h q (List.mem_of_getElem? HQI.o)
      rw[hq] at this
      cases this)
     subst he
     clear hq
     unfold Za0
     go_wp2
     exact⟨rfl,hw3.o,by rw[HF.o];exact rfl⟩
   ·have ii:¬ ((i:Int)<n):=by omega
    have HT:Hid (V=true):=ħ (by
     rw[HV2.o,Ztr]
     intro q hq
     obtain⟨j,hj⟩:=List.mem_iff_getElem?.1 hq
     have hjl:=(List.getElem?_eq_some_iff.1 hj).1
     exact hok.o j q (by rw[← HN.o] at hjl;omega) hj)
    go_wp2_with (first
     | (refine wpList_load_row rfl 25 (.tmp 4) rfl w.heap.size ?x1 25 (Z51 κ y z c ao n cap).toArray (0,0) _ hx.o Tryz.underlying25 rfl (Zae _ rfl) ?_;(case x1=>rfl))
     | (refine Zab rfl 25 (.tmp 6) (.tmp 32) rfl (w.heap.size+1) (Z51 κ y z c ao n cap).toArray ?s1 ?s2 25 _ hz.o (Zae _ rfl) rfl (by simp[Z51,Value.oneCell']) ?_;(case s1=>rfl);(case s2=>rfl);intro w9 s9 u9;have S9:=ħ s9;have U9:=ħ u9;clear s9 u9))
    exact bodyPost_ret (results_cell_row (p:=6) (by kernel_rfl) _ _ (w.heap.size+1) 25 (Z51 κ y z c ao n cap).toArray (0,0) _ rfl S9.o Tryz.underlying25 rfl (Zae _ rfl)) rfl ⟨U9.o.below hw.o (Nat.le_succ _),by rw[HT.o];exact rfl⟩
 ·have HF:Hid (V=false):=ħ (by
   rw[HV.o];unfold okT
   by_cases h1:-1099511627776≤c
   ·rw[decide_eq_false (show ¬ c<1099511627776 by omega)];simp
   ·rw[decide_eq_false h1];rfl)
  by_cases h1:c < -1099511627776
  ·clear hin
   go_enter Tryz.func292,Tryz.ntmps292
   go_wp2_with fail
   generalize (w.alloc (.cells #[.int .i64 κ,.string y,.string z,.int .i64 c,.slice ao n cap] 25)).alloc (.cells #[.int .i64 0,.string ⟨#[]⟩,.string ⟨#[]⟩,.int .i64 0,.slice none 0 0] 25)=w1 at *
   refine (Zcj w1 R po pc ts sz u i0 3 (HP.o.step D1.o) hu hts).mono ?_
   rintro e w2 ⟨rfl,b2⟩
   have W2:=ħ (D1.o.trans (b2.mono D1.o.size))
   clear b2
   unfold Za0
   go_wp2
   exact⟨rfl,W2.o,by rw[HF.o];exact rfl⟩
  ·have g2:1099511627776≤c:=by omega
   clear hin
   go_enter Tryz.func292,Tryz.ntmps292
   go_wp2_with fail
   generalize (w.alloc (.cells #[.int .i64 κ,.string y,.string z,.int .i64 c,.slice ao n cap] 25)).alloc (.cells #[.int .i64 0,.string ⟨#[]⟩,.string ⟨#[]⟩,.int .i64 0,.slice none 0 0] 25)=w1 at *
   refine (Zcj w1 R po pc ts sz u i0 3 (HP.o.step D1.o) hu hts).mono ?_
   rintro e w2 ⟨rfl,b2⟩
   have W2:=ħ (D1.o.trans (b2.mono D1.o.size))
   clear b2
   unfold Za0
   go_wp2
   exact⟨rfl,W2.o,by rw[HF.o];exact rfl⟩
theorem Zcw:∀ (N:Nat) (p:Prd) (w:World) (P:Nat→Prop) (vs:List Value) (R:Nat) (po:Option Addr) (pc:Nat) (ts:List Tok) (sz i0 u:Nat),Za8 p≤N→N≤1000000→Zai w P p vs→ParW w R po pc ts sz i0→u≤ts.length→ts.length≤1000000 →
  Calls Tryz.prog 292 #[.pointer (some ⟨R,0,none⟩),.agg vs.toArray,.int .i64 (u:Int)] w fun e w'=>Z88 w (okT p) (.agg vs.toArray) (3,Zdu ts sz u) e w'
 | 0,p,w,P,vs,R,po,pc,ts,sz,i0,u,hN,_,_,_,_,_=>by have:=Zhg p;omega
 | N+1,.mk κ l r c ks,w,P,vs,R,po,pc,ts,sz,i0,u,hN,hM,h,hp,hu,hts=>by
  have hc:Zb9 ks≤N:=by unfold Za8 at hN;omega
  have hl:=Zcs ks
  unfold Zai at h
  obtain⟨ao,cap,rfl,hk⟩:=h
  exact Z5k w P κ l r c ks ao ks.length cap rfl (by omega) hk R po pc ts sz i0 u hp hu hts (fun q w' us hq hpc hp'=>Zcw N q w' P us R po pc ts sz i0 u (by
    obtain⟨i,hi⟩:=List.mem_iff_getElem?.1 hq
    have:=Zhh ks i q hi
    omega) (by omega) hpc hp' hu hts)
end
section
open Go.RowKit
theorem Z11 (w:World) (R:Nat) (ao:Option Addr) (cap:Nat) (ts:List Tok) (sz i u B:Nat) (unit:Nat→PR Prd) (hT:Tab w B) (hR:B≤R) (h:ParW w R ao cap ts sz i) (hi:i≤ts.length) (hu:u≤ts.length) (hn:ts.length≤1000000) (hts:∀ t∈ts,TokOk t) (hgo:Zsf ts.length unit)
  (hel:∀ (k:Nat) (w:World),i≤k→k≤ts.length→Tab w B→ParW w R ao cap ts sz k→Calls Tryz.prog 203 #[.pointer (some ⟨R,0,none⟩)] w fun e w'=>Zht w R ao cap ts sz (unit k) e w') :
  Calls Tryz.prog 244 #[.pointer (some ⟨R,0,none⟩),.int .i64 (u:Int)] w fun e w'=>Zht w R ao cap ts sz (Zgl ts sz unit u i) e w':=by
 obtain⟨V,hV⟩:∃ V,Zgl ts sz unit u i=V:=⟨_,rfl⟩
 rw[hV]
 have HV:=ħ hV.symm
 unfold Zgl at HV
 clear hV
 have Z0:Hid (Zah (w.alloc (.cells #[.int .i64 0,.string ⟨#[]⟩,.string ⟨#[]⟩,.int .i64 0,.slice none 0 0] 25)) w.heap.size 25 Zb0):=ħ (Zah.new w _ Zb0)
 have B0:=ħ ((Below.refl w.heap.size w).alloc (Nat.le_refl _) (.cells #[.int .i64 0,.string ⟨#[]⟩,.string ⟨#[]⟩,.int .i64 0,.slice none 0 0] 25))
 have P0:=ħ (h.step B0.o)
 have T0:=ħ (hT.step B0.o)
 have Q0:=ħ (Only.refl (w.alloc (.cells #[.int .i64 0,.string ⟨#[]⟩,.string ⟨#[]⟩,.int .i64 0,.slice none 0 0] 25)) (· = R))
 have H0:=ħ h
 have BO:=ħ (Only.of_below (p:=(· = R)) B0.o)
 have SZ:Hid ((w.alloc (.cells #[.int .i64 0,.string ⟨#[]⟩,.string ⟨#[]⟩,.int .i64 0,.slice none 0 0] 25)).heap.size=w.heap.size+1):=ħ (by simp)
 have RL:=ħ h.lt
 have HTS:=ħ hts
 have HGO:=ħ hgo
 have HEL:Hid (∀ (k:Nat) (w:World),i≤k→k≤ts.length→Tab w B→ParW w R ao cap ts sz k→Calls Tryz.prog 74 #[.pointer (some ⟨R,0,none⟩)] w fun e w'=>Zht w R ao cap ts sz (Zfc ts unit k) e w') :=
  ħ (fun k w h1 h2 hT hp=>Zpu w R ao cap ts sz k B unit hT hR hp h2 hn hts hgo (fun k' w h3 h4=>hel k' w (Nat.le_trans h1 h3) h4))
 clear h hT hts hgo hel
 go_enter Tryz.func244,Tryz.ntmps244
 go_wp2_with fail
 generalize w.alloc (.cells #[.int .i64 0,.string ⟨#[]⟩,.string ⟨#[]⟩,.int .i64 0,.slice none 0 0] 25)=w0 at *
 cases h1:isP ts [108,101,97,115,116] (i) with
 | false =>
  refine (Zfv w0 R ao cap ts sz (i) [108,101,97,115,116] P0.o hi hn HTS.o (by decide) h1).mono ?_
  rw[Zeo h1] at HV
  clear h1
  rintro e w1 ⟨rfl,o1⟩
  have Q1:=ħ (Q0.o.trans o1)
  clear o1 Q0
  unfold Za0
  go_wp2
  exact⟨rfl,Zas (by rw[HV.o];try rfl) (BO.o.trans Q1.o) rfl⟩
 | true =>
  have l1:=Zbv h1
  rw[Zdq h1] at HV
  simp only[Except.bind] at HV
  refine (Zfu w0 R ao cap ts sz (i) [108,101,97,115,116] P0.o hn HTS.o (by decide) h1).mono ?_
  clear h1
  rintro e w1 ⟨rfl,p1,o1⟩
  have P1:=ħ p1
  have T1:=ħ (T0.o.onlyR o1 hR)
  have Q1:=ħ (Q0.o.trans o1)
  clear p1 o1 P0 T0 Q0
  go_wp2_with fail
  cases h2:Zcx ts (i+1) with
  | false =>
   refine (Zed w1 R ao cap ts sz (i+1) P1.o l1 hn HTS.o h2).mono ?_
   rw[Zhd h2] at HV
   clear h2
   rintro e w2 ⟨rfl,o2⟩
   have Q2:=ħ (Q1.o.trans o2)
   clear o2 Q1
   unfold Za0
   go_wp2
   exact⟨rfl,Zas (by rw[HV.o];try rfl) (BO.o.trans Q2.o) rfl⟩
  | true =>
   have l2:=Zex h2
   rw[Zfm h2] at HV
   simp only[Except.bind] at HV
   have hv2:=Zdw HTS.o (i+1)
   refine (Zdp w1 R ao cap ts sz (i+1) P1.o hn HTS.o h2).mono ?_
   clear h2
   generalize Zhu ts (i+1)=N at *
   rintro e w2 ⟨rfl,p2,o2⟩
   have P2:=ħ p2
   have T2:=ħ (T1.o.onlyR o2 hR)
   have Q2:=ħ (Q1.o.trans o2)
   clear p2 o2 P1 T1 Q1
   go_wp2_with fail
   have S3:Hid (Zah (w2.alloc (.cells #[.int .i64 3,.string ⟨#[]⟩,.string ⟨#[]⟩,.int .i64 (N:Int),.slice none 0 0] 25)) w2.heap.size 25 (Zds 3 (N:Int) none 0 0)):=ħ (heap_alloc_new w2 _)
   have b3:=(Below.refl w2.heap.size w2).alloc (Nat.le_refl _) (.cells #[.int .i64 3,.string ⟨#[]⟩,.string ⟨#[]⟩,.int .i64 (N:Int),.slice none 0 0] 25)
   have P3:=ħ (P2.o.step b3)
   have T3:=ħ (T2.o.step b3)
   have Q3:=ħ (Q2.o.step b3)
   have HA:Hid (w.heap.size<w2.heap.size):=ħ (by have:=Q2.o.size;have:=SZ.o;omega)
   have RA:Hid (R<w2.heap.size):=ħ (by have:=HA.o;have:=RL.o;omega)
   clear b3 P2 T2 Q2
   generalize w2.alloc (.cells #[.int .i64 3,.string ⟨#[]⟩,.string ⟨#[]⟩,.int .i64 (N:Int),.slice none 0 0] 25)=w3 at *
   generalize w2.heap.size=A at *
   clear w2
   cases h4:isP ts [111,102] (i+1+1) with
   | false =>
    refine (Zfv w3 R ao cap ts sz (i+1+1) [111,102] P3.o l2 hn HTS.o (by decide) h4).mono ?_
    rw[Zeo h4] at HV
    clear h4
    rintro e w4 ⟨rfl,o4⟩
    have Q4:=ħ (Q3.o.trans o4)
    clear o4 Q3
    unfold Za0
    go_wp2
    exact⟨rfl,Zas (by rw[HV.o];try rfl) (BO.o.trans Q4.o) rfl⟩
   | true =>
    have l4:=Zbv h4
    rw[Zdq h4] at HV
    simp only[Except.bind] at HV
    refine (Zfu w3 R ao cap ts sz (i+1+1) [111,102] P3.o hn HTS.o (by decide) h4).mono ?_
    clear h4
    rintro e w4 ⟨rfl,p4,o4⟩
    have S4:=ħ (S3.o.only o4 (by have:=RA.o;omega))
    have P4:=ħ p4
    have T4:=ħ (T3.o.onlyR o4 hR)
    have Q4:=ħ (Q3.o.trans o4)
    clear p4 o4 P3 T3 Q3
    go_wp2_with fail
    cases h5:isP ts [40] (i+1+1+1) with
    | false =>
     refine (Zfv w4 R ao cap ts sz (i+1+1+1) [40] P4.o l4 hn HTS.o (by decide) h5).mono ?_
     rw[Zeo h5] at HV
     clear h5
     rintro e w5 ⟨rfl,o5⟩
     have Q5:=ħ (Q4.o.trans o5)
     clear o5 Q4
     unfold Za0
     go_wp2
     exact⟨rfl,Zas (by rw[HV.o];try rfl) (BO.o.trans Q5.o) rfl⟩
    | true =>
     have l5:=Zbv h5
     rw[Zdq h5] at HV
     simp only[Except.bind] at HV
     refine (Zfu w4 R ao cap ts sz (i+1+1+1) [40] P4.o hn HTS.o (by decide) h5).mono ?_
     clear h5
     rintro e w5 ⟨rfl,p5,o5⟩
     have S5:=ħ (S4.o.only o5 (by have:=RA.o;omega))
     have P5:=ħ p5
     have T5:=ħ (T4.o.onlyR o5 hR)
     have Q5:=ħ (Q4.o.trans o5)
     clear p5 o5 P4 T4 Q4
     have Z5:=ħ (Z0.o.only Q5.o (by have:=RL.o;omega))
     have HVN:=ħ (show V=(Zdd ts [44] (Zfc ts unit) (ts.length+1) (i+1+1+1+1) []).bind (fun r=>(Zbi ts sz [41] r.2).bind (fun j=>if 1≤N∧N≤r.1.length then (.ok (.mk 3 [] [] (N:Int) r.1,j):PR Prd) else .error (3,Zdu ts sz u))) from HV.o)
     have OB:=ħ (BO.o.trans Q5.o)
     clear HV Q5 BO
     go_wp2_with fail
     go_loopw [6] (fun c wr=>∃ (b:Bool) (j f k cp:Nat) (ao2:Option Addr) (ps:List Prd) (vss:List (List Value)),c = .bool b∧i≤j∧j≤ts.length∧k≤j ∧
       Hid (Zah wr A 25 (Zds 3 (N:Int) ao2 k cp))∧Hid (Zah wr w.heap.size 25 Zb0) ∧
       Hid (KidsM w wr (A+1) (fun g=>g=w.heap.size∨g=A) ao2 k cp ps vss)∧Hid (ParW wr R ao cap ts sz j)∧Hid (Only w wr (· = R))∧Hid (Tab wr B) ∧
       Hid (b=true→V=(Zdd ts [44] (Zfc ts unit) f j ps).bind (fun r=>(Zbi ts sz [41] r.2).bind (fun j=>if 1≤N∧N≤r.1.length then (.ok (.mk 3 [] [] (N:Int) r.1,j):PR Prd) else .error (3,Zdu ts sz u)))∧ts.length-j<f) ∧
       Hid (b=false→V=(Zbi ts sz [41] j).bind (fun j=>if 1≤N∧N≤ps.length then (.ok (.mk 3 [] [] (N:Int) ps,j):PR Prd) else .error (3,Zdu ts sz u)))) (fun _ wr=>ts.length+1-Z7t wr R)
     case atStart=>exact⟨true,i+1+1+1+1,ts.length+1,0,0,none,[],[],rfl,by omega,l5,by omega,S5,Z5,ħ (KidsM.nil _ _ _ _),P5,OB,T5,ħ (fun _=>⟨HVN.o,by omega⟩),ħ (fun e=>by cases e)⟩
     case round =>
      clear S5 Z5 OB HVN P5 T5
      obtain⟨b,j,f,k,cp,ao2,ps,vss,rfl,hij,hj,hkj,hs,hz,hk,hp,ho,ht,hv1,hv0⟩:=hrel
      cases b with
      | false =>
       have HF:=ħ (hv0.o rfl)
       clear hv1 hv0
       go_wp2_with fail
       cases h9:isP ts [41] j with
       | false =>
        refine (Zfv wr R ao cap ts sz j [41] hp.o hj hn HTS.o (by decide) h9).mono ?_
        rw[Zeo h9] at HF
        clear h9
        rintro e w6 ⟨rfl,o6⟩
        have O6:=ħ (ho.o.trans o6)
        clear o6
        unfold Za0
        go_wp2
        exact⟨rfl,Zas (by rw[HF.o];try rfl) O6.o rfl⟩
       | true =>
        have l9:=Zbv h9
        rw[Zdq h9] at HF
        simp only[Except.bind] at HF
        refine (Zfu wr R ao cap ts sz j [41] hp.o hn HTS.o (by decide) h9).mono ?_
        clear h9
        rintro e w6 ⟨rfl,p6,o6⟩
        have P6:=ħ p6
        have O6:=ħ (ho.o.trans o6)
        have S6:=ħ (hs.o.only o6 (by have:=RA.o;omega))
        have Z6:=ħ (hz.o.only o6 (by have:=RL.o;omega))
        have K6:=ħ (hk.o.only o6 RL.o (by have:=HA.o;omega))
        have hcnt:=hk.o.cnt
        clear p6 o6 hp ho hs hz hk ht
        have c3:=S6.o.cell 3 _ rfl
        have c4:=S6.o.cell 4 _ rfl
        by_cases g1:1≤N
        ·have i1:¬ ((N:Int)<1):=by omega
         by_cases g2:N≤k
         ·have i2:¬ ((k:Int)<N):=by omega
          have HF2:Hid (V = .ok (.mk 3 [] [] (N:Int) ps,j+1)):=ħ (by rw[HF.o,if_pos ⟨g1,by omega⟩])
          clear hcnt HF g1 g2
          go_wp2_with (first
           | (refine wpList_load_row rfl 25 (.tmp 5) rfl A ?x1 25 (Zds 3 (N:Int) ao2 k cp).toArray (0,0) _ S6.o Tryz.underlying25 rfl (Zae _ rfl) ?_;(case x1=>rfl))
           | (refine Zab rfl 25 (.tmp 4) (.tmp 42) rfl w.heap.size (Zds 3 (N:Int) ao2 k cp).toArray ?s1 ?s2 25 _ Z6.o (Zae _ rfl) rfl (Zep _ _ _ _ _) ?_;(case s1=>rfl);(case s2=>rfl);intro w9 s9 u9;have S9:=ħ s9;have U9:=ħ u9;clear s9 u9))
          have K9:=K6.o.upd U9.o (.inl rfl) (fun e=>by have:=(K6.o.own.blk_lt e).1;have:=HA.o;omega)
          exact bodyPost_ret (results_cell_row (p:=4) (by kernel_rfl) _ _ w.heap.size 25 (Zds 3 (N:Int) ao2 k cp).toArray (0,0) _ rfl S9.o Tryz.underlying25 rfl (Zae _ rfl)) rfl (Zba HF2.o (O6.o.updNew U9.o (Nat.le_refl _)) rfl ⟨_,rfl,K9.predV (by have:=HA.o;omega) 3 (N:Int)⟩ (H0.o.upd P6.o U9.o (Nat.le_refl _)))
         ·have i2:(k:Int)<N:=by omega
          have HF2:Hid (V = .error (3,Zdu ts sz u)):=ħ (by rw[HF.o,if_neg (fun h=>g2 (by omega))])
          clear hcnt HF g1 g2
          go_wp2_with fail
          refine (Zcj w6 R ao cap ts sz u (j+1) 3 P6.o hu hn).mono ?_
          rintro e w7 ⟨rfl,b7⟩
          have O7:=ħ (O6.o.step b7)
          clear b7
          unfold Za0
          go_wp2
          exact⟨rfl,Zas HF2.o O7.o rfl⟩
        ·have i1:(N:Int)<1:=by omega
         have HF2:Hid (V = .error (3,Zdu ts sz u)):=ħ (by rw[HF.o,if_neg (fun h=>g1 h.1)])
         clear hcnt HF g1
         go_wp2_with fail
         refine (Zcj w6 R ao cap ts sz u (j+1) 3 P6.o hu hn).mono ?_
         rintro e w7 ⟨rfl,b7⟩
         have O7:=ħ (O6.o.step b7)
         clear b7
         unfold Za0
         go_wp2
         exact⟨rfl,Zas HF2.o O7.o rfl⟩
      | true =>
       have HF:=ħ (hv1.o rfl)
       clear hv1 hv0
       have c4:=hs.o.cell 4 _ rfl
       go_upto_region 8 with (fail)
       refine Zaw [0,1,2] [3,4,5,6,7] (fun w'=>w'.cell? ⟨A,4,none⟩=some (.slice ao2 k cp)) (by kernel_rfl) (by kernel_rfl) (by kernel_rfl) (fun _ _ d _ _ h=>by cases d<;>exact h) c4 ?_
       simp only[Zbx,List.filterMap_cons,List.filterMap_nil,List.getElem?_cons_zero,List.getElem?_cons_succ,Option.map_some,List.map_cons,List.map_nil]
       apply Exists.intro
       refine⟨?hh,?ht⟩
       case hh =>
        intro w' hw'
        repeat still_step
        exact wpStill_nil rfl
       case ht =>
        have BD:Below wr.heap.size wr wr.drew:=(Below.refl wr.heap.size wr).drew
        have ZD:Hid (wr.drew.heap.size=wr.heap.size):=ħ rfl
        have hs1:=ħ (hs.o.step BD)
        have hz1:=ħ (hz.o.step BD)
        have hk1:=ħ (hk.o.step BD)
        have hp1:=ħ (hp.o.step BD)
        have ho1:=ħ (ho.o.step BD)
        have HID:=ħ hp.o.idx
        have WS:Hid (A<wr.heap.size):=ħ hs.o.lt
        have T1:=ħ (ht.o.step BD)
        clear BD c4 hs hz hk hp ho ht
        generalize wr.drew=wd at *
        have c4:=hs1.o.cell 4 _ rfl
        refine Zaf ?_
        go_wp2_with fail
        refine (HEL.o j wd hij hj T1.o hp1.o).mono ?_
        rintro e w2 ⟨o2,hr⟩
        have hf0:∃ f',f=f'+1:=⟨f-1,by have:=HF.o.2;omega⟩
        obtain⟨f',rfl⟩:=hf0
        cases hej:Zfc ts unit j with
        | error x =>
         rw[hej] at hr
         have HVX:Hid (V = .error x):=ħ (by rw[HF.o.1,Zdd,hej];rfl)
         have O2:=ħ (ho1.o.trans o2)
         clear o2 hej
         subst hr
         unfold Za0
         go_wp2
         exact⟨rfl,Zas HVX.o O2.o rfl⟩
        | ok r =>
         rw[hej] at hr
         obtain⟨p,j2⟩:=r
         obtain⟨⟨v,rfl,vs,rfl,hpc⟩,hp2⟩:=hr
         have hgo:=(Zid HGO.o) j (p,j2) hej
         have HF2:Hid (V=(if isP ts [44] j2=true then Zdd ts [44] (Zfc ts unit) f' (j2+1) (ps++[p]) else .ok (ps++[p],j2)).bind (fun r=>(Zbi ts sz [41] r.2).bind (fun j=>if 1≤N∧N≤r.1.length then (.ok (.mk 3 [] [] (N:Int) r.1,j):PR Prd) else .error (3,Zdu ts sz u)))):=ħ (by rw[HF.o.1,Zdd,hej];rfl)
         have HFF:Hid (ts.length-j<f'+1):=ħ HF.o.2
         have O2:=ħ (ho1.o.trans o2)
         have RW:Hid (R<w.heap.size):=RL
         have S2:=ħ (hs1.o.only o2 (by have:=RA.o;omega))
         have Z2:=ħ (hz1.o.only o2 (by have:=RW.o;omega))
         have K2:=ħ (hk1.o.only o2 RW.o (by have:=HA.o;omega))
         have P2:=ħ hp2
         have T2:=ħ (T1.o.onlyR o2 hR)
         have L2:Hid (wd.heap.size≤w2.heap.size):=ħ o2.size
         have PC:=ħ hpc
         have WD:Hid (A<wd.heap.size):=ħ hs1.o.lt
         clear HF hej o2 hp2 hpc c4
         go_wp2_with fail
         have c2:=S2.o.cell 4 _ rfl
         refine Zaa ⟨c2,?_⟩
         refine Zaf ?_
         have hl5:vs.length=5:=PC.o.len
         have hfd:=Z5g #[.int .i64 0,.string ⟨#[]⟩,.string ⟨#[]⟩,.int .i64 0,.slice none 0 0] rfl vs hl5
         go_wp2_with fail
         refine Zaa ⟨(((Below.refl w2.heap.size w2).alloc (Nat.le_refl _) (.cells vs.toArray 25)).cell (p:=⟨A,4,none⟩) S2.o.lt).trans c2,?_⟩
         clear c2
         refine Zaf ?_
         go_wp2_with (at_builtin;refine Zfa 23 25 Znm 5 72 Tryz.underlying23 Zdo rfl (by omega) (by omega) w2 (A+1) rfl (.tmp 20) (.tmp 23) rfl ao2 cp k vss.flatten ?q1 K2.o.own S2.o.lt 1 1 vs.toArray 25 ?q2 ?q6 (by omega) PC.o.ones ?q4 ?_;(case q1=>rfl);(case q2=>rfl);(case q6=>rw[List.size_toArray,hl5]);(case q4=>omega);intro g5 off5 c5 wa o8 gr8 b8 or8;have O8:=ħ o8;have GR8:=ħ gr8;have B8:=ħ b8;have OR8:=ħ or8;clear o8 gr8 b8 or8)
         have KA:=ħ (KidsM.add hk1.o K2.o (by have:=WD.o;have:=HA.o;omega) (fun g hg=>by have:=WD.o;have:=HA.o;rcases hg with h | h<;>omega) PC.o O8.o GR8.o OR8.o)
         have SA:=ħ (S2.o.below B8.o (Nat.lt_succ_self A))
         have ZA:=ħ (Z2.o.below B8.o (by have:=HA.o;omega))
         have BB8:=ħ (B8.o.mono (B':=w.heap.size) (by have:=HA.o;omega))
         have PA:=ħ (H0.o.below P2.o BB8.o)
         have OA:=ħ (O2.o.belowB BB8.o)
         have TA:=ħ (T2.o.below B8.o (by have:=RA.o;omega))
         clear K2 S2 Z2 P2 O2 T2 GR8 OR8 B8 BB8 hs1 hz1 hk1 hp1 ho1 T1 PC
         refine Zaa ⟨SA.o.cell 4 _ rfl,?_⟩
         refine Zaf ?_
         go_wp2_with fail
         refine Zaa ⟨SA.o.cell 4 _ rfl,?_⟩
         refine Zaz ?_
         have m4:=SA.o.cell 4 _ rfl
         have f4:=SA.o.warm 4
         go_wp2_with fail
         clear m4 f4
         have U5:=ħ (Zaj wa ⟨A,4,none⟩ (.slice (some ⟨g5,off5,none⟩) (k+1) c5))
         have S5:Hid (Zah (wa.setCell ⟨A,4,none⟩ (.slice (some ⟨g5,off5,none⟩) (k+1) c5)) A 25 (Zds 3 (N:Int) (some ⟨g5,off5,none⟩) (k+1) c5)):=ħ (SA.o.set 4 _)
         have Z5:=ħ (ZA.o.upd U5.o (by show w.heap.size≠A;have:=HA.o;omega))
         have K5:=ħ (KA.o.upd U5.o (.inr rfl) (fun e=>by have:=(KA.o.own.blk_lt e).1;have:A+1≤A:=this;omega))
         have P5:=ħ (H0.o.upd PA.o U5.o (by show w.heap.size≤A;have:=HA.o;omega))
         have O5:=ħ (OA.o.updNew U5.o (by show w.heap.size≤A;have:=HA.o;omega))
         have T5:=ħ (TA.o.below (Below.upd (B:=A) U5.o (Nat.le_refl _)) (by have:=RA.o;omega))
         clear SA ZA KA PA OA TA U5 O8
         generalize wa.setCell ⟨A,4,none⟩ (.slice (some ⟨g5,off5,none⟩) (k+1) c5)=w5 at *
         cases hw:isP ts [44] j2 with
         | false =>
          refine (Zcd w5 R ao cap ts sz j2 [44] P5.o hgo.2 hn HTS.o (by decide) hw).mono ?_
          have HX:Hid (V=(Zbi ts sz [41] j2).bind (fun j=>if 1≤N∧N≤(ps++[p]).length then (.ok (.mk 3 [] [] (N:Int) (ps++[p]),j):PR Prd) else .error (3,Zdu ts sz u))):=ħ (by rw[HF2.o,if_neg (by rw[hw];simp)];rfl)
          rintro e w6 ⟨rfl,b6⟩
          have S6:=ħ (S5.o.step b6)
          have Z6:=ħ (Z5.o.step b6)
          have K6:=ħ (K5.o.step b6)
          have P6:=ħ (P5.o.step b6)
          have O6:=ħ (O5.o.step b6)
          have T6:=ħ (T5.o.step b6)
          clear b6 S5 Z5 K5 P5 O5 T5 hw HF2
          go_wp2
          go_roundw
          case rel=>exact⟨false,j2,0,k+1,c5,some ⟨g5,off5,none⟩,ps++[p],vss++[vs],rfl,by omega,by omega,by omega,S6,Z6,K6,P6,O6,T6,ħ (fun e=>by cases e),ħ (fun _=>HX.o)⟩
          case measure=>rw[P6.o.idx,HID.o];omega
         | true =>
          have hlt:=Zbv hw
          refine (Zbt w5 R ao cap ts sz j2 [44] P5.o hn HTS.o (by decide) hw).mono ?_
          have HX:Hid (V=(Zdd ts [44] (Zfc ts unit) f' (j2+1) (ps++[p])).bind (fun r=>(Zbi ts sz [41] r.2).bind (fun j=>if 1≤N∧N≤r.1.length then (.ok (.mk 3 [] [] (N:Int) r.1,j):PR Prd) else .error (3,Zdu ts sz u)))):=ħ (by rw[HF2.o,if_pos hw])
          rintro e w6 ⟨rfl,p6,o6⟩
          have S6:=ħ (S5.o.only o6 (by have:=RA.o;omega))
          have Z6:=ħ (Z5.o.only o6 (by have:=RW.o;omega))
          have K6:=ħ (K5.o.only o6 RW.o (by have:=HA.o;omega))
          have P6:=ħ p6
          have O6:=ħ (O5.o.trans o6)
          have T6:=ħ (T5.o.onlyR o6 hR)
          clear p6 o6 S5 Z5 K5 P5 O5 T5 hw HF2
          go_wp2
          go_roundw
          case rel=>exact⟨true,j2+1,f',k+1,c5,some ⟨g5,off5,none⟩,ps++[p],vss++[vs],rfl,by omega,by omega,by omega,S6,Z6,K6,P6,O6,T6,ħ (fun _=>⟨HX.o,by have:=HFF.o;omega⟩),ħ (fun e=>by cases e)⟩
          case measure=>rw[P6.o.idx,HID.o];omega
end
section
open Go.RowKit
def MkR (w:World) (p:Prd) (e:Ending) (w':World):Prop:=(∃ v,e = .returned v∧Zpt w.heap.size w' p v)∧Below w.heap.size w w'
theorem Z7l (a b:Zfx) (w:World) (ha:SumOk a) (hb:SumOk b) :
  Calls Tryz.prog 339 #[.agg (Zc2 a).toArray,.agg (Zc2 b).toArray] w fun e w'=>MkR w (Zde 0 a b) e w':=by
 obtain⟨a1,a2⟩:=a
 obtain⟨b1,b2⟩:=b
 have HM:=ħ (fun w=>Zfo ⟨a1,a2⟩ ⟨b1,b2⟩ 0 w ha hb (by omega) (by omega))
 clear ha hb
 have HE:Hid (Zde 0 ⟨a1,a2⟩ ⟨b1,b2⟩ = .mk 0 a1 b1 (b2-a2-0) []):=ħ rfl
 rw[HE.o]
 clear HE
 unfold Zc2 at *
 generalize hD:b2-a2-0=D at *
 have HD:=ħ hD
 clear hD
 have HM2:Hid (∀ w:World,Calls Tryz.prog 291 #[.agg #[.string (Zad a1),.int .i64 a2],.agg #[.string (Zad b1),.int .i64 b2],.int .i64 0] w fun e w'=>e = .returned (.agg (Zb8 a1 b1 D).toArray)∧Below w.heap.size w w'):=ħ (fun w=>by have:=HM.o w;simp only[HD.o] at this;exact this)
 clear HM HD
 generalize Zad a1=x at *
 generalize Zad b1=y at *
 have X1:Hid (Zah (((w.alloc (.cells #[.string x,.int .i64 a2] 258)).alloc (.cells #[.string y,.int .i64 b2] 258)).alloc (.cells #[.int .i64 0,.string ⟨#[]⟩,.string ⟨#[]⟩,.int .i64 0,.slice none 0 0] 25)) w.heap.size 258 [.string x,.int .i64 a2]):=ħ (Zbg _ _ _ _)
 have Y1:Hid (Zah (((w.alloc (.cells #[.string x,.int .i64 a2] 258)).alloc (.cells #[.string y,.int .i64 b2] 258)).alloc (.cells #[.int .i64 0,.string ⟨#[]⟩,.string ⟨#[]⟩,.int .i64 0,.slice none 0 0] 25)) (w.heap.size+1) 258 [.string y,.int .i64 b2]):=ħ (Zbf _ _ _ _)
 have Z1:Hid (Zah (((w.alloc (.cells #[.string x,.int .i64 a2] 258)).alloc (.cells #[.string y,.int .i64 b2] 258)).alloc (.cells #[.int .i64 0,.string ⟨#[]⟩,.string ⟨#[]⟩,.int .i64 0,.slice none 0 0] 25)) (w.heap.size+1+1) 25 Zb0):=ħ (Za6 _ _ _ _)
 have D1:=ħ ((((Below.refl w.heap.size w).alloc (Nat.le_refl _) (.cells #[.string x,.int .i64 a2] 258)).alloc (by simp) (.cells #[.string y,.int .i64 b2] 258)).alloc (by simp;omega) (.cells #[.int .i64 0,.string ⟨#[]⟩,.string ⟨#[]⟩,.int .i64 0,.slice none 0 0] 25))
 go_enter Tryz.func339,Tryz.ntmps339
 go_wp2_with fail
 generalize ((w.alloc (.cells #[.string x,.int .i64 a2] 258)).alloc (.cells #[.string y,.int .i64 b2] 258)).alloc (.cells #[.int .i64 0,.string ⟨#[]⟩,.string ⟨#[]⟩,.int .i64 0,.slice none 0 0] 25)=w1 at *
 refine (HM2.o _).mono ?_
 rintro e w2 ⟨rfl,b2'⟩
 have Z2:=ħ (Z1.o.step b2')
 have D2:=ħ (D1.o.trans (b2'.mono D1.o.size))
 clear b2' Z1 D1 X1 Y1
 go_wp2_with (refine Zab rfl 25 (.tmp 4) (.tmp 7) rfl (w.heap.size+1+1) (Zb8 a1 b1 D).toArray ?s1 ?s2 25 _ Z2.o (Zae _ rfl) rfl (by simp[Zb8,Value.oneCell']) ?_;(case s1=>rfl);(case s2=>rfl);intro w9 s9 u9;have S9:=ħ s9;have U9:=ħ u9;clear s9 u9)
 exact bodyPost_ret (results_cell_row (p:=4) (by kernel_rfl) _ _ (w.heap.size+1+1) 25 (Zb8 a1 b1 D).toArray (0,0) _ rfl S9.o Tryz.underlying25 rfl (Zae _ rfl)) rfl ⟨⟨_,rfl,_,rfl,Zcv _ _ _ _ _⟩,U9.o.below D2.o (by omega)⟩
theorem Z7m (a b:Zfx) (w:World) (ha:SumOk a) (hb:SumOk b) :
  Calls Tryz.prog 340 #[.agg (Zc2 a).toArray,.agg (Zc2 b).toArray] w fun e w'=>MkR w (Zde 1 a b) e w':=by
 obtain⟨a1,a2⟩:=a
 obtain⟨b1,b2⟩:=b
 have HM:=ħ (fun w=>Zfo ⟨a1,a2⟩ ⟨b1,b2⟩ 1 w ha hb (by omega) (by omega))
 clear ha hb
 have HE:Hid (Zde 1 ⟨a1,a2⟩ ⟨b1,b2⟩ = .mk 0 a1 b1 (b2-a2-1) []):=ħ rfl
 rw[HE.o]
 clear HE
 unfold Zc2 at *
 generalize hD:b2-a2-1=D at *
 have HD:=ħ hD
 clear hD
 have HM2:Hid (∀ w:World,Calls Tryz.prog 291 #[.agg #[.string (Zad a1),.int .i64 a2],.agg #[.string (Zad b1),.int .i64 b2],.int .i64 1] w fun e w'=>e = .returned (.agg (Zb8 a1 b1 D).toArray)∧Below w.heap.size w w'):=ħ (fun w=>by have:=HM.o w;simp only[HD.o] at this;exact this)
 clear HM HD
 generalize Zad a1=x at *
 generalize Zad b1=y at *
 have X1:Hid (Zah (((w.alloc (.cells #[.string x,.int .i64 a2] 258)).alloc (.cells #[.string y,.int .i64 b2] 258)).alloc (.cells #[.int .i64 0,.string ⟨#[]⟩,.string ⟨#[]⟩,.int .i64 0,.slice none 0 0] 25)) w.heap.size 258 [.string x,.int .i64 a2]):=ħ (Zbg _ _ _ _)
 have Y1:Hid (Zah (((w.alloc (.cells #[.string x,.int .i64 a2] 258)).alloc (.cells #[.string y,.int .i64 b2] 258)).alloc (.cells #[.int .i64 0,.string ⟨#[]⟩,.string ⟨#[]⟩,.int .i64 0,.slice none 0 0] 25)) (w.heap.size+1) 258 [.string y,.int .i64 b2]):=ħ (Zbf _ _ _ _)
 have Z1:Hid (Zah (((w.alloc (.cells #[.string x,.int .i64 a2] 258)).alloc (.cells #[.string y,.int .i64 b2] 258)).alloc (.cells #[.int .i64 0,.string ⟨#[]⟩,.string ⟨#[]⟩,.int .i64 0,.slice none 0 0] 25)) (w.heap.size+1+1) 25 Zb0):=ħ (Za6 _ _ _ _)
 have D1:=ħ ((((Below.refl w.heap.size w).alloc (Nat.le_refl _) (.cells #[.string x,.int .i64 a2] 258)).alloc (by simp) (.cells #[.string y,.int .i64 b2] 258)).alloc (by simp;omega) (.cells #[.int .i64 0,.string ⟨#[]⟩,.string ⟨#[]⟩,.int .i64 0,.slice none 0 0] 25))
 go_enter Tryz.func340,Tryz.ntmps340
 go_wp2_with fail
 generalize ((w.alloc (.cells #[.string x,.int .i64 a2] 258)).alloc (.cells #[.string y,.int .i64 b2] 258)).alloc (.cells #[.int .i64 0,.string ⟨#[]⟩,.string ⟨#[]⟩,.int .i64 0,.slice none 0 0] 25)=w1 at *
 refine (HM2.o _).mono ?_
 rintro e w2 ⟨rfl,b2'⟩
 have Z2:=ħ (Z1.o.step b2')
 have D2:=ħ (D1.o.trans (b2'.mono D1.o.size))
 clear b2' Z1 D1 X1 Y1
 go_wp2_with (refine Zab rfl 25 (.tmp 4) (.tmp 7) rfl (w.heap.size+1+1) (Zb8 a1 b1 D).toArray ?s1 ?s2 25 _ Z2.o (Zae _ rfl) rfl (by simp[Zb8,Value.oneCell']) ?_;(case s1=>rfl);(case s2=>rfl);intro w9 s9 u9;have S9:=ħ s9;have U9:=ħ u9;clear s9 u9)
 exact bodyPost_ret (results_cell_row (p:=4) (by kernel_rfl) _ _ (w.heap.size+1+1) 25 (Zb8 a1 b1 D).toArray (0,0) _ rfl S9.o Tryz.underlying25 rfl (Zae _ rfl)) rfl ⟨⟨_,rfl,_,rfl,Zcv _ _ _ _ _⟩,U9.o.below D2.o (by omega)⟩
theorem Z7n (a b:Zfx) (w:World) (ha:SumOk a) (hb:SumOk b) :
  Calls Tryz.prog 341 #[.agg (Zc2 a).toArray,.agg (Zc2 b).toArray] w fun e w'=>MkR w (Zde 2 a b) e w':=by
 obtain⟨a1,a2⟩:=a
 obtain⟨b1,b2⟩:=b
 have HM:=ħ (fun w=>Zfo ⟨b1,b2⟩ ⟨a1,a2⟩ 0 w hb ha (by omega) (by omega))
 clear ha hb
 have HE:Hid (Zde 2 ⟨a1,a2⟩ ⟨b1,b2⟩ = .mk 0 b1 a1 (a2-b2-0) []):=ħ rfl
 rw[HE.o]
 clear HE
 unfold Zc2 at *
 generalize hD:a2-b2-0=D at *
 have HD:=ħ hD
 clear hD
 have HM2:Hid (∀ w:World,Calls Tryz.prog 291 #[.agg #[.string (Zad b1),.int .i64 b2],.agg #[.string (Zad a1),.int .i64 a2],.int .i64 0] w fun e w'=>e = .returned (.agg (Zb8 b1 a1 D).toArray)∧Below w.heap.size w w'):=ħ (fun w=>by have:=HM.o w;simp only[HD.o] at this;exact this)
 clear HM HD
 generalize Zad a1=x at *
 generalize Zad b1=y at *
 have X1:Hid (Zah (((w.alloc (.cells #[.string x,.int .i64 a2] 258)).alloc (.cells #[.string y,.int .i64 b2] 258)).alloc (.cells #[.int .i64 0,.string ⟨#[]⟩,.string ⟨#[]⟩,.int .i64 0,.slice none 0 0] 25)) w.heap.size 258 [.string x,.int .i64 a2]):=ħ (Zbg _ _ _ _)
 have Y1:Hid (Zah (((w.alloc (.cells #[.string x,.int .i64 a2] 258)).alloc (.cells #[.string y,.int .i64 b2] 258)).alloc (.cells #[.int .i64 0,.string ⟨#[]⟩,.string ⟨#[]⟩,.int .i64 0,.slice none 0 0] 25)) (w.heap.size+1) 258 [.string y,.int .i64 b2]):=ħ (Zbf _ _ _ _)
 have Z1:Hid (Zah (((w.alloc (.cells #[.string x,.int .i64 a2] 258)).alloc (.cells #[.string y,.int .i64 b2] 258)).alloc (.cells #[.int .i64 0,.string ⟨#[]⟩,.string ⟨#[]⟩,.int .i64 0,.slice none 0 0] 25)) (w.heap.size+1+1) 25 Zb0):=ħ (Za6 _ _ _ _)
 have D1:=ħ ((((Below.refl w.heap.size w).alloc (Nat.le_refl _) (.cells #[.string x,.int .i64 a2] 258)).alloc (by simp) (.cells #[.string y,.int .i64 b2] 258)).alloc (by simp;omega) (.cells #[.int .i64 0,.string ⟨#[]⟩,.string ⟨#[]⟩,.int .i64 0,.slice none 0 0] 25))
 go_enter Tryz.func341,Tryz.ntmps341
 go_wp2_with fail
 generalize ((w.alloc (.cells #[.string x,.int .i64 a2] 258)).alloc (.cells #[.string y,.int .i64 b2] 258)).alloc (.cells #[.int .i64 0,.string ⟨#[]⟩,.string ⟨#[]⟩,.int .i64 0,.slice none 0 0] 25)=w1 at *
 refine (HM2.o _).mono ?_
 rintro e w2 ⟨rfl,b2'⟩
 have Z2:=ħ (Z1.o.step b2')
 have D2:=ħ (D1.o.trans (b2'.mono D1.o.size))
 clear b2' Z1 D1 X1 Y1
 go_wp2_with (refine Zab rfl 25 (.tmp 4) (.tmp 7) rfl (w.heap.size+1+1) (Zb8 b1 a1 D).toArray ?s1 ?s2 25 _ Z2.o (Zae _ rfl) rfl (by simp[Zb8,Value.oneCell']) ?_;(case s1=>rfl);(case s2=>rfl);intro w9 s9 u9;have S9:=ħ s9;have U9:=ħ u9;clear s9 u9)
 exact bodyPost_ret (results_cell_row (p:=4) (by kernel_rfl) _ _ (w.heap.size+1+1) 25 (Zb8 b1 a1 D).toArray (0,0) _ rfl S9.o Tryz.underlying25 rfl (Zae _ rfl)) rfl ⟨⟨_,rfl,_,rfl,Zcv _ _ _ _ _⟩,U9.o.below D2.o (by omega)⟩
theorem Z7o (a b:Zfx) (w:World) (ha:SumOk a) (hb:SumOk b) :
  Calls Tryz.prog 342 #[.agg (Zc2 a).toArray,.agg (Zc2 b).toArray] w fun e w'=>MkR w (Zde 3 a b) e w':=by
 obtain⟨a1,a2⟩:=a
 obtain⟨b1,b2⟩:=b
 have HM:=ħ (fun w=>Zfo ⟨b1,b2⟩ ⟨a1,a2⟩ 1 w hb ha (by omega) (by omega))
 clear ha hb
 have HE:Hid (Zde 3 ⟨a1,a2⟩ ⟨b1,b2⟩ = .mk 0 b1 a1 (a2-b2-1) []):=ħ rfl
 rw[HE.o]
 clear HE
 unfold Zc2 at *
 generalize hD:a2-b2-1=D at *
 have HD:=ħ hD
 clear hD
 have HM2:Hid (∀ w:World,Calls Tryz.prog 291 #[.agg #[.string (Zad b1),.int .i64 b2],.agg #[.string (Zad a1),.int .i64 a2],.int .i64 1] w fun e w'=>e = .returned (.agg (Zb8 b1 a1 D).toArray)∧Below w.heap.size w w'):=ħ (fun w=>by have:=HM.o w;simp only[HD.o] at this;exact this)
 clear HM HD
 generalize Zad a1=x at *
 generalize Zad b1=y at *
 have X1:Hid (Zah (((w.alloc (.cells #[.string x,.int .i64 a2] 258)).alloc (.cells #[.string y,.int .i64 b2] 258)).alloc (.cells #[.int .i64 0,.string ⟨#[]⟩,.string ⟨#[]⟩,.int .i64 0,.slice none 0 0] 25)) w.heap.size 258 [.string x,.int .i64 a2]):=ħ (Zbg _ _ _ _)
 have Y1:Hid (Zah (((w.alloc (.cells #[.string x,.int .i64 a2] 258)).alloc (.cells #[.string y,.int .i64 b2] 258)).alloc (.cells #[.int .i64 0,.string ⟨#[]⟩,.string ⟨#[]⟩,.int .i64 0,.slice none 0 0] 25)) (w.heap.size+1) 258 [.string y,.int .i64 b2]):=ħ (Zbf _ _ _ _)
 have Z1:Hid (Zah (((w.alloc (.cells #[.string x,.int .i64 a2] 258)).alloc (.cells #[.string y,.int .i64 b2] 258)).alloc (.cells #[.int .i64 0,.string ⟨#[]⟩,.string ⟨#[]⟩,.int .i64 0,.slice none 0 0] 25)) (w.heap.size+1+1) 25 Zb0):=ħ (Za6 _ _ _ _)
 have D1:=ħ ((((Below.refl w.heap.size w).alloc (Nat.le_refl _) (.cells #[.string x,.int .i64 a2] 258)).alloc (by simp) (.cells #[.string y,.int .i64 b2] 258)).alloc (by simp;omega) (.cells #[.int .i64 0,.string ⟨#[]⟩,.string ⟨#[]⟩,.int .i64 0,.slice none 0 0] 25))
 go_enter Tryz.func342,Tryz.ntmps342
 go_wp2_with fail
 generalize ((w.alloc (.cells #[.string x,.int .i64 a2] 258)).alloc (.cells #[.string y,.int .i64 b2] 258)).alloc (.cells #[.int .i64 0,.string ⟨#[]⟩,.string ⟨#[]⟩,.int .i64 0,.slice none 0 0] 25)=w1 at *
 refine (HM2.o _).mono ?_
 rintro e w2 ⟨rfl,b2'⟩
 have Z2:=ħ (Z1.o.step b2')
 have D2:=ħ (D1.o.trans (b2'.mono D1.o.size))
 clear b2' Z1 D1 X1 Y1
 go_wp2_with (refine Zab rfl 25 (.tmp 4) (.tmp 7) rfl (w.heap.size+1+1) (Zb8 b1 a1 D).toArray ?s1 ?s2 25 _ Z2.o (Zae _ rfl) rfl (by simp[Zb8,Value.oneCell']) ?_;(case s1=>rfl);(case s2=>rfl);intro w9 s9 u9;have S9:=ħ s9;have U9:=ħ u9;clear s9 u9)
 exact bodyPost_ret (results_cell_row (p:=4) (by kernel_rfl) _ _ (w.heap.size+1+1) 25 (Zb8 b1 a1 D).toArray (0,0) _ rfl S9.o Tryz.underlying25 rfl (Zae _ rfl)) rfl ⟨⟨_,rfl,_,rfl,Zcv _ _ _ _ _⟩,U9.o.below D2.o (by omega)⟩
theorem Z12 (a b:Zfx) (κ less:Int) (kp lp:Nat) (w:World) (ha:SumOk a) (hb:SumOk b) (h0:0≤less) (h1:less≤1) (hk:w.cell? ⟨kp,0,none⟩=some (.int .i64 κ)) (hl:w.cell? ⟨lp,0,none⟩=some (.int .i64 less)) (hkl:kp<w.heap.size) (hll:lp<w.heap.size) :
  Calls Tryz.prog 338 #[.agg (Zc2 a).toArray,.agg (Zc2 b).toArray,.pointer (some ⟨kp,0,none⟩),.pointer (some ⟨lp,0,none⟩)] w fun e w'=>MkR w (.mk κ [] [] 0 [Zbb a b less,Zbb b a less]) e w':=by
 obtain⟨a1,a2⟩:=a
 obtain⟨b1,b2⟩:=b
 have HM1:=ħ (fun w=>Zfo ⟨a1,a2⟩ ⟨b1,b2⟩ less w ha hb h0 h1)
 have HM2:=ħ (fun w=>Zfo ⟨b1,b2⟩ ⟨a1,a2⟩ less w hb ha h0 h1)
 have HE:Hid (Prd.mk κ [] [] 0 [Zbb ⟨a1,a2⟩ ⟨b1,b2⟩ less,Zbb ⟨b1,b2⟩ ⟨a1,a2⟩ less] = .mk κ [] [] 0 [.mk 0 a1 b1 (b2-a2-less) [],.mk 0 b1 a1 (a2-b2-less) []]):=ħ rfl
 rw[HE.o]
 clear HE ha hb h0 h1
 unfold Zc2 at *
 simp only at HM1 HM2
 generalize b2-a2-less=D1 at *
 generalize a2-b2-less=D2 at *
 have HAT:Hid (∀ (w:World) (P:Nat→Prop) (g:Nat),P g→g<w.heap.size→Za3 w g 0 (Zb8 a1 b1 D1++Zb8 b1 a1 D2)→Za1 w P [.mk 0 a1 b1 D1 [],.mk 0 b1 a1 D2 []] g 0):=ħ (fun w P g _ _ hr=>Za1.of _ [Zb8 a1 b1 D1,Zb8 b1 a1 D2] g 0 rfl (fun i p vs hp hv=>by
  match i,hp,hv with
  | 0,hp,hv=>cases hp;cases hv;exact Zcv _ _ _ _ _
  | 1,hp,hv=>cases hp;cases hv;exact Zcv _ _ _ _ _
  | i+2,hp,hv=>simp at hp) (by simpa using hr))
 unfold Zb8 at HM1 HM2 HAT
 generalize Zad a1=x at *
 generalize Zad b1=y at *
 have X1:Hid (Zah (((w.alloc (.cells #[.string x,.int .i64 a2] 258)).alloc (.cells #[.string y,.int .i64 b2] 258)).alloc (.cells #[.int .i64 0,.string ⟨#[]⟩,.string ⟨#[]⟩,.int .i64 0,.slice none 0 0] 25)) w.heap.size 258 [.string x,.int .i64 a2]):=ħ (Zbg _ _ _ _)
 have Y1:Hid (Zah (((w.alloc (.cells #[.string x,.int .i64 a2] 258)).alloc (.cells #[.string y,.int .i64 b2] 258)).alloc (.cells #[.int .i64 0,.string ⟨#[]⟩,.string ⟨#[]⟩,.int .i64 0,.slice none 0 0] 25)) (w.heap.size+1) 258 [.string y,.int .i64 b2]):=ħ (Zbf _ _ _ _)
 have Z1:Hid (Zah (((w.alloc (.cells #[.string x,.int .i64 a2] 258)).alloc (.cells #[.string y,.int .i64 b2] 258)).alloc (.cells #[.int .i64 0,.string ⟨#[]⟩,.string ⟨#[]⟩,.int .i64 0,.slice none 0 0] 25)) (w.heap.size+1+1) 25 Zb0):=ħ (Za6 _ _ _ _)
 have DD:=ħ ((((Below.refl w.heap.size w).alloc (Nat.le_refl _) (.cells #[.string x,.int .i64 a2] 258)).alloc (by simp) (.cells #[.string y,.int .i64 b2] 258)).alloc (by simp;omega) (.cells #[.int .i64 0,.string ⟨#[]⟩,.string ⟨#[]⟩,.int .i64 0,.slice none 0 0] 25))
 have k1:=(DD.o.cell (p:=⟨kp,0,none⟩) hkl).trans hk
 have l1:=(DD.o.cell (p:=⟨lp,0,none⟩) hll).trans hl
 have KL:Hid (kp<w.heap.size∧lp<w.heap.size):=ħ ⟨hkl,hll⟩
 clear hk hl hkl hll
 go_enter Tryz.func338,Tryz.ntmps338
 go_upto_region 1 with (fail)
 generalize ((w.alloc (.cells #[.string x,.int .i64 a2] 258)).alloc (.cells #[.string y,.int .i64 b2] 258)).alloc (.cells #[.int .i64 0,.string ⟨#[]⟩,.string ⟨#[]⟩,.int .i64 0,.slice none 0 0] 25)=w1 at *
 have x0:=X1.o.cell 0 _ rfl
 have x1:=X1.o.cell 1 _ rfl
 have y0:=Y1.o.cell 0 _ rfl
 have y1:=Y1.o.cell 1 _ rfl
 refine Zaw [0,1,2,3,5,6,7] [4,8,9,10,11] (fun w'=>w'.cell? ⟨kp,0,none⟩=some (.int .i64 κ)∧w'.cell? ⟨lp,0,none⟩=some (.int .i64 less)∧w'.cell? ⟨w.heap.size,0,none⟩=some (.string x)∧w'.cell? ⟨w.heap.size,1,none⟩=some (.int .i64 a2)∧w'.cell? ⟨w.heap.size+1,0,none⟩=some (.string y)∧w'.cell? ⟨w.heap.size+1,1,none⟩=some (.int .i64 b2)) (by kernel_rfl) (by kernel_rfl) (by kernel_rfl) (fun _ _ d _ _ h=>by cases d<;>exact h) ⟨k1,l1,x0,x1,y0,y1⟩ ?_
 simp only[Zbx,List.filterMap_cons,List.filterMap_nil,List.getElem?_cons_zero,List.getElem?_cons_succ,Option.map_some,List.map_cons,List.map_nil]
 apply Exists.intro
 refine⟨?hh,?ht⟩
 case hh =>
  intro w' hw'
  obtain⟨c1,c2,c3,c4,c5,c6⟩:=hw'
  repeat still_step
  exact wpStill_nil rfl
 case ht =>
  have BD:Below w1.heap.size w1 w1.drew:=(Below.refl w1.heap.size w1).drew
  have X3:=ħ (X1.o.step BD)
  have Y3:=ħ (Y1.o.step BD)
  have Z3:=ħ (Z1.o.step BD)
  have DD3:=ħ (DD.o.trans (BD.mono DD.o.size))
  have SS:Hid (∀ w':World,Below w1.drew.heap.size w1.drew w'→w'.cell? ⟨kp,0,none⟩=some (.int .i64 κ)∧w'.cell? ⟨lp,0,none⟩=some (.int .i64 less)∧w'.cell? ⟨w.heap.size,0,none⟩=some (.string x)∧w'.cell? ⟨w.heap.size,1,none⟩=some (.int .i64 a2)∧w'.cell? ⟨w.heap.size+1,0,none⟩=some (.string y)∧w'.cell? ⟨w.heap.size+1,1,none⟩=some (.int .i64 b2)):=ħ (fun w' hb =>
   ⟨(hb.cell (p:=⟨kp,0,none⟩) (by have:=KL.o;have:=DD3.o.size;show kp<_;omega)).trans k1,(hb.cell (p:=⟨lp,0,none⟩) (by have:=KL.o;have:=DD3.o.size;show lp<_;omega)).trans l1,(X3.o.step hb).cell 0 _ rfl,(X3.o.step hb).cell 1 _ rfl,(Y3.o.step hb).cell 0 _ rfl,(Y3.o.step hb).cell 1 _ rfl⟩)
  clear BD X1 Y1 Z1 DD
  generalize w1.drew=wd at *
  refine Zaf ?_
  go_wp2_with fail
  refine (HM1.o wd).mono ?_
  rintro e w2 ⟨rfl,b2'⟩
  have B2:=ħ b2'
  clear b2'
  go_wp2_with fail
  refine Zaa ⟨SS.o w2 B2.o,?_⟩
  refine Zaf ?_
  go_wp2_with fail
  refine (HM2.o w2).mono ?_
  rintro e w3 ⟨rfl,b3'⟩
  have B3:=ħ (B2.o.trans (b3'.mono B2.o.size))
  clear b3' B2
  go_wp2_with fail
  refine Zaa ⟨SS.o w3 B3.o,?_⟩
  refine Zaf ?_
  have B4:=ħ (B3.o.alloc B3.o.size (.cells #[.int .i64 0,.string x,.string y,.int .i64 D1,.slice none 0 0,.int .i64 0,.string y,.string x,.int .i64 D2,.slice none 0 0] 25))
  have N4:Hid ((w3.alloc (.cells #[.int .i64 0,.string x,.string y,.int .i64 D1,.slice none 0 0,.int .i64 0,.string y,.string x,.int .i64 D2,.slice none 0 0] 25)).heap[w3.heap.size]?=some (.cells #[.int .i64 0,.string x,.string y,.int .i64 D1,.slice none 0 0,.int .i64 0,.string y,.string x,.int .i64 D2,.slice none 0 0] 25)):=ħ (heap_alloc_new w3 _)
  have L4:Hid (w3.heap.size<(w3.alloc (.cells #[.int .i64 0,.string x,.string y,.int .i64 D1,.slice none 0 0,.int .i64 0,.string y,.string x,.int .i64 D2,.slice none 0 0] 25)).heap.size):=ħ (by simp)
  go_wp2_with fail
  generalize w3.alloc (.cells #[.int .i64 0,.string x,.string y,.int .i64 D1,.slice none 0 0,.int .i64 0,.string y,.string x,.int .i64 D2,.slice none 0 0] 25)=w4 at *
  refine Zaa ⟨SS.o w4 B4.o,?_⟩
  refine Zaf ?_
  go_wp2_with fail
  refine Zaa ⟨SS.o w4 B4.o,?_⟩
  refine Zaz ?_
  have Z4:=ħ (Z3.o.step B4.o)
  have G4:Hid (w.heap.size+1+1<w3.heap.size):=ħ (by have:=B3.o.size;have:=Z3.o.lt;omega)
  go_wp2_with (refine Zab rfl 25 (.tmp 6) (.tmp 17) rfl (w.heap.size+1+1) (Zds κ 0 (some ⟨w3.heap.size,0,none⟩) 2 2).toArray ?s1 ?s2 25 _ Z4.o (Zae _ rfl) rfl (Zep _ _ _ _ _) ?_;(case s1=>rfl);(case s2=>rfl);intro w9 s9 u9;have S9:=ħ s9;have U9:=ħ u9;clear s9 u9)
  have hblk:w9.heap[w3.heap.size]?=some (.cells #[.int .i64 0,.string x,.string y,.int .i64 D1,.slice none 0 0,.int .i64 0,.string y,.string x,.int .i64 D2,.slice none 0 0] 25):=(U9.o.block _ (by have:=G4.o;omega)).trans N4.o
  have hrd:Za3 w9 w3.heap.size 0 [.int .i64 0,.string x,.string y,.int .i64 D1,.slice none 0 0,.int .i64 0,.string y,.string x,.int .i64 D2,.slice none 0 0]:=fun j u hj=>by
   have:w9.cell? ⟨w3.heap.size,0+j,none⟩=(#[.int .i64 0,.string x,.string y,.int .i64 D1,.slice none 0 0,.int .i64 0,.string y,.string x,.int .i64 D2,.slice none 0 0]:Array Value)[j]?:=by simp[World.cell?,hblk]
   rw[this,← Array.getElem?_toList];exact hj
  have hlt9:w3.heap.size<w9.heap.size:=by rw[U9.o.size];exact L4.o
  exact bodyPost_ret (results_cell_row (p:=6) (by kernel_rfl) _ _ (w.heap.size+1+1) 25 (Zds κ 0 (some ⟨w3.heap.size,0,none⟩) 2 2).toArray (0,0) _ rfl S9.o Tryz.underlying25 rfl (Zae _ rfl)) rfl
   ⟨⟨_,rfl,_,rfl,by
    unfold Zai
    exact⟨_,_,rfl,.inr ⟨w3.heap.size,0,rfl,by have:=G4.o;omega,hlt9,HAT.o w9 _ w3.heap.size (by have:=G4.o;omega) hlt9 hrd⟩⟩⟩,U9.o.below (DD3.o.trans (B4.o.mono DD3.o.size)) (by omega)⟩
end
section
open Go.RowKit
def cfn (k:Nat) (cap:Array Value):Value:=.func (.func k) #[] cap
def Z8l (k:Nat):List Value:=[.string (Zad [60,61]),cfn 339 #[],.string (Zad [60]),cfn 340 #[],.string (Zad [62,61]),cfn 341 #[],.string (Zad [62]),cfn 342 #[],
 .string (Zad [61]),cfn 338 #[.pointer (some ⟨k,0,none⟩),.pointer (some ⟨k+1,0,none⟩)],.string (Zad [33,61]),cfn 338 #[.pointer (some ⟨k+2,0,none⟩),.pointer (some ⟨k+3,0,none⟩)]]
structure SigW (w:World) (g k:Nat):Prop where
 tab:Za3 w g 0 (Z8l k)
 k0:w.cell? ⟨k,0,none⟩=some (.int .i64 1)
 k1:w.cell? ⟨k+1,0,none⟩=some (.int .i64 0)
 k2:w.cell? ⟨k+2,0,none⟩=some (.int .i64 2)
 k3:w.cell? ⟨k+3,0,none⟩=some (.int .i64 1)
 lg:g<w.heap.size
 lk:k+3<w.heap.size
theorem SigW.keep {w w':World} {g k:Nat} (h:SigW w g k) (hb:∀ x,(x=g∨(k≤x∧x≤k+3))→w'.heap[x]?=w.heap[x]?) (hs:w.heap.size≤w'.heap.size):SigW w' g k:=by
 have hc:∀ x v,k≤x→x≤k+3→w.cell? ⟨x,0,none⟩=v→w'.cell? ⟨x,0,none⟩=v:=fun x v h1 h2 h3=>by
  rw[World.cell?_of_block (w:=w) (a:=⟨x,0,none⟩) (hb x (.inr ⟨h1,h2⟩))];exact h3
 exact⟨h.tab.of_block (hb g (.inl rfl)),hc _ _ (by omega) (by omega) h.k0,hc _ _ (by omega) (by omega) h.k1,hc _ _ (by omega) (by omega) h.k2,hc _ _ (by omega) (by omega) h.k3,Nat.lt_of_lt_of_le h.lg hs,Nat.lt_of_lt_of_le h.lk hs⟩
theorem SigW.step {w w':World} {g k:Nat} (h:SigW w g k) (hb:Below w.heap.size w w'):SigW w' g k :=
 h.keep (fun x hx=>hb.block x (by have:=h.lg;have:=h.lk;omega)) hb.size
theorem SigW.only {w w':World} {g k R:Nat} (h:SigW w g k) (hb:Only w w' (· = R)) (hR:R<g) (hk:R<k):SigW w' g k :=
 h.keep (fun x hx=>hb.block x (by have:=h.lg;have:=h.lk;omega) (by rintro rfl;omega)) hb.size
theorem Z13 (κ less:Int) (w:World) :
  Calls Tryz.prog 337 #[.int .i64 κ,.int .i64 less] w fun e w'=>e = .returned (.func (.func 338) #[] #[.pointer (some ⟨w.heap.size,0,none⟩),.pointer (some ⟨w.heap.size+1,0,none⟩)])∧w'=(w.alloc (.cells #[.int .i64 κ] 3)).alloc (.cells #[.int .i64 less] 3):=by
 have hmf:∀ (fn:Fn) (first cap:Array Value) (w:World),(Instr.makeFunc fn first cap).run Tryz.prog w = .ok (.func fn first cap) w:=fun _ _ _ _=>rfl
 go_enter Tryz.func337,Tryz.ntmps337
 go_wp2
 go_ret
 exact⟨rfl,rfl⟩
theorem Z14 (w:World) :
  Calls Tryz.prog 293 #[] w fun e w'=>e = .returned (.slice (some ⟨w.heap.size+4,0,none⟩) 6 6)∧SigW w' (w.heap.size+4) w.heap.size∧Below w.heap.size w w':=by
 have B1:=ħ (((Below.refl w.heap.size w).alloc (Nat.le_refl _) (.cells #[.int .i64 1] 3)).alloc (by simp) (.cells #[.int .i64 0] 3))
 have C0:Hid (((w.alloc (.cells #[.int .i64 1] 3)).alloc (.cells #[.int .i64 0] 3)).heap[w.heap.size]?=some (.cells #[.int .i64 1] 3)):=ħ (Zar w _ _)
 have C1:Hid (((w.alloc (.cells #[.int .i64 1] 3)).alloc (.cells #[.int .i64 0] 3)).heap[w.heap.size+1]?=some (.cells #[.int .i64 0] 3)):=ħ (heap_alloc2_new w _ _)
 have L1:Hid (((w.alloc (.cells #[.int .i64 1] 3)).alloc (.cells #[.int .i64 0] 3)).heap.size=w.heap.size+2):=ħ (by simp)
 go_enter Tryz.func293,Tryz.ntmps293
 go_wp2_with fail
 refine (Z13 1 0 _).mono ?_
 rintro e w1 ⟨rfl,hw1⟩
 rw[← hw1] at B1 C0 C1 L1
 clear hw1
 go_wp2_with fail
 have B2:=ħ (B1.o.trans ((((Below.refl w1.heap.size w1).alloc (Nat.le_refl _) (.cells #[.int .i64 2] 3)).alloc (by simp) (.cells #[.int .i64 1] 3)).mono B1.o.size))
 have D0:Hid (((w1.alloc (.cells #[.int .i64 2] 3)).alloc (.cells #[.int .i64 1] 3)).heap[w.heap.size]?=some (.cells #[.int .i64 1] 3)):=ħ (by rw[Below.heap_alloc _ _ _ (by simp;have:=L1.o;omega),Below.heap_alloc _ _ _ (by have:=L1.o;omega)];exact C0.o)
 have D1:Hid (((w1.alloc (.cells #[.int .i64 2] 3)).alloc (.cells #[.int .i64 1] 3)).heap[w.heap.size+1]?=some (.cells #[.int .i64 0] 3)):=ħ (by rw[Below.heap_alloc _ _ _ (by simp;have:=L1.o;omega),Below.heap_alloc _ _ _ (by have:=L1.o;omega)];exact C1.o)
 have D2:Hid (((w1.alloc (.cells #[.int .i64 2] 3)).alloc (.cells #[.int .i64 1] 3)).heap[w.heap.size+2]?=some (.cells #[.int .i64 2] 3)):=ħ (by rw[← L1.o];exact Zar w1 _ _)
 have D3:Hid (((w1.alloc (.cells #[.int .i64 2] 3)).alloc (.cells #[.int .i64 1] 3)).heap[w.heap.size+3]?=some (.cells #[.int .i64 1] 3)):=ħ (by rw[show w.heap.size+3=w1.heap.size+1 by rw[L1.o]];exact heap_alloc2_new w1 _ _)
 have L2:Hid (((w1.alloc (.cells #[.int .i64 2] 3)).alloc (.cells #[.int .i64 1] 3)).heap.size=w.heap.size+4):=ħ (by simp;have:=L1.o;omega)
 refine (Z13 2 1 _).mono ?_
 rintro e w2 ⟨rfl,hw2⟩
 rw[← hw2] at B2 D0 D1 D2 D3 L2
 rw[show w1.heap.size=w.heap.size+2 from L1.o]
 clear hw2 C0 C1 B1 L1
 go_wp2
 go_ret
 have hA:=(Below.refl w2.heap.size w2).alloc (Nat.le_refl _) (.cells (Z8l w.heap.size).toArray 293)
 have hz:(w2.alloc (.cells (Z8l w.heap.size).toArray 293)).heap.size=w2.heap.size+1:=by simp
 have hl:=L2.o
 have hc:∀ x v,x<w2.heap.size→w2.heap[x]?=some (.cells #[v] 3)→(w2.alloc (.cells (Z8l w.heap.size).toArray 293)).cell? ⟨x,0,none⟩=some v:=fun x v h1 h2=>by
  rw[World.cell?_of_block (w:=w2) (a:=⟨x,0,none⟩) (hA.block x h1)]
  simp[World.cell?,h2]
 refine⟨by rw[hl];rfl,⟨fun j u hj=>?_,hc _ _ (by omega) D0.o,hc _ _ (by omega) D1.o,hc _ _ (by omega) D2.o,hc _ _ (by omega) D3.o,?_,?_⟩,B2.o.trans (hA.mono (by omega))⟩
 ·rw[← hl,Nat.zero_add]
  exact (Zah.new w2 293 (Z8l w.heap.size)).cell j u hj
 ·exact Nat.lt_of_lt_of_le (by omega) (Nat.le_of_eq hz.symm)
 ·exact Nat.lt_of_lt_of_le (by omega) (Nat.le_of_eq hz.symm)
end
end Go.Proofs.YtmkdfbelbcocpaaGreatDoor
