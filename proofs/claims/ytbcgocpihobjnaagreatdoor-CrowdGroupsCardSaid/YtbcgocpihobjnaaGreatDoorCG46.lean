import Derived.Test.YtbcgocpihobjnaaGreatDoorCG45
set_option linter.all false
set_option maxHeartbeats 32000000
set_option maxRecDepth 100000
namespace Go.Proofs.YtbcgocpihobjnaaGreatDoor
open Go.RowKit Go.Sort Go.Maps
theorem Zq2 (t:Array Value) (h:t.size=166):∃ f:Nat→Value,t=#[f 0,f 1,f 2,f 3,f 4,f 5,f 6,f 7,f 8,f 9,f 10,f 11,f 12,f 13,f 14,f 15,f 16,f 17,f 18,f 19,f 20,f 21,f 22,f 23,f 24,f 25,f 26,f 27,f 28,f 29,f 30,f 31,f 32,f 33,f 34,f 35,f 36,f 37,f 38,f 39,f 40,f 41,f 42,f 43,f 44,f 45,f 46,f 47,f 48,f 49,f 50,f 51,f 52,f 53,f 54,f 55,f 56,f 57,f 58,f 59,f 60,f 61,f 62,f 63,f 64,f 65,f 66,f 67,f 68,f 69,f 70,f 71,f 72,f 73,f 74,f 75,f 76,f 77,f 78,f 79,f 80,f 81,f 82,f 83,f 84,f 85,f 86,f 87,f 88,f 89,f 90,f 91,f 92,f 93,f 94,f 95,f 96,f 97,f 98,f 99,f 100,f 101,f 102,f 103,f 104,f 105,f 106,f 107,f 108,f 109,f 110,f 111,f 112,f 113,f 114,f 115,f 116,f 117,f 118,f 119,f 120,f 121,f 122,f 123,f 124,f 125,f 126,f 127,f 128,f 129,f 130,f 131,f 132,f 133,f 134,f 135,f 136,f 137,f 138,f 139,f 140,f 141,f 142,f 143,f 144,f 145,f 146,f 147,f 148,f 149,f 150,f 151,f 152,f 153,f 154,f 155,f 156,f 157,f 158,f 159,f 160,f 161,f 162,f 163,f 164,f 165]:=by
 obtain⟨l⟩:=t;have hl:l.length=166:=h
 have e:l=(List.range 166).map (fun i=>l.getD i undef):=by
  apply List.ext_getElem
  ·simp[hl]
  ·intro i h1 h2
   simp[List.getD,h1]
 exact⟨fun i=>l.getD i undef,congrArg List.toArray e⟩
theorem Zfd (i:Nat) (h:i<25):i=0∨i=1∨i=2∨i=3∨i=4∨i=5∨i=6∨i=7∨i=8∨i=9∨i=10∨i=11∨i=12∨i=13∨i=14∨i=15∨i=16∨i=17∨i=18∨i=19∨i=20∨i=21∨i=22∨i=23∨i=24:=by omega
def grT (gl ol un lc ix rn rc gw ow na oc pk sc:Nat) (ro so:Option Addr) (i:Nat) (W:World) (v:Value):Prop:=match i with
 | 0=>v = .bool true
 | 1=>v = .bool true
 | 2=>v = .slice (some ⟨gl,ol,none⟩) un lc
 | 3=>v = .int .i64 (ix:Nat)
 | 4=>v = .pointer (some ⟨gl,ol+ix,none⟩)
 | 5=>v = .slice ro rn rc
 | 6=>v = .slice (some ⟨gw,ow,none⟩) na oc
 | 7=>v = .int .i64 (pk:Nat)
 | 8=>v = .pointer (some ⟨gw,ow+pk,none⟩)
 | 9=>v = .slice so rn sc
 | 10=>v = .bool true
 | 11=>v = .bool false
 | 12=>v = .bool false
 | 13=>v = .bool false
 | 14=>v = .bool true
 | 15=>v = .bool false
 | 16=>v = .bool false
 | 17=>v=undef
 | 18=>v=undef
 | 19=>v=undef
 | 20=>v=undef
 | 21=>v=undef
 | 22=>v=undef
 | 23=>v = .bool false
 | 24=>v = .bool false
 | _=>True
theorem Zq3 (gl ol un lc ix rn rc gw ow na oc pk sc:Nat) (ro so:Option Addr):∀ i w w' v,grT gl ol un lc ix rn rc gw ow na oc pk sc ro so i w v→Below w.heap.size w w'→grT gl ol un lc ix rn rc gw ow na oc pk sc ro so i w' v:=by
 intro i w w' v h hb
 match i with
 | 0=>exact h
 | 1=>exact h
 | 2=>exact h
 | 3=>exact h
 | 4=>exact h
 | 5=>exact h
 | 6=>exact h
 | 7=>exact h
 | 8=>exact h
 | 9=>exact h
 | 10=>exact h
 | 11=>exact h
 | 12=>exact h
 | 13=>exact h
 | 14=>exact h
 | 15=>exact h
 | 16=>exact h
 | 17=>exact h
 | 18=>exact h
 | 19=>exact h
 | 20=>exact h
 | 21=>exact h
 | 22=>exact h
 | 23=>exact h
 | 24=>exact h
 | k+25=>trivial
def grN (gl ol un lc ix rn rc gw ow na oc pk sc:Nat) (ro so:Option Addr) (i:Nat) (W:World) (v:Value):Prop:=match i with
 | 0=>v = .bool false
 | 1=>v = .bool false
 | 2=>v=undef
 | 3=>v=undef
 | 4=>v=undef
 | 5=>v=undef
 | 6=>v=undef
 | 7=>v=undef
 | 8=>v=undef
 | 9=>v=undef
 | 10=>v=undef
 | 11=>v=undef
 | 12=>v = .bool false
 | 13=>v = .bool false
 | 14=>v = .bool false
 | 15=>v = .bool true
 | 16=>v = .bool true
 | 17=>v = .slice (some ⟨gl,ol,none⟩) un lc
 | 18=>v = .int .i64 (ix:Nat)
 | 19=>v = .pointer (some ⟨gl,ol+ix,none⟩)
 | 20=>v = .slice ro 0 rc
 | 21=>v = .int .i64 0
 | 22=>v = .bool false
 | 23=>v = .bool false
 | 24=>v = .bool false
 | _=>True
theorem Zq4 (gl ol un lc ix rn rc gw ow na oc pk sc:Nat) (ro so:Option Addr):∀ i w w' v,grN gl ol un lc ix rn rc gw ow na oc pk sc ro so i w v→Below w.heap.size w w'→grN gl ol un lc ix rn rc gw ow na oc pk sc ro so i w' v:=by
 intro i w w' v h hb
 match i with
 | 0=>exact h
 | 1=>exact h
 | 2=>exact h
 | 3=>exact h
 | 4=>exact h
 | 5=>exact h
 | 6=>exact h
 | 7=>exact h
 | 8=>exact h
 | 9=>exact h
 | 10=>exact h
 | 11=>exact h
 | 12=>exact h
 | 13=>exact h
 | 14=>exact h
 | 15=>exact h
 | 16=>exact h
 | 17=>exact h
 | 18=>exact h
 | 19=>exact h
 | 20=>exact h
 | 21=>exact h
 | 22=>exact h
 | 23=>exact h
 | 24=>exact h
 | k+25=>trivial
theorem Zyz (k:Nat):(List.replicate k (-1:Int)).flatMap Zbj=List.replicate k (Value.int .i64 (-1)):=by
 induction k with
 | zero=>rfl
 | succ k ih=>rw[List.replicate_succ,List.flatMap_cons,ih,List.replicate_succ];rfl
theorem Zph (w:World) (c:Crw) (cs:List Value) (B:Nat) (who:Int) (hw0:0≤who) (hw1:who≤255) (hcw:Zf9 w c cs) (hG:Tab w B) (hL:LenC c) (hby:∀ p∈c.qs,ByL p) (hnm:∀ m∈c.ms,∀ b∈m.b,NmL b.n) :
  Calls Tryz.prog 3 #[.agg cs.toArray,.int .u8 who] w fun e w'=>e = .returned (.bool true)∧Below w.heap.size w w':=by
 have HVC:=ħ (fun W (hc:Zf9 W c cs) (hT:Tab W B) (hok:CrwOk c)=>Zky W c cs hc B hT hok);have HTB:=ħ (fun W (hW:Below w.heap.size w W)=>Zbm.step (w:=w) hG hW);have HCW:=ħ (fun W (hW:Below w.heap.size w W)=>hcw.below hW);have HFK:=ħ (fun hf=>Z0n (c:=c) hf hL hby hnm);have HFW:=ħ (fun W (hW:Below w.heap.size w W)=>Zyr W c cs (hcw.below hW) hL);have hun:=hL.nu;have hmn:=hL.nm;have hqn:=hL.nq;obtain⟨qo,qc,mo,mc,uo,uc,rfl,-⟩:=hcw;clear hL hby hnm hG;generalize hqe:c.qs.length=qn at *;generalize hme:c.ms.length=mn at *;generalize hue:c.us.length=un at *;have HUE:=ħ hue;have HME:=ħ hme;have HQE:=ħ hqe;clear hue hme hqe;have X1:Hid (Zaf (w.alloc (.cells #[.slice qo qn qc,.slice mo mn mc,.slice uo un uc] 26)) w.heap.size 26 [.slice qo qn qc,.slice mo mn mc,.slice uo un uc]):=ħ (heap_alloc_new w _);have B1:=ħ ((Below.refl w.heap.size w).alloc (Nat.le_refl _) (.cells #[.slice qo qn qc,.slice mo mn mc,.slice uo un uc] 26))
 go_enter Tryz.func3,Tryz.ntmps3
 go_upto_region 1 with (fail)
 generalize w.alloc (.cells #[.slice qo qn qc,.slice mo mn mc,.slice uo un uc] 26)=w1 at *
 go_wp2_with fail
 refine (Zv1 w1 B (HTB.o w1 B1.o)).mono ?_;rintro e w2 ⟨rfl,b2⟩;have X2:=ħ (X1.o.step b2);have B2:=ħ (B1.o.trans (b2.mono B1.o.size));clear b2 X1 B1
 go_upto_region 2 with (fail)
 go_wp2_with (refine wpList_load_row rfl 26 (.tmp 2) rfl (w.heap.size) ?x1 26 #[.slice qo qn qc,.slice mo mn mc,.slice uo un uc] (0,0) _ X2.o Tryz.underlying26 rfl (Zaw _ _ _) ?_;(case x1=>rfl))
 refine (HFW.o w2 B2.o).mono ?_;rintro e w3 ⟨rfl,b3⟩;have X3:=ħ (X2.o.step b3);have B3:=ħ (B2.o.trans (b3.mono B2.o.size));clear b3 X2 B2 HFW;obtain⟨V,hV⟩:∃ V,Zyq c=V:=⟨_,rfl⟩;rw[hV];have HV:=ħ hV;clear hV
 cases V with
 | false =>
  go_wp2_with fail
  go_ret;exact⟨rfl,B3.o⟩
 | true =>
  obtain⟨hok,h999,h65,h129⟩:=HFK.o HV.o;have HOK:=ħ hok;clear hok;have HAG:=ħ (fun W (hW:Below w.heap.size w W)=>(⟨HCW.o W hW,HTB.o W hW,HOK.o,by rw[HUE.o];exact h999⟩:ArgC W c [.slice qo qn qc,.slice mo mn mc,.slice uo un uc] B));clear HFK HTB HCW HOK;have HVC:=ħ (fun W (hW:Below w.heap.size w W)=>HVC.o W (HAG.o W hW).crw (HAG.o W hW).tab (HAG.o W hW).ok)
  go_wp2_with (refine Zbt (by rfl) 26 (.tmp 2) rfl (w.heap.size) ?x2 26 #[.slice qo qn qc,.slice mo mn mc,.slice uo un uc] (0,0) _ X3.o Tryz.underlying26 rfl (Zaw _ _ _) ?_;(case x2=>rfl))
  refine (HVC.o w3 B3.o).mono ?_;rintro e w4 ⟨rfl,b4⟩;have X4:=ħ (X3.o.step b4);have B4:=ħ (B3.o.trans (b4.mono B3.o.size));clear b4 X3 B3 HVC;obtain⟨vv,hvv⟩:∃ x,Zaq c=x:=⟨_,rfl⟩;rw[hvv]
  cases vv with
  | false =>
   go_wp2_with fail
   go_ret;exact⟨rfl,B4.o⟩
  | true =>
  have HVV:=ħ hvv;clear hvv;obtain⟨y,rfl⟩:∃ y:Nat,who=(y:Int):=⟨who.toNat,by omega⟩;obtain⟨wd,hwd⟩:∃ m:Nat,y%16=m:=⟨_,rfl⟩
  have hwl:wd<16:=by rw[← hwd];exact Nat.mod_lt _ (by omega)
  have hmi:((y:Int)%16)=((wd:Nat):Int):=by rw[← hwd];rfl
  have hmi2:Int.tmod (y:Int) 16=((wd:Nat):Int):=by rw[← hwd];rfl
  have ecv:IntKind.i64.wrap ((y:Nat):Int)=((y:Nat):Int):=IntWalk.i64_in _ (by omega);have ecm:IntKind.i64.wrap ((wd:Nat):Int)=((wd:Nat):Int):=IntWalk.i64_in _ (by omega)
  have HP0:Hid (GrpP c un wd _ _ _ _ _ _ _ _ _ _):=ħ (by
   have:=Z0t (c:=c) HVV.o HV.o (by rw[HUE.o];omega) (by rw[HME.o];exact h65) hwl
   rwa [HUE.o] at this)
  have HON:Hid (∀ W oth,Below w.heap.size w W→Calls Tryz.prog 21 #[.agg #[.slice qo qn qc,.slice mo mn mc,.slice uo un uc],.int .i64 (wd:Int),.bool oth] W fun e w'=>(∃ so cap,e = .returned (.agg #[.slice qo qn qc,.slice mo mn mc,.slice so (Zar c.us (wd:Int) oth).length cap])∧Zal Zbv w' so (Zar c.us (wd:Int) oth)∧(Zar c.us (wd:Int) oth).length≤cap)∧Below W.heap.size W w'):=ħ (fun W oth hW=>Zyu W c _ (wd:Int) oth (HAG.o W hW).crw (by rw[HUE.o];exact h999));have HLE:Hid (∀ oth,(Zar c.us (wd:Int) oth).length≤un):=ħ (fun oth=>by rw[← HUE.o];exact List.length_filter_le _ _);have HCC:=ħ (fun W (hW:Below w.heap.size w W)=>Zh2 W c _ B (HAG.o W hW));have HSC:=ħ (fun W (hW:Below w.heap.size w W)=>Zn8 W c _ B (HAG.o W hW));have HUF:=ħ (fun W (hW:Below w.heap.size w W)=>(Zv8 (HAG.o W hW).crw).1);have HXG:=ħ (fun i (hi:i<c.us.length)=>(⟨_,List.getElem?_eq_getElem hi⟩:∃ x,c.us[i]?=some x));rw[HUE.o] at HXG;rw[HP0.o.ll] at HSC
  go_upto_region 5 with (fail)
  clear hmi hmi2 ecv ecm hwd
  go_wp2_with (refine wpList_load_row rfl 26 (.tmp 2) rfl (w.heap.size) ?loa 26 #[.slice qo qn qc,.slice mo mn mc,.slice uo un uc] (0,0) _ X4.o Tryz.underlying26 rfl (Zaw _ _ _) ?_;(case loa=>rfl))
  refine (HON.o w4 false B4.o).mono ?_;rintro e wp ⟨⟨ao,ac,rfl,hf,hlc⟩,bp⟩;have XP:=ħ (X4.o.step bp);have BP:=ħ (B4.o.trans (bp.mono B4.o.size));have KCa:=ħ hlc;have HF:=ħ (fun W (hW:Below wp.heap.size wp W)=>hf.below hW);clear bp hf hlc X4 B4;have O1:Hid (Zaf (wp.alloc (.cells #[.slice none 0 0,.slice none 0 0,.slice none 0 0] 26)) wp.heap.size 26 [.slice none 0 0,.slice none 0 0,.slice none 0 0]):=ħ (heap_alloc_new wp _);have BO:=ħ ((Below.refl wp.heap.size wp).alloc (Nat.le_refl _) (.cells #[.slice none 0 0,.slice none 0 0,.slice none 0 0] 26))
  go_upto_region 6 with (refine Zan rfl 26 (.tmp 7) (.tmp 38) rfl wp.heap.size #[.slice qo qn qc,.slice mo mn mc,.slice ao (Zar c.us (wd:Int) false).length ac] (by rfl) (by rfl) 26 _ O1.o (Zaw _ _ _) rfl (by simp[Value.oneCell']) ?_;intro wa s9 u9;have Sa:=ħ s9;have U9:=ħ u9;clear s9 u9)
  have A9:=ħ (U9.o.below BO.o (Nat.le_refl _));have Sa:Hid (Zaf wa wp.heap.size 26 [.slice qo qn qc,.slice mo mn mc,.slice ao (Zar c.us (wd:Int) false).length ac]):=ħ Sa.o;have Xwa:=ħ (XP.o.step A9.o);have Bwa:=ħ (BP.o.trans (A9.o.mono BP.o.size));have HSa:=ħ (fun W (hW:Below wa.heap.size wa W)=>HF.o W (A9.o.trans (hW.mono A9.o.size)));obtain⟨Ab,hAb⟩:∃ n,wp.heap.size=n:=⟨_,rfl⟩;rw[hAb] at Sa ⊢;clear O1 BO U9 A9 XP BP HF hAb
  go_wp2_with (refine wpList_load_row rfl 26 (.tmp 2) rfl (w.heap.size) ?lob 26 #[.slice qo qn qc,.slice mo mn mc,.slice uo un uc] (0,0) _ Xwa.o Tryz.underlying26 rfl (Zaw _ _ _) ?_;(case lob=>rfl))
  refine (HON.o wa true Bwa.o).mono ?_;rintro e wp ⟨⟨bo,bc,rfl,hf,hlc⟩,bp⟩;have XP:=ħ (Xwa.o.step bp);have BP:=ħ (Bwa.o.trans (bp.mono Bwa.o.size));have KCb:=ħ hlc;have HF:=ħ (fun W (hW:Below wp.heap.size wp W)=>hf.below hW);have SaP:=ħ (Sa.o.step bp);have HSaP:=ħ (fun W (hW:Below wp.heap.size wp W)=>HSa.o W (bp.trans (hW.mono bp.size)));clear bp hf hlc Xwa Bwa Sa HSa;have O1:Hid (Zaf (wp.alloc (.cells #[.slice none 0 0,.slice none 0 0,.slice none 0 0] 26)) wp.heap.size 26 [.slice none 0 0,.slice none 0 0,.slice none 0 0]):=ħ (heap_alloc_new wp _);have BO:=ħ ((Below.refl wp.heap.size wp).alloc (Nat.le_refl _) (.cells #[.slice none 0 0,.slice none 0 0,.slice none 0 0] 26))
  go_upto_region 7 with (refine Zan rfl 26 (.tmp 8) (.tmp 41) rfl wp.heap.size #[.slice qo qn qc,.slice mo mn mc,.slice bo (Zar c.us (wd:Int) true).length bc] (by rfl) (by rfl) 26 _ O1.o (Zaw _ _ _) rfl (by simp[Value.oneCell']) ?_;intro wb s9 u9;have Sb:=ħ s9;have U9:=ħ u9;clear s9 u9)
  have A9:=ħ (U9.o.below BO.o (Nat.le_refl _));have Sb:Hid (Zaf wb wp.heap.size 26 [.slice qo qn qc,.slice mo mn mc,.slice bo (Zar c.us (wd:Int) true).length bc]):=ħ Sb.o;have Xwb:=ħ (XP.o.step A9.o);have Bwb:=ħ (BP.o.trans (A9.o.mono BP.o.size));have HSb:=ħ (fun W (hW:Below wb.heap.size wb W)=>HF.o W (A9.o.trans (hW.mono A9.o.size)));have Sa:=ħ (SaP.o.step A9.o);have HSa:=ħ (fun W (hW:Below wb.heap.size wb W)=>HSaP.o W (A9.o.trans (hW.mono A9.o.size)));obtain⟨Bbb,hBbb⟩:∃ n,wp.heap.size=n:=⟨_,rfl⟩;rw[hBbb] at Sb ⊢;clear O1 BO U9 A9 XP BP HF hBbb SaP HSaP;have HAA:=ħ (fun W (hW:Below wb.heap.size wb W)=>Zn7 (HAG.o W (Bwb.o.trans (hW.mono Bwb.o.size))) (HSa.o W hW) rfl KCa.o (Nat.le_trans (HLE.o false) h999));have HAB:=ħ (fun W (hW:Below wb.heap.size wb W)=>Zn7 (HAG.o W (Bwb.o.trans (hW.mono Bwb.o.size))) (HSb.o W hW) rfl KCb.o (Nat.le_trans (HLE.o true) h999));have HCA:=ħ (fun W (hW:Below wb.heap.size wb W)=>Zh2 W _ _ B (HAA.o W hW));have HCB:=ħ (fun W (hW:Below wb.heap.size wb W)=>Zh2 W _ _ B (HAB.o W hW));have HSA:=ħ (fun W (hW:Below wb.heap.size wb W)=>Zn8 W _ _ B (HAA.o W hW));have HFR:=ħ (fun W lo lc (hW:Below wb.heap.size wb W) hl=>Zyx W _ _ B (List.replicate (Zar c.us (wd:Int) true).length (-1)) lo lc (HAB.o W hW) hl);have HLA:=HLE.o false;have HLB:=HLE.o true;obtain⟨n,hn⟩:∃ x,(Zbo c).1=x:=⟨_,rfl⟩;obtain⟨e9,he9⟩:∃ x,(Zbo c).2=x:=⟨_,rfl⟩;obtain⟨p,hp⟩:∃ x,(Zbo (Zbi c (Zar c.us (wd:Int) false))).1=x:=⟨_,rfl⟩;obtain⟨f9,hf9⟩:∃ x,(Zbo (Zbi c (Zar c.us (wd:Int) false))).2=x:=⟨_,rfl⟩;obtain⟨q,hq⟩:∃ x,(Zbo (Zbi c (Zar c.us (wd:Int) true))).1=x:=⟨_,rfl⟩;obtain⟨g9,hg9⟩:∃ x,(Zbo (Zbi c (Zar c.us (wd:Int) true))).2=x:=⟨_,rfl⟩;obtain⟨rest,hrs⟩:∃ x,Zmd (Zbi c (Zar c.us (wd:Int) true)) (List.replicate (Zar c.us (wd:Int) true).length (-1))=x:=⟨_,rfl⟩;obtain⟨L,hL⟩:∃ x,Zcj c=x:=⟨_,rfl⟩;obtain⟨OW,hOW⟩:∃ x,Zcj (Zbi c (Zar c.us (wd:Int) false))=x:=⟨_,rfl⟩;obtain⟨pw,hpw⟩:∃ x:Nat→Nat,(fun i=>(List.range i).countP (fun u=>(Zau c (Zay c)).win u==wd))=x:=⟨_,rfl⟩;rw[hn,he9,hp,hf9,hq,hg9,hrs,hL,hOW,hpw] at HP0;rw[hn,he9] at HCC;rw[hp,hf9] at HCA;rw[hq,hg9] at HCB;rw[hrs] at HFR;rw[hL] at HSC;rw[hOW] at HSA;have HNO:Hid (OW.length≤999):=ħ (by rw[← hOW,Zmb (Zk8 HVV.o _ _)];exact Nat.le_trans (HLE.o false) h999);obtain⟨nb,hnb⟩:∃ x,(Zar c.us (wd:Int) true).length=x:=⟨_,rfl⟩;rw[hnb] at HFR Sb HLB;obtain⟨nu,hnu⟩:∃ x,(Zar c.us (wd:Int) false).length=x:=⟨_,rfl⟩;rw[hnu] at Sa HLA;rw[hnb] at HCB;rw[hnu] at HCA HSA;clear hn he9 hp hf9 hq hg9 hrs hL hOW hpw hnb hnu HAA HAB HSa HSb KCa KCb HON HLE
  go_wp2_with (refine wpList_load_row rfl 26 (.tmp 2) rfl (w.heap.size) ?l7 26 #[.slice qo qn qc,.slice mo mn mc,.slice uo un uc] (0,0) _ Xwb.o Tryz.underlying26 rfl (Zaw _ _ _) ?_;(case l7=>rfl))
  refine (HCC.o wb Bwb.o).mono ?_;rintro e w7 ⟨rfl,b7⟩;have LR:=ħ b7;have X7:=ħ (Xwb.o.step b7);have A7:=ħ (Sa.o.step b7);have B7:=ħ (Sb.o.step b7);clear b7 Xwb Sa Sb HCC
  go_upto_region 8 with (fail)
  go_wp2_with (refine wpList_load_row rfl 26 (.tmp 7) rfl (Ab) ?l8 26 #[.slice qo qn qc,.slice mo mn mc,.slice ao nu ac] (0,0) _ A7.o Tryz.underlying26 rfl (Zaw _ _ _) ?_;(case l8=>rfl))
  refine (HCA.o w7 LR.o).mono ?_;rintro e w8 ⟨rfl,b8⟩;have L8:=ħ (LR.o.trans (b8.mono LR.o.size));have X8:=ħ (X7.o.step b8);have A8:=ħ (A7.o.step b8);have B8:=ħ (B7.o.step b8);clear b8 X7 A7 B7 LR HCA
  go_upto_region 9 with (fail)
  go_wp2_with (refine wpList_load_row rfl 26 (.tmp 8) rfl (Bbb) ?l9 26 #[.slice qo qn qc,.slice mo mn mc,.slice bo nb bc] (0,0) _ B8.o Tryz.underlying26 rfl (Zaw _ _ _) ?_;(case l9=>rfl))
  refine (HCB.o w8 L8.o).mono ?_;rintro e w9 ⟨rfl,b9⟩;have L9:=ħ (L8.o.trans (b9.mono L8.o.size));have X9:=ħ (X8.o.step b9);have A9:=ħ (A8.o.step b9);have B9:=ħ (B8.o.step b9);clear b9 X8 A8 B8 L8 HCB;have BM:=ħ ((Below.refl w9.heap.size w9).alloc (Nat.le_refl _) (.cells #[] 3));have OM:=ħ (OwnK.made w9 3 1);have HB9:=ħ (fun W (hW:Below w9.heap.size w9 W)=>B9.o.step hW)
  go_upto_region 12 with (fail)
  generalize w9.alloc (.cells #[] 3)=wm at *
  go_loopw [15,16] (fun ov iv wr=>∃ (k:Nat) (g o cap:Nat),ov = .slice (some ⟨g,o,none⟩) k cap∧iv = .int .i64 k∧k≤nb∧Hid (OwnK wr w9.heap.size 1 k cap (List.replicate k (Value.int .i64 (-1))) (some ⟨g,o,none⟩))∧Hid (Below w9.heap.size w9 wr)) (fun _ i _=>(nb-intOf i).toNat)
  case atStart=>exact⟨0,w9.heap.size,0,0,rfl,rfl,by omega,OM,BM⟩
  case round =>
   clear OM BM;obtain⟨k,gm,om,cm,rfl,rfl,hk,OR,LR⟩:=hrel;have e2:IntKind.i64.wrap ((k:Int)+1)=((k+1:Nat):Int):=IntWalk.i64_in _ (by omega);have b2:=(HB9.o wr LR.o).cell 2 _ rfl;by_cases hkn:k<nb
   ·have kk:(k:Int)<nb:=by omega
    go_upto_region 14 with (fail)
    go_upto_region 13 with (at_builtin;refine Zdw 33 3 (.int .i64 0) 1 8 Tryz.underlying33 Zbu rfl (by omega) (by omega) wr w9.heap.size rfl (.tmp 65) (.tmp 66) rfl (some ⟨gm,om,none⟩) cm k (List.replicate k (Value.int .i64 (-1))) ?p1 OR.o LR.o.size 1 1 #[.int .i64 (-1)] 3 ?p2 rfl (by omega) ?p3 ?p4 ?_;(case p1=>rfl);(case p2=>rfl);(case p3=>simp[Value.oneCell']);(case p4=>omega);intro g3 off3 c3 wv o8 gr8 b8 or8;have OA:=ħ o8;have LA:=ħ (LR.o.trans b8);clear o8 gr8 b8 or8)
    go_wp2_with fail
    go_roundw
    case rel=>exact⟨k+1,g3,off3,c3,rfl,by go_num,by omega,ħ (by rw[List.replicate_succ'];exact OA.o),LA⟩
    case measure=>simp only[intOf];omega
   ·have kk:¬ (k:Int)<nb:=by omega
    obtain rfl:nb=k:=by omega
    have LB:=ħ (L9.o.trans (LR.o.mono L9.o.size));have HLO:Hid (Zal Zbj wr (some ⟨gm,om,none⟩) (List.replicate nb (-1))):=ħ (OwnK.flatR (B:=w9.heap.size) (k:=1) (n:=nb) (cap:=cm) (by rw[Zyz];exact OR.o) (fun _=>rfl) (by rw[List.length_replicate]));have HLL:Hid ((List.replicate nb (-1:Int)).length=nb):=ħ List.length_replicate;have HF2:=HFR.o wr (some ⟨gm,om,none⟩) cm LB.o HLO.o;rw[HLL.o] at HF2;have HF2:=ħ HF2;have XW:=ħ (X9.o.step LR.o);have AW:=ħ (A9.o.step LR.o);have BW:=ħ (HB9.o wr LR.o);clear OR LR X9 A9 B9 HB9 L9 HLO HLL HFR kk e2
    go_upto_region 15 with (fail)
    clear b2
    go_wp2_with (refine wpList_load_row rfl 26 (.tmp 8) rfl (Bbb) ?l10 26 #[.slice qo qn qc,.slice mo mn mc,.slice bo nb bc] (0,0) _ BW.o Tryz.underlying26 rfl (Zaw _ _ _) ?_;(case l10=>rfl))
    refine HF2.o.mono ?_;rintro e wf ⟨bf,fv,rfl⟩;have LF:=ħ (LB.o.trans (bf.mono LB.o.size));have XF:=ħ (XW.o.step bf);have AF:=ħ (AW.o.step bf);clear bf XW AW BW LB HF2;by_cases he0:e9=0
    ·subst he0
     have hok0:=HP0.o.ok rfl;obtain⟨hf0,hg0,hn0,hn1⟩:=hok0;subst hf0;subst hg0
     have hmul:IntKind.i64.wrap (((p:Nat):Int)*((q:Nat):Int))=((n:Nat):Int):=by
      rw[hn0,← Int.natCast_mul];exact IntWalk.i64_in _ (by rw[← hn0];omega)
     have hnn:(((n:Nat):Int) != ((n:Nat):Int))=false:=by simp
     clear hn0 hn1
     go_upto_region 18 with (fail)
     clear hmul hnn
     go_wp2_with (refine wpList_load_row rfl 26 (.tmp 2) rfl (w.heap.size) ?l18 26 #[.slice qo qn qc,.slice mo mn mc,.slice uo un uc] (0,0) _ XF.o Tryz.underlying26 rfl (Zaw _ _ _) ?_;(case l18=>rfl))
     have BF:=ħ (Bwb.o.trans (LF.o.mono Bwb.o.size));refine (HSC.o wf BF.o).mono ?_;rintro e w5 ⟨b5,lo,lc,rfl,hr5⟩;have L5:=ħ (LF.o.trans (b5.mono LF.o.size));have X5:=ħ (XF.o.step b5);have A5:=ħ (AF.o.step b5);have HR5:=ħ (fun W (hW:Below w5.heap.size w5 W)=>hr5.below hW);clear b5 hr5 XF AF LF BF HSC
     go_upto_region 19 with (fail)
     go_wp2_with (refine wpList_load_row rfl 26 (.tmp 7) rfl (Ab) ?l19 26 #[.slice qo qn qc,.slice mo mn mc,.slice ao nu ac] (0,0) _ A5.o Tryz.underlying26 rfl (Zaw _ _ _) ?_;(case l19=>rfl))
     refine (HSA.o w5 L5.o).mono ?_;rintro e w6 ⟨b6,wo,oc,rfl,hr6⟩;have L6:=ħ (L5.o.trans (b6.mono L5.o.size));have X6:=ħ (X5.o.step b6);have HR6:=ħ (fun W (hW:Below w6.heap.size w6 W)=>HR5.o W (b6.trans (hW.mono b6.size)));have HO6:=ħ (fun W (hW:Below w6.heap.size w6 W)=>hr6.below hW);have B6:=ħ (Bwb.o.trans (L6.o.mono Bwb.o.size));have HX6:=ħ (fun W (hW:Below w6.heap.size w6 W)=>X6.o.step hW);obtain⟨na,hna⟩:∃ n,OW.length=n:=⟨_,rfl⟩;have HNA:=ħ hna;rw[hna] at HNO;rw[hna];have HPN:=ħ HP0.o.pn;have HP00:=HP0.o.p0;rw[hna] at HPN;clear b6 hr6 hna X5 A5 L5 HR5 HSA Bwb L6 X6
     go_upto_region 22 with (fail)
     go_loopw [21,22] (fun kv iv wr=>∃ (ix:Nat),kv = .int .i64 (pw ix:Nat)∧iv = .int .i64 ix∧ix≤un∧Hid (Below w6.heap.size w6 wr)) (fun _ i _=>(un-intOf i).toNat)
     case atStart=>exact⟨0,by rw[HP00];rfl,rfl,by omega,ħ (Below.refl _ _)⟩
     case round =>
      clear HP00;obtain⟨ix,rfl,rfl,hi,LR⟩:=hrel;have e2:IntKind.i64.wrap ((ix:Int)+1)=((ix+1:Nat):Int):=IntWalk.i64_in _ (by omega);have c2:=(HX6.o wr LR.o).cell 2 _ rfl;by_cases hin:ix<un
      ·have ii:(ix:Int)<un:=by omega
       obtain⟨x,hx⟩:=HXG.o ix hin;obtain⟨gu,ou,huo,hgu,hcu⟩:=(HUF.o wr (B6.o.trans (LR.o.mono B6.o.size))).at Za2 ix x hx;have u1:=hcu 1 _ rfl;subst huo;clear hcu hgu;by_cases hxw:x.w=(wd:Int)
       ·obtain⟨hp1,r,hr,hlr,h65r⟩:=HP0.o.yes ix x hx hxw
        rw[hxw] at u1
        have hpk:pw ix<na:=by rw[← HNA.o];exact (List.getElem?_eq_some_iff.1 hr).1
        have hkj:IntKind.i64.wrap (((pw ix:Nat):Int)+1)=((pw (ix+1):Nat):Int):=by rw[hp1];exact IntWalk.i64_in _ (by have:=HNO.o;omega)
        obtain⟨pk,hpke⟩:∃ n,pw ix=n:=⟨_,rfl⟩;rw[hpke] at hr hpk hkj ⊢
        have kki:((pk:Nat):Int)<((na:Nat):Int):=by omega
        have hww:(((wd:Nat):Int) != ((wd:Nat):Int))=false:=by simp
        have huu:(((un:Nat):Int) != ((un:Nat):Int))=false:=by simp
        have hgeq:¬ ((pk:Nat):Int)≥((na:Nat):Int):=by omega
        obtain⟨gl,ol,ro,rc,hlo,hgl,hcl,hfl⟩:=(HR6.o wr LR.o).at ix _ hlr;obtain⟨gw,ow,so,sc,hwo,hgw,hcw,hfw⟩:=(HO6.o wr LR.o).at pk _ hr;have HLO:=ħ hlo;have HWO:=ħ hwo;have HII:=ħ ii;have HKI:=ħ kki;have HHX:=ħ hx;have HP1:=ħ hp1;have HCL:=ħ (fun W (hW:Below wr.heap.size wr W)=>(hW.cell (p:=⟨gl,ol+ix,none⟩) hgl).trans hcl);have HCW2:=ħ (fun W (hW:Below wr.heap.size wr W)=>(hW.cell (p:=⟨gw,ow+pk,none⟩) hgw).trans hcw);have HFL:=ħ hfl;have HFW:=ħ hfw;clear hlr hr hx hp1 hcl hcw hfl hfw hgl hgw hpke;subst hlo;subst hwo
        go_upto_region 27 with (fail)
        clear hww huu hgeq u1 c2
        cases rest with
        | true =>
         rw[if_pos (by trivial)] at HCL HFL;have HSB:=ħ (fun W (hW:Below wr.heap.size wr W)=>Zgk W r r ro so rc sc (HFL.o.below hW) (HFW.o.below hW) (by omega));rw[decide_eq_true rfl] at HSB;clear HFL HFW h65r;generalize r.length=rn at *;refine Zax (grT gl ol un lc ix rn rc gw ow na oc pk sc ro so) (by kernel_rfl) (Zq3 gl ol un lc ix rn rc gw ow na oc pk sc ro so) (Zcb (by kernel_rfl)) (Zfj (by kernel_rfl)) (Za4 (by kernel_rfl)) ?hs ?he
         case hs =>
          intro i o hi listed a' w' H hl2;have hl3:=Zap hl2;have hin:i<25:=(Array.getElem?_eq_some_iff.1 hi).1;have hb:=ħ H.below;have s18:=H.same 18 (Zaj (by kernel_rfl));have s19:=H.same 19 (Zaj (by kernel_rfl));have s20:=H.same 20 (Zaj (by kernel_rfl));have s21:=H.same 21 (Zaj (by kernel_rfl));have s22:=H.same 22 (Zaj (by kernel_rfl));have hdn:=H.done;have hdf:=H.defers;have hts:=H.tsize;clear hl2 H;obtain⟨t',df⟩:=a';obtain⟨f',rfl⟩:=Zq2 t' hts;have hdf':df=[]:=hdf;subst hdf';have gs18:f' 18 = .bool true:=s18;have gs19:f' 19 = .slice (some ⟨gl,ol,none⟩) un lc:=s19;have gs20:f' 20 = .slice (some ⟨gw,ow,none⟩) na oc:=s20;have gs21:f' 21 = .int .i64 (pk:Nat):=s21;have gs22:f' 22 = .int .i64 (ix:Nat):=s22;clear s18 s19 s20 s21 s22;clear hdf hts;have hcases:=Zfd i hin;clear hin;rcases hcases with rfl | rfl | rfl | rfl | rfl | rfl | rfl | rfl | rfl | rfl | rfl | rfl | rfl | rfl | rfl | rfl | rfl | rfl | rfl | rfl | rfl | rfl | rfl | rfl | rfl
          ·obtain rfl:=Option.some.inj hi
           clear hdn hl3;rw[gs18];clear gs18 gs19 gs20 gs21 gs22;refine Zab rfl ?_
           go_wp2_with fail
           exact Zaa ⟨_,rfl,Below.refl _ _,rfl⟩
          ·obtain rfl:=Option.some.inj hi
           have dv0:f' 122 = .bool true:=hdn 0 _ 122 rfl (hl3 0 (by rfl)) rfl;clear hdn hl3;rw[dv0];clear dv0 gs18 gs19 gs20 gs21 gs22;refine Zab rfl ?_
           go_wp2_with fail
           exact Zaa ⟨_,rfl,Below.refl _ _,rfl⟩
          ·obtain rfl:=Option.some.inj hi
           have dv1:f' 123 = .bool true:=hdn 1 _ 123 rfl (hl3 1 (by rfl)) rfl;clear hdn hl3;rw[gs19,dv1];clear dv1 gs18 gs19 gs20 gs21 gs22;refine Zab rfl ?_
           go_wp2_with fail
           exact Zaa ⟨_,rfl,Below.refl _ _,rfl⟩
          ·obtain rfl:=Option.some.inj hi
           have dv1:f' 123 = .bool true:=hdn 1 _ 123 rfl (hl3 1 (by rfl)) rfl;clear hdn hl3;rw[gs22,dv1];clear dv1 gs18 gs19 gs20 gs21 gs22;refine Zab rfl ?_
           go_wp2_with fail
           exact Zaa ⟨_,rfl,Below.refl _ _,rfl⟩
          ·obtain rfl:=Option.some.inj hi
           have dv1:f' 123 = .bool true:=hdn 1 _ 123 rfl (hl3 1 (by rfl)) rfl;have dv2:f' 124 = .slice (some ⟨gl,ol,none⟩) un lc:=hdn 2 _ 124 rfl (hl3 2 (by rfl)) rfl;have dv3:f' 125 = .int .i64 (ix:Nat):=hdn 3 _ 125 rfl (hl3 3 (by rfl)) rfl;clear hdn hl3;rw[dv1,dv2,dv3];clear dv1 dv2 dv3 gs18 gs19 gs20 gs21 gs22;have ii:=HII.o;refine Zab rfl ?_
           go_wp2_with fail
           exact Zaa ⟨_,rfl,Below.refl _ _,rfl⟩
          ·obtain rfl:=Option.some.inj hi
           have dv1:f' 123 = .bool true:=hdn 1 _ 123 rfl (hl3 1 (by rfl)) rfl;have dv4:f' 126 = .pointer (some ⟨gl,ol+ix,none⟩):=hdn 4 _ 126 rfl (hl3 4 (by rfl)) rfl;clear hdn hl3;rw[dv1,dv4];clear dv1 dv4 gs18 gs19 gs20 gs21 gs22;have rr:=HCL.o w' hb.o;refine Zab rfl ?_
           go_wp2_with fail
           exact Zaa ⟨_,rfl,Below.refl _ _,rfl⟩
          ·obtain rfl:=Option.some.inj hi
           have dv1:f' 123 = .bool true:=hdn 1 _ 123 rfl (hl3 1 (by rfl)) rfl;clear hdn hl3;rw[gs20,dv1];clear dv1 gs18 gs19 gs20 gs21 gs22;refine Zab rfl ?_
           go_wp2_with fail
           exact Zaa ⟨_,rfl,Below.refl _ _,rfl⟩
          ·obtain rfl:=Option.some.inj hi
           have dv1:f' 123 = .bool true:=hdn 1 _ 123 rfl (hl3 1 (by rfl)) rfl;clear hdn hl3;rw[gs21,dv1];clear dv1 gs18 gs19 gs20 gs21 gs22;refine Zab rfl ?_
           go_wp2_with fail
           exact Zaa ⟨_,rfl,Below.refl _ _,rfl⟩
          ·obtain rfl:=Option.some.inj hi
           have dv1:f' 123 = .bool true:=hdn 1 _ 123 rfl (hl3 1 (by rfl)) rfl;have dv6:f' 128 = .slice (some ⟨gw,ow,none⟩) na oc:=hdn 6 _ 128 rfl (hl3 6 (by rfl)) rfl;have dv7:f' 129 = .int .i64 (pk:Nat):=hdn 7 _ 129 rfl (hl3 7 (by rfl)) rfl;clear hdn hl3;rw[dv1,dv6,dv7];clear dv1 dv6 dv7 gs18 gs19 gs20 gs21 gs22;have ii:=HKI.o;refine Zab rfl ?_
           go_wp2_with fail
           exact Zaa ⟨_,rfl,Below.refl _ _,rfl⟩
          ·obtain rfl:=Option.some.inj hi
           have dv1:f' 123 = .bool true:=hdn 1 _ 123 rfl (hl3 1 (by rfl)) rfl;have dv8:f' 130 = .pointer (some ⟨gw,ow+pk,none⟩):=hdn 8 _ 130 rfl (hl3 8 (by rfl)) rfl;clear hdn hl3;rw[dv1,dv8];clear dv1 dv8 gs18 gs19 gs20 gs21 gs22;have rr:=HCW2.o w' hb.o;refine Zab rfl ?_
           go_wp2_with fail
           exact Zaa ⟨_,rfl,Below.refl _ _,rfl⟩
          ·obtain rfl:=Option.some.inj hi
           have dv1:f' 123 = .bool true:=hdn 1 _ 123 rfl (hl3 1 (by rfl)) rfl;have dv5:f' 127 = .slice ro rn rc:=hdn 5 _ 127 rfl (hl3 5 (by rfl)) rfl;have dv9:f' 131 = .slice so rn sc:=hdn 9 _ 131 rfl (hl3 9 (by rfl)) rfl;clear hdn hl3;rw[dv1,dv5,dv9];clear dv1 dv5 dv9 gs18 gs19 gs20 gs21 gs22;refine Zab rfl ?_
           go_wp2_with fail
           refine (HSB.o w' hb.o).mono ?_;rintro e w4 ⟨rfl,b4⟩;have HB4:=ħ b4;clear b4
           go_wp2_with fail
           exact Zaa ⟨_,rfl,HB4.o,rfl⟩
          ·obtain rfl:=Option.some.inj hi
           have dv1:f' 123 = .bool true:=hdn 1 _ 123 rfl (hl3 1 (by rfl)) rfl;have dv10:f' 132 = .bool true:=hdn 10 _ 132 rfl (hl3 10 (by rfl)) rfl;clear hdn hl3;rw[dv1,dv10];clear dv1 dv10 gs18 gs19 gs20 gs21 gs22;refine Zab rfl ?_
           go_wp2_with fail
           exact Zaa ⟨_,rfl,Below.refl _ _,rfl⟩
          ·obtain rfl:=Option.some.inj hi
           have dv1:f' 123 = .bool true:=hdn 1 _ 123 rfl (hl3 1 (by rfl)) rfl;have dv11:f' 133 = .bool false:=hdn 11 _ 133 rfl (hl3 11 (by rfl)) rfl;clear hdn hl3;rw[dv1,dv11];clear dv1 dv11 gs18 gs19 gs20 gs21 gs22;refine Zab rfl ?_
           go_wp2_with fail
           exact Zaa ⟨_,rfl,Below.refl _ _,rfl⟩
          ·obtain rfl:=Option.some.inj hi
           have dv12:f' 134 = .bool false:=hdn 12 _ 134 rfl (hl3 12 (by rfl)) rfl;clear hdn hl3;rw[dv12];clear dv12 gs18 gs19 gs20 gs21 gs22;refine Zab rfl ?_
           go_wp2_with fail
           exact Zaa ⟨_,rfl,Below.refl _ _,rfl⟩
          ·obtain rfl:=Option.some.inj hi
           have dv13:f' 135 = .bool false:=hdn 13 _ 135 rfl (hl3 13 (by rfl)) rfl;clear hdn hl3;rw[gs18,dv13];clear dv13 gs18 gs19 gs20 gs21 gs22;refine Zab rfl ?_
           go_wp2_with fail
           exact Zaa ⟨_,rfl,Below.refl _ _,rfl⟩
          ·obtain rfl:=Option.some.inj hi
           have dv13:f' 135 = .bool false:=hdn 13 _ 135 rfl (hl3 13 (by rfl)) rfl;have dv14:f' 136 = .bool true:=hdn 14 _ 136 rfl (hl3 14 (by rfl)) rfl;clear hdn hl3;rw[dv13,dv14];clear dv13 dv14 gs18 gs19 gs20 gs21 gs22;refine Zab rfl ?_
           go_wp2_with fail
           exact Zaa ⟨_,rfl,Below.refl _ _,rfl⟩
          ·obtain rfl:=Option.some.inj hi
           have dv13:f' 135 = .bool false:=hdn 13 _ 135 rfl (hl3 13 (by rfl)) rfl;have dv15:f' 137 = .bool false:=hdn 15 _ 137 rfl (hl3 15 (by rfl)) rfl;clear hdn hl3;rw[dv13,dv15];clear dv13 dv15 gs18 gs19 gs20 gs21 gs22;refine Zab rfl ?_
           go_wp2_with fail
           exact Zaa ⟨_,rfl,Below.refl _ _,rfl⟩
          ·obtain rfl:=Option.some.inj hi
           have dv16:f' 138 = .bool false:=hdn 16 _ 138 rfl (hl3 16 (by rfl)) rfl;clear hdn hl3;rw[gs19,dv16];clear dv16 gs18 gs19 gs20 gs21 gs22;refine Zab rfl ?_
           go_wp2_with fail
           exact Zaa ⟨_,rfl,Below.refl _ _,rfl⟩
          ·obtain rfl:=Option.some.inj hi
           have dv16:f' 138 = .bool false:=hdn 16 _ 138 rfl (hl3 16 (by rfl)) rfl;clear hdn hl3;rw[gs22,dv16];clear dv16 gs18 gs19 gs20 gs21 gs22;refine Zab rfl ?_
           go_wp2_with fail
           exact Zaa ⟨_,rfl,Below.refl _ _,rfl⟩
          ·obtain rfl:=Option.some.inj hi
           have dv16:f' 138 = .bool false:=hdn 16 _ 138 rfl (hl3 16 (by rfl)) rfl;have dv17:f' 139=undef:=hdn 17 _ 139 rfl (hl3 17 (by rfl)) rfl;have dv18:f' 140=undef:=hdn 18 _ 140 rfl (hl3 18 (by rfl)) rfl;clear hdn hl3;rw[dv16,dv17,dv18];clear dv16 dv17 dv18 gs18 gs19 gs20 gs21 gs22;refine Zab rfl ?_
           go_wp2_with fail
           exact Zaa ⟨_,rfl,Below.refl _ _,rfl⟩
          ·obtain rfl:=Option.some.inj hi
           have dv16:f' 138 = .bool false:=hdn 16 _ 138 rfl (hl3 16 (by rfl)) rfl;have dv19:f' 141=undef:=hdn 19 _ 141 rfl (hl3 19 (by rfl)) rfl;clear hdn hl3;rw[dv16,dv19];clear dv16 dv19 gs18 gs19 gs20 gs21 gs22;refine Zab rfl ?_
           go_wp2_with fail
           exact Zaa ⟨_,rfl,Below.refl _ _,rfl⟩
          ·obtain rfl:=Option.some.inj hi
           have dv16:f' 138 = .bool false:=hdn 16 _ 138 rfl (hl3 16 (by rfl)) rfl;have dv20:f' 142=undef:=hdn 20 _ 142 rfl (hl3 20 (by rfl)) rfl;clear hdn hl3;rw[dv16,dv20];clear dv16 dv20 gs18 gs19 gs20 gs21 gs22;refine Zab rfl ?_
           go_wp2_with fail
           exact Zaa ⟨_,rfl,Below.refl _ _,rfl⟩
          ·obtain rfl:=Option.some.inj hi
           have dv16:f' 138 = .bool false:=hdn 16 _ 138 rfl (hl3 16 (by rfl)) rfl;have dv21:f' 143=undef:=hdn 21 _ 143 rfl (hl3 21 (by rfl)) rfl;clear hdn hl3;rw[dv16,dv21];clear dv16 dv21 gs18 gs19 gs20 gs21 gs22;refine Zab rfl ?_
           go_wp2_with fail
           exact Zaa ⟨_,rfl,Below.refl _ _,rfl⟩
          ·obtain rfl:=Option.some.inj hi
           have dv13:f' 135 = .bool false:=hdn 13 _ 135 rfl (hl3 13 (by rfl)) rfl;have dv16:f' 138 = .bool false:=hdn 16 _ 138 rfl (hl3 16 (by rfl)) rfl;have dv22:f' 144=undef:=hdn 22 _ 144 rfl (hl3 22 (by rfl)) rfl;clear hdn hl3;rw[dv13,dv16,dv22];clear dv13 dv16 dv22 gs18 gs19 gs20 gs21 gs22;refine Zab rfl ?_
           go_wp2_with fail
           exact Zaa ⟨_,rfl,Below.refl _ _,rfl⟩
          ·obtain rfl:=Option.some.inj hi
           have dv13:f' 135 = .bool false:=hdn 13 _ 135 rfl (hl3 13 (by rfl)) rfl;have dv23:f' 145 = .bool false:=hdn 23 _ 145 rfl (hl3 23 (by rfl)) rfl;clear hdn hl3;rw[dv13,dv23];clear dv13 dv23 gs18 gs19 gs20 gs21 gs22;refine Zab rfl ?_
           go_wp2_with fail
           exact Zaa ⟨_,rfl,Below.refl _ _,rfl⟩
         case he =>
          intro listed a' w4 H hall;have hd24:grT gl ol un lc ix rn rc gw ow na oc pk sc ro so 24 w4 (a'.tmps.getD 146 undef):=H.done 24 _ 146 rfl (hall 24 (by decide)) rfl;have hb4:=ħ H.below;have hact:=H.act [122,123,124,125,126,127,128,129,130,131,132,133,134,135,136,137,138,139,140,141,142,143,144,145,146] (Zcr (by kernel_rfl));clear H hall;simp only[List.foldl_cons,List.foldl_nil] at hact;generalize a'.tmps.getD 122 undef=z122 at *;generalize a'.tmps.getD 123 undef=z123 at *;generalize a'.tmps.getD 124 undef=z124 at *;generalize a'.tmps.getD 125 undef=z125 at *;generalize a'.tmps.getD 126 undef=z126 at *;generalize a'.tmps.getD 127 undef=z127 at *;generalize a'.tmps.getD 128 undef=z128 at *;generalize a'.tmps.getD 129 undef=z129 at *;generalize a'.tmps.getD 130 undef=z130 at *;generalize a'.tmps.getD 131 undef=z131 at *;generalize a'.tmps.getD 132 undef=z132 at *;generalize a'.tmps.getD 133 undef=z133 at *;generalize a'.tmps.getD 134 undef=z134 at *;generalize a'.tmps.getD 135 undef=z135 at *;generalize a'.tmps.getD 136 undef=z136 at *;generalize a'.tmps.getD 137 undef=z137 at *;generalize a'.tmps.getD 138 undef=z138 at *;generalize a'.tmps.getD 139 undef=z139 at *;generalize a'.tmps.getD 140 undef=z140 at *;generalize a'.tmps.getD 141 undef=z141 at *;generalize a'.tmps.getD 142 undef=z142 at *;generalize a'.tmps.getD 143 undef=z143 at *;generalize a'.tmps.getD 144 undef=z144 at *;generalize a'.tmps.getD 145 undef=z145 at *;generalize a'.tmps.getD 146 undef=z146 at *;subst hact;have e24:z146 = .bool false:=hd24;subst e24;clear hd24;simp only[Act.put,List.setIfInBounds_toArray,List.set_cons_succ,List.set_cons_zero];have L7:=ħ (LR.o.trans (hb4.o.mono LR.o.size));clear hb4 LR
          go_wp2_with fail
          go_roundw
          case rel=>exact⟨ix+1,by go_num,by go_num,by omega,L7⟩
          case measure=>simp only[intOf];omega
        | false =>
         rw[if_neg (by trivial)] at HCL HFL;rw[List.length_nil] at HCL;clear HFL HFW h65r;obtain⟨rn,hrn⟩:∃ n,r.length=n:=⟨_,rfl⟩;clear hrn;refine Zax (grN gl ol un lc ix rn rc gw ow na oc pk sc ro so) (by kernel_rfl) (Zq4 gl ol un lc ix rn rc gw ow na oc pk sc ro so) (Zcb (by kernel_rfl)) (Zfj (by kernel_rfl)) (Za4 (by kernel_rfl)) ?hs ?he
         case hs =>
          intro i o hi listed a' w' H hl2;have hl3:=Zap hl2;have hin:i<25:=(Array.getElem?_eq_some_iff.1 hi).1;have hb:=ħ H.below;have s18:=H.same 18 (Zaj (by kernel_rfl));have s19:=H.same 19 (Zaj (by kernel_rfl));have s20:=H.same 20 (Zaj (by kernel_rfl));have s21:=H.same 21 (Zaj (by kernel_rfl));have s22:=H.same 22 (Zaj (by kernel_rfl));have hdn:=H.done;have hdf:=H.defers;have hts:=H.tsize;clear hl2 H;obtain⟨t',df⟩:=a';obtain⟨f',rfl⟩:=Zq2 t' hts;have hdf':df=[]:=hdf;subst hdf';have gs18:f' 18 = .bool false:=s18;have gs19:f' 19 = .slice (some ⟨gl,ol,none⟩) un lc:=s19;have gs20:f' 20 = .slice (some ⟨gw,ow,none⟩) na oc:=s20;have gs21:f' 21 = .int .i64 (pk:Nat):=s21;have gs22:f' 22 = .int .i64 (ix:Nat):=s22;clear s18 s19 s20 s21 s22;clear hdf hts;have hcases:=Zfd i hin;clear hin;rcases hcases with rfl | rfl | rfl | rfl | rfl | rfl | rfl | rfl | rfl | rfl | rfl | rfl | rfl | rfl | rfl | rfl | rfl | rfl | rfl | rfl | rfl | rfl | rfl | rfl | rfl
          ·obtain rfl:=Option.some.inj hi
           clear hdn hl3;rw[gs18];clear gs18 gs19 gs20 gs21 gs22;refine Zab rfl ?_
           go_wp2_with fail
           exact Zaa ⟨_,rfl,Below.refl _ _,rfl⟩
          ·obtain rfl:=Option.some.inj hi
           have dv0:f' 122 = .bool false:=hdn 0 _ 122 rfl (hl3 0 (by rfl)) rfl;clear hdn hl3;rw[dv0];clear dv0 gs18 gs19 gs20 gs21 gs22;refine Zab rfl ?_
           go_wp2_with fail
           exact Zaa ⟨_,rfl,Below.refl _ _,rfl⟩
          ·obtain rfl:=Option.some.inj hi
           have dv1:f' 123 = .bool false:=hdn 1 _ 123 rfl (hl3 1 (by rfl)) rfl;clear hdn hl3;rw[gs19,dv1];clear dv1 gs18 gs19 gs20 gs21 gs22;refine Zab rfl ?_
           go_wp2_with fail
           exact Zaa ⟨_,rfl,Below.refl _ _,rfl⟩
          ·obtain rfl:=Option.some.inj hi
           have dv1:f' 123 = .bool false:=hdn 1 _ 123 rfl (hl3 1 (by rfl)) rfl;clear hdn hl3;rw[gs22,dv1];clear dv1 gs18 gs19 gs20 gs21 gs22;refine Zab rfl ?_
           go_wp2_with fail
           exact Zaa ⟨_,rfl,Below.refl _ _,rfl⟩
          ·obtain rfl:=Option.some.inj hi
           have dv1:f' 123 = .bool false:=hdn 1 _ 123 rfl (hl3 1 (by rfl)) rfl;have dv2:f' 124=undef:=hdn 2 _ 124 rfl (hl3 2 (by rfl)) rfl;have dv3:f' 125=undef:=hdn 3 _ 125 rfl (hl3 3 (by rfl)) rfl;clear hdn hl3;rw[dv1,dv2,dv3];clear dv1 dv2 dv3 gs18 gs19 gs20 gs21 gs22;refine Zab rfl ?_
           go_wp2_with fail
           exact Zaa ⟨_,rfl,Below.refl _ _,rfl⟩
          ·obtain rfl:=Option.some.inj hi
           have dv1:f' 123 = .bool false:=hdn 1 _ 123 rfl (hl3 1 (by rfl)) rfl;have dv4:f' 126=undef:=hdn 4 _ 126 rfl (hl3 4 (by rfl)) rfl;clear hdn hl3;rw[dv1,dv4];clear dv1 dv4 gs18 gs19 gs20 gs21 gs22;refine Zab rfl ?_
           go_wp2_with fail
           exact Zaa ⟨_,rfl,Below.refl _ _,rfl⟩
          ·obtain rfl:=Option.some.inj hi
           have dv1:f' 123 = .bool false:=hdn 1 _ 123 rfl (hl3 1 (by rfl)) rfl;clear hdn hl3;rw[gs20,dv1];clear dv1 gs18 gs19 gs20 gs21 gs22;refine Zab rfl ?_
           go_wp2_with fail
           exact Zaa ⟨_,rfl,Below.refl _ _,rfl⟩
          ·obtain rfl:=Option.some.inj hi
           have dv1:f' 123 = .bool false:=hdn 1 _ 123 rfl (hl3 1 (by rfl)) rfl;clear hdn hl3;rw[gs21,dv1];clear dv1 gs18 gs19 gs20 gs21 gs22;refine Zab rfl ?_
           go_wp2_with fail
           exact Zaa ⟨_,rfl,Below.refl _ _,rfl⟩
          ·obtain rfl:=Option.some.inj hi
           have dv1:f' 123 = .bool false:=hdn 1 _ 123 rfl (hl3 1 (by rfl)) rfl;have dv6:f' 128=undef:=hdn 6 _ 128 rfl (hl3 6 (by rfl)) rfl;have dv7:f' 129=undef:=hdn 7 _ 129 rfl (hl3 7 (by rfl)) rfl;clear hdn hl3;rw[dv1,dv6,dv7];clear dv1 dv6 dv7 gs18 gs19 gs20 gs21 gs22;refine Zab rfl ?_
           go_wp2_with fail
           exact Zaa ⟨_,rfl,Below.refl _ _,rfl⟩
          ·obtain rfl:=Option.some.inj hi
           have dv1:f' 123 = .bool false:=hdn 1 _ 123 rfl (hl3 1 (by rfl)) rfl;have dv8:f' 130=undef:=hdn 8 _ 130 rfl (hl3 8 (by rfl)) rfl;clear hdn hl3;rw[dv1,dv8];clear dv1 dv8 gs18 gs19 gs20 gs21 gs22;refine Zab rfl ?_
           go_wp2_with fail
           exact Zaa ⟨_,rfl,Below.refl _ _,rfl⟩
          ·obtain rfl:=Option.some.inj hi
           have dv1:f' 123 = .bool false:=hdn 1 _ 123 rfl (hl3 1 (by rfl)) rfl;have dv5:f' 127=undef:=hdn 5 _ 127 rfl (hl3 5 (by rfl)) rfl;have dv9:f' 131=undef:=hdn 9 _ 131 rfl (hl3 9 (by rfl)) rfl;clear hdn hl3;rw[dv1,dv5,dv9];clear dv1 dv5 dv9 gs18 gs19 gs20 gs21 gs22;refine Zab rfl ?_
           go_wp2_with fail
           exact Zaa ⟨_,rfl,Below.refl _ _,rfl⟩
          ·obtain rfl:=Option.some.inj hi
           have dv1:f' 123 = .bool false:=hdn 1 _ 123 rfl (hl3 1 (by rfl)) rfl;have dv10:f' 132=undef:=hdn 10 _ 132 rfl (hl3 10 (by rfl)) rfl;clear hdn hl3;rw[dv1,dv10];clear dv1 dv10 gs18 gs19 gs20 gs21 gs22;refine Zab rfl ?_
           go_wp2_with fail
           exact Zaa ⟨_,rfl,Below.refl _ _,rfl⟩
          ·obtain rfl:=Option.some.inj hi
           have dv1:f' 123 = .bool false:=hdn 1 _ 123 rfl (hl3 1 (by rfl)) rfl;have dv11:f' 133=undef:=hdn 11 _ 133 rfl (hl3 11 (by rfl)) rfl;clear hdn hl3;rw[dv1,dv11];clear dv1 dv11 gs18 gs19 gs20 gs21 gs22;refine Zab rfl ?_
           go_wp2_with fail
           exact Zaa ⟨_,rfl,Below.refl _ _,rfl⟩
          ·obtain rfl:=Option.some.inj hi
           have dv12:f' 134 = .bool false:=hdn 12 _ 134 rfl (hl3 12 (by rfl)) rfl;clear hdn hl3;rw[dv12];clear dv12 gs18 gs19 gs20 gs21 gs22;refine Zab rfl ?_
           go_wp2_with fail
           exact Zaa ⟨_,rfl,Below.refl _ _,rfl⟩
          ·obtain rfl:=Option.some.inj hi
           have dv13:f' 135 = .bool false:=hdn 13 _ 135 rfl (hl3 13 (by rfl)) rfl;clear hdn hl3;rw[gs18,dv13];clear dv13 gs18 gs19 gs20 gs21 gs22;refine Zab rfl ?_
           go_wp2_with fail
           exact Zaa ⟨_,rfl,Below.refl _ _,rfl⟩
          ·obtain rfl:=Option.some.inj hi
           have dv13:f' 135 = .bool false:=hdn 13 _ 135 rfl (hl3 13 (by rfl)) rfl;have dv14:f' 136 = .bool false:=hdn 14 _ 136 rfl (hl3 14 (by rfl)) rfl;clear hdn hl3;rw[dv13,dv14];clear dv13 dv14 gs18 gs19 gs20 gs21 gs22;refine Zab rfl ?_
           go_wp2_with fail
           exact Zaa ⟨_,rfl,Below.refl _ _,rfl⟩
          ·obtain rfl:=Option.some.inj hi
           have dv13:f' 135 = .bool false:=hdn 13 _ 135 rfl (hl3 13 (by rfl)) rfl;have dv15:f' 137 = .bool true:=hdn 15 _ 137 rfl (hl3 15 (by rfl)) rfl;clear hdn hl3;rw[dv13,dv15];clear dv13 dv15 gs18 gs19 gs20 gs21 gs22;refine Zab rfl ?_
           go_wp2_with fail
           exact Zaa ⟨_,rfl,Below.refl _ _,rfl⟩
          ·obtain rfl:=Option.some.inj hi
           have dv16:f' 138 = .bool true:=hdn 16 _ 138 rfl (hl3 16 (by rfl)) rfl;clear hdn hl3;rw[gs19,dv16];clear dv16 gs18 gs19 gs20 gs21 gs22;refine Zab rfl ?_
           go_wp2_with fail
           exact Zaa ⟨_,rfl,Below.refl _ _,rfl⟩
          ·obtain rfl:=Option.some.inj hi
           have dv16:f' 138 = .bool true:=hdn 16 _ 138 rfl (hl3 16 (by rfl)) rfl;clear hdn hl3;rw[gs22,dv16];clear dv16 gs18 gs19 gs20 gs21 gs22;refine Zab rfl ?_
           go_wp2_with fail
           exact Zaa ⟨_,rfl,Below.refl _ _,rfl⟩
          ·obtain rfl:=Option.some.inj hi
           have dv16:f' 138 = .bool true:=hdn 16 _ 138 rfl (hl3 16 (by rfl)) rfl;have dv17:f' 139 = .slice (some ⟨gl,ol,none⟩) un lc:=hdn 17 _ 139 rfl (hl3 17 (by rfl)) rfl;have dv18:f' 140 = .int .i64 (ix:Nat):=hdn 18 _ 140 rfl (hl3 18 (by rfl)) rfl;clear hdn hl3;rw[dv16,dv17,dv18];clear dv16 dv17 dv18 gs18 gs19 gs20 gs21 gs22;have ii:=HII.o;refine Zab rfl ?_
           go_wp2_with fail
           exact Zaa ⟨_,rfl,Below.refl _ _,rfl⟩
          ·obtain rfl:=Option.some.inj hi
           have dv16:f' 138 = .bool true:=hdn 16 _ 138 rfl (hl3 16 (by rfl)) rfl;have dv19:f' 141 = .pointer (some ⟨gl,ol+ix,none⟩):=hdn 19 _ 141 rfl (hl3 19 (by rfl)) rfl;clear hdn hl3;rw[dv16,dv19];clear dv16 dv19 gs18 gs19 gs20 gs21 gs22;have rr:=HCL.o w' hb.o;refine Zab rfl ?_
           go_wp2_with fail
           exact Zaa ⟨_,rfl,Below.refl _ _,rfl⟩
          ·obtain rfl:=Option.some.inj hi
           have dv16:f' 138 = .bool true:=hdn 16 _ 138 rfl (hl3 16 (by rfl)) rfl;have dv20:f' 142 = .slice ro 0 rc:=hdn 20 _ 142 rfl (hl3 20 (by rfl)) rfl;clear hdn hl3;rw[dv16,dv20];clear dv16 dv20 gs18 gs19 gs20 gs21 gs22;refine Zab rfl ?_
           go_wp2_with fail
           exact Zaa ⟨_,rfl,Below.refl _ _,rfl⟩
          ·obtain rfl:=Option.some.inj hi
           have dv16:f' 138 = .bool true:=hdn 16 _ 138 rfl (hl3 16 (by rfl)) rfl;have dv21:f' 143 = .int .i64 0:=hdn 21 _ 143 rfl (hl3 21 (by rfl)) rfl;clear hdn hl3;rw[dv16,dv21];clear dv16 dv21 gs18 gs19 gs20 gs21 gs22;refine Zab rfl ?_
           go_wp2_with fail
           exact Zaa ⟨_,rfl,Below.refl _ _,rfl⟩
          ·obtain rfl:=Option.some.inj hi
           have dv13:f' 135 = .bool false:=hdn 13 _ 135 rfl (hl3 13 (by rfl)) rfl;have dv16:f' 138 = .bool true:=hdn 16 _ 138 rfl (hl3 16 (by rfl)) rfl;have dv22:f' 144 = .bool false:=hdn 22 _ 144 rfl (hl3 22 (by rfl)) rfl;clear hdn hl3;rw[dv13,dv16,dv22];clear dv13 dv16 dv22 gs18 gs19 gs20 gs21 gs22;refine Zab rfl ?_
           go_wp2_with fail
           exact Zaa ⟨_,rfl,Below.refl _ _,rfl⟩
          ·obtain rfl:=Option.some.inj hi
           have dv13:f' 135 = .bool false:=hdn 13 _ 135 rfl (hl3 13 (by rfl)) rfl;have dv23:f' 145 = .bool false:=hdn 23 _ 145 rfl (hl3 23 (by rfl)) rfl;clear hdn hl3;rw[dv13,dv23];clear dv13 dv23 gs18 gs19 gs20 gs21 gs22;refine Zab rfl ?_
           go_wp2_with fail
           exact Zaa ⟨_,rfl,Below.refl _ _,rfl⟩
         case he =>
          intro listed a' w4 H hall;have hd24:grN gl ol un lc ix rn rc gw ow na oc pk sc ro so 24 w4 (a'.tmps.getD 146 undef):=H.done 24 _ 146 rfl (hall 24 (by decide)) rfl;have hb4:=ħ H.below;have hact:=H.act [122,123,124,125,126,127,128,129,130,131,132,133,134,135,136,137,138,139,140,141,142,143,144,145,146] (Zcr (by kernel_rfl));clear H hall;simp only[List.foldl_cons,List.foldl_nil] at hact;generalize a'.tmps.getD 122 undef=z122 at *;generalize a'.tmps.getD 123 undef=z123 at *;generalize a'.tmps.getD 124 undef=z124 at *;generalize a'.tmps.getD 125 undef=z125 at *;generalize a'.tmps.getD 126 undef=z126 at *;generalize a'.tmps.getD 127 undef=z127 at *;generalize a'.tmps.getD 128 undef=z128 at *;generalize a'.tmps.getD 129 undef=z129 at *;generalize a'.tmps.getD 130 undef=z130 at *;generalize a'.tmps.getD 131 undef=z131 at *;generalize a'.tmps.getD 132 undef=z132 at *;generalize a'.tmps.getD 133 undef=z133 at *;generalize a'.tmps.getD 134 undef=z134 at *;generalize a'.tmps.getD 135 undef=z135 at *;generalize a'.tmps.getD 136 undef=z136 at *;generalize a'.tmps.getD 137 undef=z137 at *;generalize a'.tmps.getD 138 undef=z138 at *;generalize a'.tmps.getD 139 undef=z139 at *;generalize a'.tmps.getD 140 undef=z140 at *;generalize a'.tmps.getD 141 undef=z141 at *;generalize a'.tmps.getD 142 undef=z142 at *;generalize a'.tmps.getD 143 undef=z143 at *;generalize a'.tmps.getD 144 undef=z144 at *;generalize a'.tmps.getD 145 undef=z145 at *;generalize a'.tmps.getD 146 undef=z146 at *;subst hact;have e24:z146 = .bool false:=hd24;subst e24;clear hd24;simp only[Act.put,List.setIfInBounds_toArray,List.set_cons_succ,List.set_cons_zero];have L7:=ħ (LR.o.trans (hb4.o.mono LR.o.size));clear hb4 LR
          go_wp2_with fail
          go_roundw
          case rel=>exact⟨ix+1,by go_num,by go_num,by omega,L7⟩
          case measure=>simp only[intOf];omega
       ·have hww:(x.w != ((wd:Nat):Int))=true:=by simpa using hxw
        have hpn:=HP0.o.no ix x hx hxw
        go_wp2_with fail
        go_roundw
        case rel=>exact⟨ix+1,by rw[hpn],by go_num,by omega,LR⟩
        case measure=>simp only[intOf];omega
      ·have ii:¬ (ix:Int)<un:=by omega
       obtain rfl:un=ix:=by omega
       have BF:=ħ (B6.o.trans (LR.o.mono B6.o.size));have hpe:=HPN.o;rw[hpe]
       have hnn:(((na:Nat):Int)==((na:Nat):Int))=true:=by simp
       have hrs:=HP0.o.rs rfl;by_cases hq:0<q
       ·have hqi:(0:Int)<((q:Nat):Int):=by omega
        obtain rfl:rest=true:=by rw[hrs,decide_eq_true hq]
        clear hrs
        go_wp2_with fail
        go_ret;exact⟨rfl,BF.o⟩
       ·have hqi:¬ (0:Int)<((q:Nat):Int):=by omega
        obtain rfl:rest=false:=by rw[hrs,decide_eq_false hq]
        clear hrs
        go_wp2_with fail
        go_ret;exact⟨rfl,BF.o⟩
    ·have he9:(((e9:Nat):Int)==0)=false:=by simpa using he0
     have he9n:(((e9:Nat):Int) != 0)=true:=by simpa using he0
     go_upto_region 18 with (fail)
     clear he9
     go_wp2_with (refine wpList_load_row rfl 26 (.tmp 2) rfl (w.heap.size) ?l18 26 #[.slice qo qn qc,.slice mo mn mc,.slice uo un uc] (0,0) _ XF.o Tryz.underlying26 rfl (Zaw _ _ _) ?_;(case l18=>rfl))
     have BF:=ħ (Bwb.o.trans (LF.o.mono Bwb.o.size));refine (HSC.o wf BF.o).mono ?_;rintro e w5 ⟨b5,lo,lc,rfl,hr5⟩;have L5:=ħ (LF.o.trans (b5.mono LF.o.size));have X5:=ħ (XF.o.step b5);have A5:=ħ (AF.o.step b5);have HR5:=ħ (fun W (hW:Below w5.heap.size w5 W)=>hr5.below hW);clear b5 hr5 XF AF LF BF HSC
     go_upto_region 19 with (fail)
     go_wp2_with (refine wpList_load_row rfl 26 (.tmp 7) rfl (Ab) ?l19 26 #[.slice qo qn qc,.slice mo mn mc,.slice ao nu ac] (0,0) _ A5.o Tryz.underlying26 rfl (Zaw _ _ _) ?_;(case l19=>rfl))
     refine (HSA.o w5 L5.o).mono ?_;rintro e w6 ⟨b6,wo,oc,rfl,hr6⟩;have L6:=ħ (L5.o.trans (b6.mono L5.o.size));have X6:=ħ (X5.o.step b6);have HR6:=ħ (fun W (hW:Below w6.heap.size w6 W)=>HR5.o W (b6.trans (hW.mono b6.size)));have HO6:=ħ (fun W (hW:Below w6.heap.size w6 W)=>hr6.below hW);have B6:=ħ (Bwb.o.trans (L6.o.mono Bwb.o.size));have HX6:=ħ (fun W (hW:Below w6.heap.size w6 W)=>X6.o.step hW);obtain⟨na,hna⟩:∃ n,OW.length=n:=⟨_,rfl⟩;have HNA:=ħ hna;rw[hna] at HNO;rw[hna];have HPN:=ħ HP0.o.pn;have HP00:=HP0.o.p0;rw[hna] at HPN;clear b6 hr6 hna X5 A5 L5 HR5 HSA Bwb L6 X6
     go_upto_region 22 with (fail)
     go_loopw [21,22] (fun kv iv wr=>∃ (ix:Nat),kv = .int .i64 (pw ix:Nat)∧iv = .int .i64 ix∧ix≤un∧Hid (Below w6.heap.size w6 wr)) (fun _ i _=>(un-intOf i).toNat)
     case atStart=>exact⟨0,by rw[HP00];rfl,rfl,by omega,ħ (Below.refl _ _)⟩
     case round =>
      clear HP00;obtain⟨ix,rfl,rfl,hi,LR⟩:=hrel;have e2:IntKind.i64.wrap ((ix:Int)+1)=((ix+1:Nat):Int):=IntWalk.i64_in _ (by omega);have c2:=(HX6.o wr LR.o).cell 2 _ rfl;by_cases hin:ix<un
      ·have ii:(ix:Int)<un:=by omega
       obtain⟨x,hx⟩:=HXG.o ix hin;obtain⟨gu,ou,huo,hgu,hcu⟩:=(HUF.o wr (B6.o.trans (LR.o.mono B6.o.size))).at Za2 ix x hx;have u1:=hcu 1 _ rfl;subst huo;clear hcu hgu;by_cases hxw:x.w=(wd:Int)
       ·obtain⟨hp1,r,hr,hlr,h65r⟩:=HP0.o.yes ix x hx hxw
        rw[hxw] at u1
        have hpk:pw ix<na:=by rw[← HNA.o];exact (List.getElem?_eq_some_iff.1 hr).1
        have hkj:IntKind.i64.wrap (((pw ix:Nat):Int)+1)=((pw (ix+1):Nat):Int):=by rw[hp1];exact IntWalk.i64_in _ (by have:=HNO.o;omega)
        obtain⟨pk,hpke⟩:∃ n,pw ix=n:=⟨_,rfl⟩;rw[hpke] at hr hpk hkj ⊢
        have kki:((pk:Nat):Int)<((na:Nat):Int):=by omega
        have hww:(((wd:Nat):Int) != ((wd:Nat):Int))=false:=by simp
        have huu:(((un:Nat):Int) != ((un:Nat):Int))=false:=by simp
        have hgeq:¬ ((pk:Nat):Int)≥((na:Nat):Int):=by omega
        obtain⟨gl,ol,ro,rc,hlo,hgl,hcl,hfl⟩:=(HR6.o wr LR.o).at ix _ hlr;obtain⟨gw,ow,so,sc,hwo,hgw,hcw,hfw⟩:=(HO6.o wr LR.o).at pk _ hr;have HLO:=ħ hlo;have HWO:=ħ hwo;have HII:=ħ ii;have HKI:=ħ kki;have HHX:=ħ hx;have HP1:=ħ hp1;have HCL:=ħ (fun W (hW:Below wr.heap.size wr W)=>(hW.cell (p:=⟨gl,ol+ix,none⟩) hgl).trans hcl);have HCW2:=ħ (fun W (hW:Below wr.heap.size wr W)=>(hW.cell (p:=⟨gw,ow+pk,none⟩) hgw).trans hcw);have HFL:=ħ hfl;have HFW:=ħ hfw;clear hlr hr hx hp1 hcl hcw hfl hfw hgl hgw hpke;subst hlo;subst hwo
        go_upto_region 27 with (fail)
        clear hww huu hgeq u1 c2
        cases rest with
        | true =>
         rw[if_pos (by trivial)] at HCL HFL;have HSB:=ħ (fun W (hW:Below wr.heap.size wr W)=>Zgk W r r ro so rc sc (HFL.o.below hW) (HFW.o.below hW) (by omega));rw[decide_eq_true rfl] at HSB;clear HFL HFW h65r;generalize r.length=rn at *;refine Zax (grT gl ol un lc ix rn rc gw ow na oc pk sc ro so) (by kernel_rfl) (Zq3 gl ol un lc ix rn rc gw ow na oc pk sc ro so) (Zcb (by kernel_rfl)) (Zfj (by kernel_rfl)) (Za4 (by kernel_rfl)) ?hs ?he
         case hs =>
          intro i o hi listed a' w' H hl2;have hl3:=Zap hl2;have hin:i<25:=(Array.getElem?_eq_some_iff.1 hi).1;have hb:=ħ H.below;have s18:=H.same 18 (Zaj (by kernel_rfl));have s19:=H.same 19 (Zaj (by kernel_rfl));have s20:=H.same 20 (Zaj (by kernel_rfl));have s21:=H.same 21 (Zaj (by kernel_rfl));have s22:=H.same 22 (Zaj (by kernel_rfl));have hdn:=H.done;have hdf:=H.defers;have hts:=H.tsize;clear hl2 H;obtain⟨t',df⟩:=a';obtain⟨f',rfl⟩:=Zq2 t' hts;have hdf':df=[]:=hdf;subst hdf';have gs18:f' 18 = .bool true:=s18;have gs19:f' 19 = .slice (some ⟨gl,ol,none⟩) un lc:=s19;have gs20:f' 20 = .slice (some ⟨gw,ow,none⟩) na oc:=s20;have gs21:f' 21 = .int .i64 (pk:Nat):=s21;have gs22:f' 22 = .int .i64 (ix:Nat):=s22;clear s18 s19 s20 s21 s22;clear hdf hts;have hcases:=Zfd i hin;clear hin;rcases hcases with rfl | rfl | rfl | rfl | rfl | rfl | rfl | rfl | rfl | rfl | rfl | rfl | rfl | rfl | rfl | rfl | rfl | rfl | rfl | rfl | rfl | rfl | rfl | rfl | rfl
          ·obtain rfl:=Option.some.inj hi
           clear hdn hl3;rw[gs18];clear gs18 gs19 gs20 gs21 gs22;refine Zab rfl ?_
           go_wp2_with fail
           exact Zaa ⟨_,rfl,Below.refl _ _,rfl⟩
          ·obtain rfl:=Option.some.inj hi
           have dv0:f' 122 = .bool true:=hdn 0 _ 122 rfl (hl3 0 (by rfl)) rfl;clear hdn hl3;rw[dv0];clear dv0 gs18 gs19 gs20 gs21 gs22;refine Zab rfl ?_
           go_wp2_with fail
           exact Zaa ⟨_,rfl,Below.refl _ _,rfl⟩
          ·obtain rfl:=Option.some.inj hi
           have dv1:f' 123 = .bool true:=hdn 1 _ 123 rfl (hl3 1 (by rfl)) rfl;clear hdn hl3;rw[gs19,dv1];clear dv1 gs18 gs19 gs20 gs21 gs22;refine Zab rfl ?_
           go_wp2_with fail
           exact Zaa ⟨_,rfl,Below.refl _ _,rfl⟩
          ·obtain rfl:=Option.some.inj hi
           have dv1:f' 123 = .bool true:=hdn 1 _ 123 rfl (hl3 1 (by rfl)) rfl;clear hdn hl3;rw[gs22,dv1];clear dv1 gs18 gs19 gs20 gs21 gs22;refine Zab rfl ?_
           go_wp2_with fail
           exact Zaa ⟨_,rfl,Below.refl _ _,rfl⟩
          ·obtain rfl:=Option.some.inj hi
           have dv1:f' 123 = .bool true:=hdn 1 _ 123 rfl (hl3 1 (by rfl)) rfl;have dv2:f' 124 = .slice (some ⟨gl,ol,none⟩) un lc:=hdn 2 _ 124 rfl (hl3 2 (by rfl)) rfl;have dv3:f' 125 = .int .i64 (ix:Nat):=hdn 3 _ 125 rfl (hl3 3 (by rfl)) rfl;clear hdn hl3;rw[dv1,dv2,dv3];clear dv1 dv2 dv3 gs18 gs19 gs20 gs21 gs22;have ii:=HII.o;refine Zab rfl ?_
           go_wp2_with fail
           exact Zaa ⟨_,rfl,Below.refl _ _,rfl⟩
          ·obtain rfl:=Option.some.inj hi
           have dv1:f' 123 = .bool true:=hdn 1 _ 123 rfl (hl3 1 (by rfl)) rfl;have dv4:f' 126 = .pointer (some ⟨gl,ol+ix,none⟩):=hdn 4 _ 126 rfl (hl3 4 (by rfl)) rfl;clear hdn hl3;rw[dv1,dv4];clear dv1 dv4 gs18 gs19 gs20 gs21 gs22;have rr:=HCL.o w' hb.o;refine Zab rfl ?_
           go_wp2_with fail
           exact Zaa ⟨_,rfl,Below.refl _ _,rfl⟩
          ·obtain rfl:=Option.some.inj hi
           have dv1:f' 123 = .bool true:=hdn 1 _ 123 rfl (hl3 1 (by rfl)) rfl;clear hdn hl3;rw[gs20,dv1];clear dv1 gs18 gs19 gs20 gs21 gs22;refine Zab rfl ?_
           go_wp2_with fail
           exact Zaa ⟨_,rfl,Below.refl _ _,rfl⟩
          ·obtain rfl:=Option.some.inj hi
           have dv1:f' 123 = .bool true:=hdn 1 _ 123 rfl (hl3 1 (by rfl)) rfl;clear hdn hl3;rw[gs21,dv1];clear dv1 gs18 gs19 gs20 gs21 gs22;refine Zab rfl ?_
           go_wp2_with fail
           exact Zaa ⟨_,rfl,Below.refl _ _,rfl⟩
          ·obtain rfl:=Option.some.inj hi
           have dv1:f' 123 = .bool true:=hdn 1 _ 123 rfl (hl3 1 (by rfl)) rfl;have dv6:f' 128 = .slice (some ⟨gw,ow,none⟩) na oc:=hdn 6 _ 128 rfl (hl3 6 (by rfl)) rfl;have dv7:f' 129 = .int .i64 (pk:Nat):=hdn 7 _ 129 rfl (hl3 7 (by rfl)) rfl;clear hdn hl3;rw[dv1,dv6,dv7];clear dv1 dv6 dv7 gs18 gs19 gs20 gs21 gs22;have ii:=HKI.o;refine Zab rfl ?_
           go_wp2_with fail
           exact Zaa ⟨_,rfl,Below.refl _ _,rfl⟩
          ·obtain rfl:=Option.some.inj hi
           have dv1:f' 123 = .bool true:=hdn 1 _ 123 rfl (hl3 1 (by rfl)) rfl;have dv8:f' 130 = .pointer (some ⟨gw,ow+pk,none⟩):=hdn 8 _ 130 rfl (hl3 8 (by rfl)) rfl;clear hdn hl3;rw[dv1,dv8];clear dv1 dv8 gs18 gs19 gs20 gs21 gs22;have rr:=HCW2.o w' hb.o;refine Zab rfl ?_
           go_wp2_with fail
           exact Zaa ⟨_,rfl,Below.refl _ _,rfl⟩
          ·obtain rfl:=Option.some.inj hi
           have dv1:f' 123 = .bool true:=hdn 1 _ 123 rfl (hl3 1 (by rfl)) rfl;have dv5:f' 127 = .slice ro rn rc:=hdn 5 _ 127 rfl (hl3 5 (by rfl)) rfl;have dv9:f' 131 = .slice so rn sc:=hdn 9 _ 131 rfl (hl3 9 (by rfl)) rfl;clear hdn hl3;rw[dv1,dv5,dv9];clear dv1 dv5 dv9 gs18 gs19 gs20 gs21 gs22;refine Zab rfl ?_
           go_wp2_with fail
           refine (HSB.o w' hb.o).mono ?_;rintro e w4 ⟨rfl,b4⟩;have HB4:=ħ b4;clear b4
           go_wp2_with fail
           exact Zaa ⟨_,rfl,HB4.o,rfl⟩
          ·obtain rfl:=Option.some.inj hi
           have dv1:f' 123 = .bool true:=hdn 1 _ 123 rfl (hl3 1 (by rfl)) rfl;have dv10:f' 132 = .bool true:=hdn 10 _ 132 rfl (hl3 10 (by rfl)) rfl;clear hdn hl3;rw[dv1,dv10];clear dv1 dv10 gs18 gs19 gs20 gs21 gs22;refine Zab rfl ?_
           go_wp2_with fail
           exact Zaa ⟨_,rfl,Below.refl _ _,rfl⟩
          ·obtain rfl:=Option.some.inj hi
           have dv1:f' 123 = .bool true:=hdn 1 _ 123 rfl (hl3 1 (by rfl)) rfl;have dv11:f' 133 = .bool false:=hdn 11 _ 133 rfl (hl3 11 (by rfl)) rfl;clear hdn hl3;rw[dv1,dv11];clear dv1 dv11 gs18 gs19 gs20 gs21 gs22;refine Zab rfl ?_
           go_wp2_with fail
           exact Zaa ⟨_,rfl,Below.refl _ _,rfl⟩
          ·obtain rfl:=Option.some.inj hi
           have dv12:f' 134 = .bool false:=hdn 12 _ 134 rfl (hl3 12 (by rfl)) rfl;clear hdn hl3;rw[dv12];clear dv12 gs18 gs19 gs20 gs21 gs22;refine Zab rfl ?_
           go_wp2_with fail
           exact Zaa ⟨_,rfl,Below.refl _ _,rfl⟩
          ·obtain rfl:=Option.some.inj hi
           have dv13:f' 135 = .bool false:=hdn 13 _ 135 rfl (hl3 13 (by rfl)) rfl;clear hdn hl3;rw[gs18,dv13];clear dv13 gs18 gs19 gs20 gs21 gs22;refine Zab rfl ?_
           go_wp2_with fail
           exact Zaa ⟨_,rfl,Below.refl _ _,rfl⟩
          ·obtain rfl:=Option.some.inj hi
           have dv13:f' 135 = .bool false:=hdn 13 _ 135 rfl (hl3 13 (by rfl)) rfl;have dv14:f' 136 = .bool true:=hdn 14 _ 136 rfl (hl3 14 (by rfl)) rfl;clear hdn hl3;rw[dv13,dv14];clear dv13 dv14 gs18 gs19 gs20 gs21 gs22;refine Zab rfl ?_
           go_wp2_with fail
           exact Zaa ⟨_,rfl,Below.refl _ _,rfl⟩
          ·obtain rfl:=Option.some.inj hi
           have dv13:f' 135 = .bool false:=hdn 13 _ 135 rfl (hl3 13 (by rfl)) rfl;have dv15:f' 137 = .bool false:=hdn 15 _ 137 rfl (hl3 15 (by rfl)) rfl;clear hdn hl3;rw[dv13,dv15];clear dv13 dv15 gs18 gs19 gs20 gs21 gs22;refine Zab rfl ?_
           go_wp2_with fail
           exact Zaa ⟨_,rfl,Below.refl _ _,rfl⟩
          ·obtain rfl:=Option.some.inj hi
           have dv16:f' 138 = .bool false:=hdn 16 _ 138 rfl (hl3 16 (by rfl)) rfl;clear hdn hl3;rw[gs19,dv16];clear dv16 gs18 gs19 gs20 gs21 gs22;refine Zab rfl ?_
           go_wp2_with fail
           exact Zaa ⟨_,rfl,Below.refl _ _,rfl⟩
          ·obtain rfl:=Option.some.inj hi
           have dv16:f' 138 = .bool false:=hdn 16 _ 138 rfl (hl3 16 (by rfl)) rfl;clear hdn hl3;rw[gs22,dv16];clear dv16 gs18 gs19 gs20 gs21 gs22;refine Zab rfl ?_
           go_wp2_with fail
           exact Zaa ⟨_,rfl,Below.refl _ _,rfl⟩
          ·obtain rfl:=Option.some.inj hi
           have dv16:f' 138 = .bool false:=hdn 16 _ 138 rfl (hl3 16 (by rfl)) rfl;have dv17:f' 139=undef:=hdn 17 _ 139 rfl (hl3 17 (by rfl)) rfl;have dv18:f' 140=undef:=hdn 18 _ 140 rfl (hl3 18 (by rfl)) rfl;clear hdn hl3;rw[dv16,dv17,dv18];clear dv16 dv17 dv18 gs18 gs19 gs20 gs21 gs22;refine Zab rfl ?_
           go_wp2_with fail
           exact Zaa ⟨_,rfl,Below.refl _ _,rfl⟩
          ·obtain rfl:=Option.some.inj hi
           have dv16:f' 138 = .bool false:=hdn 16 _ 138 rfl (hl3 16 (by rfl)) rfl;have dv19:f' 141=undef:=hdn 19 _ 141 rfl (hl3 19 (by rfl)) rfl;clear hdn hl3;rw[dv16,dv19];clear dv16 dv19 gs18 gs19 gs20 gs21 gs22;refine Zab rfl ?_
           go_wp2_with fail
           exact Zaa ⟨_,rfl,Below.refl _ _,rfl⟩
          ·obtain rfl:=Option.some.inj hi
           have dv16:f' 138 = .bool false:=hdn 16 _ 138 rfl (hl3 16 (by rfl)) rfl;have dv20:f' 142=undef:=hdn 20 _ 142 rfl (hl3 20 (by rfl)) rfl;clear hdn hl3;rw[dv16,dv20];clear dv16 dv20 gs18 gs19 gs20 gs21 gs22;refine Zab rfl ?_
           go_wp2_with fail
           exact Zaa ⟨_,rfl,Below.refl _ _,rfl⟩
          ·obtain rfl:=Option.some.inj hi
           have dv16:f' 138 = .bool false:=hdn 16 _ 138 rfl (hl3 16 (by rfl)) rfl;have dv21:f' 143=undef:=hdn 21 _ 143 rfl (hl3 21 (by rfl)) rfl;clear hdn hl3;rw[dv16,dv21];clear dv16 dv21 gs18 gs19 gs20 gs21 gs22;refine Zab rfl ?_
           go_wp2_with fail
           exact Zaa ⟨_,rfl,Below.refl _ _,rfl⟩
          ·obtain rfl:=Option.some.inj hi
           have dv13:f' 135 = .bool false:=hdn 13 _ 135 rfl (hl3 13 (by rfl)) rfl;have dv16:f' 138 = .bool false:=hdn 16 _ 138 rfl (hl3 16 (by rfl)) rfl;have dv22:f' 144=undef:=hdn 22 _ 144 rfl (hl3 22 (by rfl)) rfl;clear hdn hl3;rw[dv13,dv16,dv22];clear dv13 dv16 dv22 gs18 gs19 gs20 gs21 gs22;refine Zab rfl ?_
           go_wp2_with fail
           exact Zaa ⟨_,rfl,Below.refl _ _,rfl⟩
          ·obtain rfl:=Option.some.inj hi
           have dv13:f' 135 = .bool false:=hdn 13 _ 135 rfl (hl3 13 (by rfl)) rfl;have dv23:f' 145 = .bool false:=hdn 23 _ 145 rfl (hl3 23 (by rfl)) rfl;clear hdn hl3;rw[dv13,dv23];clear dv13 dv23 gs18 gs19 gs20 gs21 gs22;refine Zab rfl ?_
           go_wp2_with fail
           exact Zaa ⟨_,rfl,Below.refl _ _,rfl⟩
         case he =>
          intro listed a' w4 H hall;have hd24:grT gl ol un lc ix rn rc gw ow na oc pk sc ro so 24 w4 (a'.tmps.getD 146 undef):=H.done 24 _ 146 rfl (hall 24 (by decide)) rfl;have hb4:=ħ H.below;have hact:=H.act [122,123,124,125,126,127,128,129,130,131,132,133,134,135,136,137,138,139,140,141,142,143,144,145,146] (Zcr (by kernel_rfl));clear H hall;simp only[List.foldl_cons,List.foldl_nil] at hact;generalize a'.tmps.getD 122 undef=z122 at *;generalize a'.tmps.getD 123 undef=z123 at *;generalize a'.tmps.getD 124 undef=z124 at *;generalize a'.tmps.getD 125 undef=z125 at *;generalize a'.tmps.getD 126 undef=z126 at *;generalize a'.tmps.getD 127 undef=z127 at *;generalize a'.tmps.getD 128 undef=z128 at *;generalize a'.tmps.getD 129 undef=z129 at *;generalize a'.tmps.getD 130 undef=z130 at *;generalize a'.tmps.getD 131 undef=z131 at *;generalize a'.tmps.getD 132 undef=z132 at *;generalize a'.tmps.getD 133 undef=z133 at *;generalize a'.tmps.getD 134 undef=z134 at *;generalize a'.tmps.getD 135 undef=z135 at *;generalize a'.tmps.getD 136 undef=z136 at *;generalize a'.tmps.getD 137 undef=z137 at *;generalize a'.tmps.getD 138 undef=z138 at *;generalize a'.tmps.getD 139 undef=z139 at *;generalize a'.tmps.getD 140 undef=z140 at *;generalize a'.tmps.getD 141 undef=z141 at *;generalize a'.tmps.getD 142 undef=z142 at *;generalize a'.tmps.getD 143 undef=z143 at *;generalize a'.tmps.getD 144 undef=z144 at *;generalize a'.tmps.getD 145 undef=z145 at *;generalize a'.tmps.getD 146 undef=z146 at *;subst hact;have e24:z146 = .bool false:=hd24;subst e24;clear hd24;simp only[Act.put,List.setIfInBounds_toArray,List.set_cons_succ,List.set_cons_zero];have L7:=ħ (LR.o.trans (hb4.o.mono LR.o.size));clear hb4 LR
          go_wp2_with fail
          go_roundw
          case rel=>exact⟨ix+1,by go_num,by go_num,by omega,L7⟩
          case measure=>simp only[intOf];omega
        | false =>
         rw[if_neg (by trivial)] at HCL HFL;rw[List.length_nil] at HCL;clear HFL HFW h65r;obtain⟨rn,hrn⟩:∃ n,r.length=n:=⟨_,rfl⟩;clear hrn;refine Zax (grN gl ol un lc ix rn rc gw ow na oc pk sc ro so) (by kernel_rfl) (Zq4 gl ol un lc ix rn rc gw ow na oc pk sc ro so) (Zcb (by kernel_rfl)) (Zfj (by kernel_rfl)) (Za4 (by kernel_rfl)) ?hs ?he
         case hs =>
          intro i o hi listed a' w' H hl2;have hl3:=Zap hl2;have hin:i<25:=(Array.getElem?_eq_some_iff.1 hi).1;have hb:=ħ H.below;have s18:=H.same 18 (Zaj (by kernel_rfl));have s19:=H.same 19 (Zaj (by kernel_rfl));have s20:=H.same 20 (Zaj (by kernel_rfl));have s21:=H.same 21 (Zaj (by kernel_rfl));have s22:=H.same 22 (Zaj (by kernel_rfl));have hdn:=H.done;have hdf:=H.defers;have hts:=H.tsize;clear hl2 H;obtain⟨t',df⟩:=a';obtain⟨f',rfl⟩:=Zq2 t' hts;have hdf':df=[]:=hdf;subst hdf';have gs18:f' 18 = .bool false:=s18;have gs19:f' 19 = .slice (some ⟨gl,ol,none⟩) un lc:=s19;have gs20:f' 20 = .slice (some ⟨gw,ow,none⟩) na oc:=s20;have gs21:f' 21 = .int .i64 (pk:Nat):=s21;have gs22:f' 22 = .int .i64 (ix:Nat):=s22;clear s18 s19 s20 s21 s22;clear hdf hts;have hcases:=Zfd i hin;clear hin;rcases hcases with rfl | rfl | rfl | rfl | rfl | rfl | rfl | rfl | rfl | rfl | rfl | rfl | rfl | rfl | rfl | rfl | rfl | rfl | rfl | rfl | rfl | rfl | rfl | rfl | rfl
          ·obtain rfl:=Option.some.inj hi
           clear hdn hl3;rw[gs18];clear gs18 gs19 gs20 gs21 gs22;refine Zab rfl ?_
           go_wp2_with fail
           exact Zaa ⟨_,rfl,Below.refl _ _,rfl⟩
          ·obtain rfl:=Option.some.inj hi
           have dv0:f' 122 = .bool false:=hdn 0 _ 122 rfl (hl3 0 (by rfl)) rfl;clear hdn hl3;rw[dv0];clear dv0 gs18 gs19 gs20 gs21 gs22;refine Zab rfl ?_
           go_wp2_with fail
           exact Zaa ⟨_,rfl,Below.refl _ _,rfl⟩
          ·obtain rfl:=Option.some.inj hi
           have dv1:f' 123 = .bool false:=hdn 1 _ 123 rfl (hl3 1 (by rfl)) rfl;clear hdn hl3;rw[gs19,dv1];clear dv1 gs18 gs19 gs20 gs21 gs22;refine Zab rfl ?_
           go_wp2_with fail
           exact Zaa ⟨_,rfl,Below.refl _ _,rfl⟩
          ·obtain rfl:=Option.some.inj hi
           have dv1:f' 123 = .bool false:=hdn 1 _ 123 rfl (hl3 1 (by rfl)) rfl;clear hdn hl3;rw[gs22,dv1];clear dv1 gs18 gs19 gs20 gs21 gs22;refine Zab rfl ?_
           go_wp2_with fail
           exact Zaa ⟨_,rfl,Below.refl _ _,rfl⟩
          ·obtain rfl:=Option.some.inj hi
           have dv1:f' 123 = .bool false:=hdn 1 _ 123 rfl (hl3 1 (by rfl)) rfl;have dv2:f' 124=undef:=hdn 2 _ 124 rfl (hl3 2 (by rfl)) rfl;have dv3:f' 125=undef:=hdn 3 _ 125 rfl (hl3 3 (by rfl)) rfl;clear hdn hl3;rw[dv1,dv2,dv3];clear dv1 dv2 dv3 gs18 gs19 gs20 gs21 gs22;refine Zab rfl ?_
           go_wp2_with fail
           exact Zaa ⟨_,rfl,Below.refl _ _,rfl⟩
          ·obtain rfl:=Option.some.inj hi
           have dv1:f' 123 = .bool false:=hdn 1 _ 123 rfl (hl3 1 (by rfl)) rfl;have dv4:f' 126=undef:=hdn 4 _ 126 rfl (hl3 4 (by rfl)) rfl;clear hdn hl3;rw[dv1,dv4];clear dv1 dv4 gs18 gs19 gs20 gs21 gs22;refine Zab rfl ?_
           go_wp2_with fail
           exact Zaa ⟨_,rfl,Below.refl _ _,rfl⟩
          ·obtain rfl:=Option.some.inj hi
           have dv1:f' 123 = .bool false:=hdn 1 _ 123 rfl (hl3 1 (by rfl)) rfl;clear hdn hl3;rw[gs20,dv1];clear dv1 gs18 gs19 gs20 gs21 gs22;refine Zab rfl ?_
           go_wp2_with fail
           exact Zaa ⟨_,rfl,Below.refl _ _,rfl⟩
          ·obtain rfl:=Option.some.inj hi
           have dv1:f' 123 = .bool false:=hdn 1 _ 123 rfl (hl3 1 (by rfl)) rfl;clear hdn hl3;rw[gs21,dv1];clear dv1 gs18 gs19 gs20 gs21 gs22;refine Zab rfl ?_
           go_wp2_with fail
           exact Zaa ⟨_,rfl,Below.refl _ _,rfl⟩
          ·obtain rfl:=Option.some.inj hi
           have dv1:f' 123 = .bool false:=hdn 1 _ 123 rfl (hl3 1 (by rfl)) rfl;have dv6:f' 128=undef:=hdn 6 _ 128 rfl (hl3 6 (by rfl)) rfl;have dv7:f' 129=undef:=hdn 7 _ 129 rfl (hl3 7 (by rfl)) rfl;clear hdn hl3;rw[dv1,dv6,dv7];clear dv1 dv6 dv7 gs18 gs19 gs20 gs21 gs22;refine Zab rfl ?_
           go_wp2_with fail
           exact Zaa ⟨_,rfl,Below.refl _ _,rfl⟩
          ·obtain rfl:=Option.some.inj hi
           have dv1:f' 123 = .bool false:=hdn 1 _ 123 rfl (hl3 1 (by rfl)) rfl;have dv8:f' 130=undef:=hdn 8 _ 130 rfl (hl3 8 (by rfl)) rfl;clear hdn hl3;rw[dv1,dv8];clear dv1 dv8 gs18 gs19 gs20 gs21 gs22;refine Zab rfl ?_
           go_wp2_with fail
           exact Zaa ⟨_,rfl,Below.refl _ _,rfl⟩
          ·obtain rfl:=Option.some.inj hi
           have dv1:f' 123 = .bool false:=hdn 1 _ 123 rfl (hl3 1 (by rfl)) rfl;have dv5:f' 127=undef:=hdn 5 _ 127 rfl (hl3 5 (by rfl)) rfl;have dv9:f' 131=undef:=hdn 9 _ 131 rfl (hl3 9 (by rfl)) rfl;clear hdn hl3;rw[dv1,dv5,dv9];clear dv1 dv5 dv9 gs18 gs19 gs20 gs21 gs22;refine Zab rfl ?_
           go_wp2_with fail
           exact Zaa ⟨_,rfl,Below.refl _ _,rfl⟩
          ·obtain rfl:=Option.some.inj hi
           have dv1:f' 123 = .bool false:=hdn 1 _ 123 rfl (hl3 1 (by rfl)) rfl;have dv10:f' 132=undef:=hdn 10 _ 132 rfl (hl3 10 (by rfl)) rfl;clear hdn hl3;rw[dv1,dv10];clear dv1 dv10 gs18 gs19 gs20 gs21 gs22;refine Zab rfl ?_
           go_wp2_with fail
           exact Zaa ⟨_,rfl,Below.refl _ _,rfl⟩
          ·obtain rfl:=Option.some.inj hi
           have dv1:f' 123 = .bool false:=hdn 1 _ 123 rfl (hl3 1 (by rfl)) rfl;have dv11:f' 133=undef:=hdn 11 _ 133 rfl (hl3 11 (by rfl)) rfl;clear hdn hl3;rw[dv1,dv11];clear dv1 dv11 gs18 gs19 gs20 gs21 gs22;refine Zab rfl ?_
           go_wp2_with fail
           exact Zaa ⟨_,rfl,Below.refl _ _,rfl⟩
          ·obtain rfl:=Option.some.inj hi
           have dv12:f' 134 = .bool false:=hdn 12 _ 134 rfl (hl3 12 (by rfl)) rfl;clear hdn hl3;rw[dv12];clear dv12 gs18 gs19 gs20 gs21 gs22;refine Zab rfl ?_
           go_wp2_with fail
           exact Zaa ⟨_,rfl,Below.refl _ _,rfl⟩
          ·obtain rfl:=Option.some.inj hi
           have dv13:f' 135 = .bool false:=hdn 13 _ 135 rfl (hl3 13 (by rfl)) rfl;clear hdn hl3;rw[gs18,dv13];clear dv13 gs18 gs19 gs20 gs21 gs22;refine Zab rfl ?_
           go_wp2_with fail
           exact Zaa ⟨_,rfl,Below.refl _ _,rfl⟩
          ·obtain rfl:=Option.some.inj hi
           have dv13:f' 135 = .bool false:=hdn 13 _ 135 rfl (hl3 13 (by rfl)) rfl;have dv14:f' 136 = .bool false:=hdn 14 _ 136 rfl (hl3 14 (by rfl)) rfl;clear hdn hl3;rw[dv13,dv14];clear dv13 dv14 gs18 gs19 gs20 gs21 gs22;refine Zab rfl ?_
           go_wp2_with fail
           exact Zaa ⟨_,rfl,Below.refl _ _,rfl⟩
          ·obtain rfl:=Option.some.inj hi
           have dv13:f' 135 = .bool false:=hdn 13 _ 135 rfl (hl3 13 (by rfl)) rfl;have dv15:f' 137 = .bool true:=hdn 15 _ 137 rfl (hl3 15 (by rfl)) rfl;clear hdn hl3;rw[dv13,dv15];clear dv13 dv15 gs18 gs19 gs20 gs21 gs22;refine Zab rfl ?_
           go_wp2_with fail
           exact Zaa ⟨_,rfl,Below.refl _ _,rfl⟩
          ·obtain rfl:=Option.some.inj hi
           have dv16:f' 138 = .bool true:=hdn 16 _ 138 rfl (hl3 16 (by rfl)) rfl;clear hdn hl3;rw[gs19,dv16];clear dv16 gs18 gs19 gs20 gs21 gs22;refine Zab rfl ?_
           go_wp2_with fail
           exact Zaa ⟨_,rfl,Below.refl _ _,rfl⟩
          ·obtain rfl:=Option.some.inj hi
           have dv16:f' 138 = .bool true:=hdn 16 _ 138 rfl (hl3 16 (by rfl)) rfl;clear hdn hl3;rw[gs22,dv16];clear dv16 gs18 gs19 gs20 gs21 gs22;refine Zab rfl ?_
           go_wp2_with fail
           exact Zaa ⟨_,rfl,Below.refl _ _,rfl⟩
          ·obtain rfl:=Option.some.inj hi
           have dv16:f' 138 = .bool true:=hdn 16 _ 138 rfl (hl3 16 (by rfl)) rfl;have dv17:f' 139 = .slice (some ⟨gl,ol,none⟩) un lc:=hdn 17 _ 139 rfl (hl3 17 (by rfl)) rfl;have dv18:f' 140 = .int .i64 (ix:Nat):=hdn 18 _ 140 rfl (hl3 18 (by rfl)) rfl;clear hdn hl3;rw[dv16,dv17,dv18];clear dv16 dv17 dv18 gs18 gs19 gs20 gs21 gs22;have ii:=HII.o;refine Zab rfl ?_
           go_wp2_with fail
           exact Zaa ⟨_,rfl,Below.refl _ _,rfl⟩
          ·obtain rfl:=Option.some.inj hi
           have dv16:f' 138 = .bool true:=hdn 16 _ 138 rfl (hl3 16 (by rfl)) rfl;have dv19:f' 141 = .pointer (some ⟨gl,ol+ix,none⟩):=hdn 19 _ 141 rfl (hl3 19 (by rfl)) rfl;clear hdn hl3;rw[dv16,dv19];clear dv16 dv19 gs18 gs19 gs20 gs21 gs22;have rr:=HCL.o w' hb.o;refine Zab rfl ?_
           go_wp2_with fail
           exact Zaa ⟨_,rfl,Below.refl _ _,rfl⟩
          ·obtain rfl:=Option.some.inj hi
           have dv16:f' 138 = .bool true:=hdn 16 _ 138 rfl (hl3 16 (by rfl)) rfl;have dv20:f' 142 = .slice ro 0 rc:=hdn 20 _ 142 rfl (hl3 20 (by rfl)) rfl;clear hdn hl3;rw[dv16,dv20];clear dv16 dv20 gs18 gs19 gs20 gs21 gs22;refine Zab rfl ?_
           go_wp2_with fail
           exact Zaa ⟨_,rfl,Below.refl _ _,rfl⟩
          ·obtain rfl:=Option.some.inj hi
           have dv16:f' 138 = .bool true:=hdn 16 _ 138 rfl (hl3 16 (by rfl)) rfl;have dv21:f' 143 = .int .i64 0:=hdn 21 _ 143 rfl (hl3 21 (by rfl)) rfl;clear hdn hl3;rw[dv16,dv21];clear dv16 dv21 gs18 gs19 gs20 gs21 gs22;refine Zab rfl ?_
           go_wp2_with fail
           exact Zaa ⟨_,rfl,Below.refl _ _,rfl⟩
          ·obtain rfl:=Option.some.inj hi
           have dv13:f' 135 = .bool false:=hdn 13 _ 135 rfl (hl3 13 (by rfl)) rfl;have dv16:f' 138 = .bool true:=hdn 16 _ 138 rfl (hl3 16 (by rfl)) rfl;have dv22:f' 144 = .bool false:=hdn 22 _ 144 rfl (hl3 22 (by rfl)) rfl;clear hdn hl3;rw[dv13,dv16,dv22];clear dv13 dv16 dv22 gs18 gs19 gs20 gs21 gs22;refine Zab rfl ?_
           go_wp2_with fail
           exact Zaa ⟨_,rfl,Below.refl _ _,rfl⟩
          ·obtain rfl:=Option.some.inj hi
           have dv13:f' 135 = .bool false:=hdn 13 _ 135 rfl (hl3 13 (by rfl)) rfl;have dv23:f' 145 = .bool false:=hdn 23 _ 145 rfl (hl3 23 (by rfl)) rfl;clear hdn hl3;rw[dv13,dv23];clear dv13 dv23 gs18 gs19 gs20 gs21 gs22;refine Zab rfl ?_
           go_wp2_with fail
           exact Zaa ⟨_,rfl,Below.refl _ _,rfl⟩
         case he =>
          intro listed a' w4 H hall;have hd24:grN gl ol un lc ix rn rc gw ow na oc pk sc ro so 24 w4 (a'.tmps.getD 146 undef):=H.done 24 _ 146 rfl (hall 24 (by decide)) rfl;have hb4:=ħ H.below;have hact:=H.act [122,123,124,125,126,127,128,129,130,131,132,133,134,135,136,137,138,139,140,141,142,143,144,145,146] (Zcr (by kernel_rfl));clear H hall;simp only[List.foldl_cons,List.foldl_nil] at hact;generalize a'.tmps.getD 122 undef=z122 at *;generalize a'.tmps.getD 123 undef=z123 at *;generalize a'.tmps.getD 124 undef=z124 at *;generalize a'.tmps.getD 125 undef=z125 at *;generalize a'.tmps.getD 126 undef=z126 at *;generalize a'.tmps.getD 127 undef=z127 at *;generalize a'.tmps.getD 128 undef=z128 at *;generalize a'.tmps.getD 129 undef=z129 at *;generalize a'.tmps.getD 130 undef=z130 at *;generalize a'.tmps.getD 131 undef=z131 at *;generalize a'.tmps.getD 132 undef=z132 at *;generalize a'.tmps.getD 133 undef=z133 at *;generalize a'.tmps.getD 134 undef=z134 at *;generalize a'.tmps.getD 135 undef=z135 at *;generalize a'.tmps.getD 136 undef=z136 at *;generalize a'.tmps.getD 137 undef=z137 at *;generalize a'.tmps.getD 138 undef=z138 at *;generalize a'.tmps.getD 139 undef=z139 at *;generalize a'.tmps.getD 140 undef=z140 at *;generalize a'.tmps.getD 141 undef=z141 at *;generalize a'.tmps.getD 142 undef=z142 at *;generalize a'.tmps.getD 143 undef=z143 at *;generalize a'.tmps.getD 144 undef=z144 at *;generalize a'.tmps.getD 145 undef=z145 at *;generalize a'.tmps.getD 146 undef=z146 at *;subst hact;have e24:z146 = .bool false:=hd24;subst e24;clear hd24;simp only[Act.put,List.setIfInBounds_toArray,List.set_cons_succ,List.set_cons_zero];have L7:=ħ (LR.o.trans (hb4.o.mono LR.o.size));clear hb4 LR
          go_wp2_with fail
          go_roundw
          case rel=>exact⟨ix+1,by go_num,by go_num,by omega,L7⟩
          case measure=>simp only[intOf];omega
       ·have hww:(x.w != ((wd:Nat):Int))=true:=by simpa using hxw
        have hpn:=HP0.o.no ix x hx hxw
        go_wp2_with fail
        go_roundw
        case rel=>exact⟨ix+1,by rw[hpn],by go_num,by omega,LR⟩
        case measure=>simp only[intOf];omega
      ·have ii:¬ (ix:Int)<un:=by omega
       obtain rfl:un=ix:=by omega
       have BF:=ħ (B6.o.trans (LR.o.mono B6.o.size));have hpe:=HPN.o;rw[hpe]
       have hnn:(((na:Nat):Int)==((na:Nat):Int))=true:=by simp
       go_wp2_with fail
       go_ret;exact⟨rfl,BF.o⟩
end Go.Proofs.YtbcgocpihobjnaaGreatDoor
