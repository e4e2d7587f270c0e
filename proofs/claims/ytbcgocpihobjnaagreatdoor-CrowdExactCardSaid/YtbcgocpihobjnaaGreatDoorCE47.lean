import Derived.Test.YtbcgocpihobjnaaGreatDoorCE46
set_option linter.all false
set_option maxHeartbeats 32000000
set_option maxRecDepth 100000
namespace Go.Proofs.YtbcgocpihobjnaaGreatDoor
open Go.RowKit Go.Sort Go.Maps
theorem Z0g (t:Array Value) (h:t.size=245):∃ f:Nat→Value,t=#[f 0,f 1,f 2,f 3,f 4,f 5,f 6,f 7,f 8,f 9,f 10,f 11,f 12,f 13,f 14,f 15,f 16,f 17,f 18,f 19,f 20,f 21,f 22,f 23,f 24,f 25,f 26,f 27,f 28,f 29,f 30,f 31,f 32,f 33,f 34,f 35,f 36,f 37,f 38,f 39,f 40,f 41,f 42,f 43,f 44,f 45,f 46,f 47,f 48,f 49,f 50,f 51,f 52,f 53,f 54,f 55,f 56,f 57,f 58,f 59,f 60,f 61,f 62,f 63,f 64,f 65,f 66,f 67,f 68,f 69,f 70,f 71,f 72,f 73,f 74,f 75,f 76,f 77,f 78,f 79,f 80,f 81,f 82,f 83,f 84,f 85,f 86,f 87,f 88,f 89,f 90,f 91,f 92,f 93,f 94,f 95,f 96,f 97,f 98,f 99,f 100,f 101,f 102,f 103,f 104,f 105,f 106,f 107,f 108,f 109,f 110,f 111,f 112,f 113,f 114,f 115,f 116,f 117,f 118,f 119,f 120,f 121,f 122,f 123,f 124,f 125,f 126,f 127,f 128,f 129,f 130,f 131,f 132,f 133,f 134,f 135,f 136,f 137,f 138,f 139,f 140,f 141,f 142,f 143,f 144,f 145,f 146,f 147,f 148,f 149,f 150,f 151,f 152,f 153,f 154,f 155,f 156,f 157,f 158,f 159,f 160,f 161,f 162,f 163,f 164,f 165,f 166,f 167,f 168,f 169,f 170,f 171,f 172,f 173,f 174,f 175,f 176,f 177,f 178,f 179,f 180,f 181,f 182,f 183,f 184,f 185,f 186,f 187,f 188,f 189,f 190,f 191,f 192,f 193,f 194,f 195,f 196,f 197,f 198,f 199,f 200,f 201,f 202,f 203,f 204,f 205,f 206,f 207,f 208,f 209,f 210,f 211,f 212,f 213,f 214,f 215,f 216,f 217,f 218,f 219,f 220,f 221,f 222,f 223,f 224,f 225,f 226,f 227,f 228,f 229,f 230,f 231,f 232,f 233,f 234,f 235,f 236,f 237,f 238,f 239,f 240,f 241,f 242,f 243,f 244]:=by
 obtain⟨l⟩:=t;have hl:l.length=245:=h
 have e:l=(List.range 245).map (fun i=>l.getD i undef):=by
  apply List.ext_getElem
  ·simp[hl]
  ·intro i h1 h2
   simp[List.getD,h1]
 exact⟨fun i=>l.getD i undef,congrArg List.toArray e⟩
def Z0h (WS CK CB un ix m ac gu ou uc B1:Nat) (ao qo mo uo:Option Addr) (qn qc mn mc:Nat) (y0 y1 y2 y3:Int) (bb:Bool) (pre:List Bool) (i:Nat) (W:World) (v:Value):Prop:=match i with
 | 0=>v = .slice (some ⟨CK,0,none⟩) un un
 | 1=>v = .int .i64 (ix:Nat)
 | 2=>v = .slice (some ⟨CK,0,none⟩) un un
 | 3=>v = .int .i64 (ix:Nat)
 | 4=>v = .pointer (some ⟨CK,ix,none⟩)
 | 5=>v = .slice ao m ac
 | 6=>v = .agg #[.slice qo qn qc,.slice mo mn mc,.slice uo un uc]
 | 7=>v = .pointer (some ⟨CB,2,none⟩)
 | 8=>v = .slice uo un uc
 | 9=>v = .int .i64 (ix:Nat)
 | 10=>v = .pointer (some ⟨gu,ou+ix*4,none⟩)
 | 11=>v = .agg #[.int .i64 y0,.int .i64 y1,.int .i64 y2,.int .i64 y3]
 | 12=>v = .int .i64 (m:Nat)
 | 13=>v = .bool bb
 | 14=>∃ V,v = .slice (some ⟨V,0,none⟩) 1 1∧WS≤V∧Zaf W V 4 [.bool bb]
 | 15=>∃ g5 off5 c5,v = .slice (some ⟨g5,off5,none⟩) (m+1) c5∧OwnK W B1 1 (m+1) c5 (bvs pre++[.bool bb]) (some ⟨g5,off5,none⟩)
 | 16=>v = .pointer (some ⟨CK,ix,none⟩)
 | _=>True
theorem Zo0 (WS CK CB un ix m ac gu ou uc B1:Nat) (ao qo mo uo:Option Addr) (qn qc mn mc:Nat) (y0 y1 y2 y3:Int) (bb:Bool) (pre:List Bool):∀ i w w' v,Z0h WS CK CB un ix m ac gu ou uc B1 ao qo mo uo qn qc mn mc y0 y1 y2 y3 bb pre i w v→Below w.heap.size w w'→Z0h WS CK CB un ix m ac gu ou uc B1 ao qo mo uo qn qc mn mc y0 y1 y2 y3 bb pre i w' v:=by
 intro i w w' v h hb
 match i with
 | 0=>exact h
 | 1=>exact h
 | 2=>exact h
 | 3=>exact h
 | 4=>exact h
 | 5=>exact h
 | 6=>exact h
 | 7=>exact h
 | 8=>exact h
 | 9=>exact h
 | 10=>exact h
 | 11=>exact h
 | 12=>exact h
 | 13=>exact h
 | 14=>obtain⟨V,h1,h2,h3⟩:=h;exact⟨V,h1,h2,h3.step hb⟩
 | 15=>obtain⟨g5,off5,c5,h1,h2⟩:=h;exact⟨g5,off5,c5,h1,h2.below hb⟩
 | 16=>exact h
 | k+17=>trivial
def Z2w (SB un ix gl rbk mn d v0:Nat) (i:Nat) (W:World) (v:Value):Prop:=match i with
 | 0=>v = .slice (some ⟨SB,0,none⟩) un un
 | 1=>v = .int .i64 (ix:Nat)
 | 2=>v = .pointer (some ⟨SB,ix,none⟩)
 | 3=>v = .slice (some ⟨rbk,0,none⟩) mn mn
 | 4=>v = .slice (some ⟨gl,0,none⟩) un un
 | 5=>v = .int .i64 (ix:Nat)
 | 6=>v = .pointer (some ⟨gl,ix,none⟩)
 | 7=>v = .int .i64 (d:Nat)
 | 8=>v = .pointer (some ⟨rbk,d,none⟩)
 | 9=>v = .int .i64 (v0:Nat)
 | 10=>v = .int .i64 ((v0:Int)+1)
 | 11=>v = .pointer (some ⟨rbk,d,none⟩)
 | _=>True
theorem Zw5 (SB un ix gl rbk mn d v0:Nat):∀ i w w' v,Z2w SB un ix gl rbk mn d v0 i w v→Below w.heap.size w w'→Z2w SB un ix gl rbk mn d v0 i w' v:=by
 intro i w w' v h hb
 match i with
 | 0=>exact h
 | 1=>exact h
 | 2=>exact h
 | 3=>exact h
 | 4=>exact h
 | 5=>exact h
 | 6=>exact h
 | 7=>exact h
 | 8=>exact h
 | 9=>exact h
 | 10=>exact h
 | 11=>exact h
 | k+12=>trivial
def Zw6 (N:Nat):List Value:=List.replicate N (.slice none 0 0)
theorem Zld (N:Nat):madeCells #[Value.slice none 0 0] N=(Zw6 N).toArray:=Zw1 N
theorem Zi9 {w w':World} {B k n cap:Nat} {xs:List Value} {ao:Option Addr} (hO:OwnK w B k n cap xs ao) (hg:w.grownBy w' (blk ao)) (hB:B≤w.heap.size):Below B w w':=⟨hg.os,hg.tape,hg.output,hg.size,fun i hi=>hg.block i (Nat.lt_of_lt_of_le hi hB) (fun e=>by
 have:=(hO.blk_lt e.symm).1
 omega)⟩
theorem Zo1 (WS CK CB un ix m ac gu ou uc B1:Nat) (ao qo mo uo:Option Addr) (qn qc mn mc:Nat) (y0 y1 y2 y3:Int) (bb:Bool) (pre:List Bool) (w w':World) (hg:w.grownBy w' (blk ao)) (hao:∀ g,blk ao=some g→g<WS):∀ j v,j≠15→Z0h WS CK CB un ix m ac gu ou uc B1 ao qo mo uo qn qc mn mc y0 y1 y2 y3 bb pre j w v→Z0h WS CK CB un ix m ac gu ou uc B1 ao qo mo uo qn qc mn mc y0 y1 y2 y3 bb pre j w' v:=by
 intro j v hj h
 match j with
 | 0=>exact h
 | 1=>exact h
 | 2=>exact h
 | 3=>exact h
 | 4=>exact h
 | 5=>exact h
 | 6=>exact h
 | 7=>exact h
 | 8=>exact h
 | 9=>exact h
 | 10=>exact h
 | 11=>exact h
 | 12=>exact h
 | 13=>exact h
 | 14 =>
  obtain⟨V,h1,h2,h3⟩:=h;exact⟨V,h1,h2,h3.grownBy hg (fun e=>by have:=hao V e;omega)⟩
 | 15=>exact absurd rfl hj
 | 16=>exact h
 | k+17=>trivial
theorem Zs3 (w:World) (c:Crw) (cs:List Value) (B:Nat) (hcw:Zfu w c cs) (hG:Tab w B) (hL:LenC c) (hby:∀ p∈c.qs,ByL p) (hnm:∀ m∈c.ms,∀ b∈m.b,NmL b.n) :
  Calls Tryz.prog 16 #[.agg cs.toArray] w fun e w'=>e = .returned (.bool true)∧Below w.heap.size w w':=by
 have HVC:=ħ (fun W (hc:Zfu W c cs) (hT:Tab W B) (hok:CrwOk c)=>Zk1 W c cs hc B hT hok);have HTB:=ħ (fun W (hW:Below w.heap.size w W)=>Zbo.step (w:=w) hG hW);have HCW:=ħ (fun W (hW:Below w.heap.size w W)=>hcw.below hW);have HFK:=ħ (fun hf=>Z1q (c:=c) hf hL hby hnm);have HFW:=ħ (fun W (hW:Below w.heap.size w W)=>Zzp W c cs (hcw.below hW) hL);have hun:=hL.nu;have hmn:=hL.nm;have hqn:=hL.nq;obtain⟨qo,qc,mo,mc,uo,uc,rfl,-⟩:=hcw;clear hL hby hnm hG;generalize hqe:c.qs.length=qn at *;generalize hme:c.ms.length=mn at *;generalize hue:c.us.length=un at *;have HUE:=ħ hue;have HME:=ħ hme;have HQE:=ħ hqe;clear hue hme hqe;have X1:Hid (Zaf (w.alloc (.cells #[.slice qo qn qc,.slice mo mn mc,.slice uo un uc] 26)) w.heap.size 26 [.slice qo qn qc,.slice mo mn mc,.slice uo un uc]):=ħ (heap_alloc_new w _);have B1:=ħ ((Below.refl w.heap.size w).alloc (Nat.le_refl _) (.cells #[.slice qo qn qc,.slice mo mn mc,.slice uo un uc] 26))
 go_enter Tryz.func16,Tryz.ntmps16
 go_upto_region 1 with (fail)
 generalize w.alloc (.cells #[.slice qo qn qc,.slice mo mn mc,.slice uo un uc] 26)=w1 at *
 go_wp2_with fail
 refine (Zwh w1 B (HTB.o w1 B1.o)).mono ?_;rintro e w2 ⟨rfl,b2⟩;have X2:=ħ (X1.o.step b2);have B2:=ħ (B1.o.trans (b2.mono B1.o.size));clear b2 X1 B1
 go_upto_region 2 with (fail)
 go_wp2_with (refine wpList_load_row rfl 26 (.tmp 1) rfl (w.heap.size) ?x1 26 #[.slice qo qn qc,.slice mo mn mc,.slice uo un uc] (0,0) _ X2.o Tryz.underlying26 rfl (Zbq _ _ _) ?_;(case x1=>rfl))
 refine (HFW.o w2 B2.o).mono ?_;rintro e w3 ⟨rfl,b3⟩;have X3:=ħ (X2.o.step b3);have B3:=ħ (B2.o.trans (b3.mono B2.o.size));clear b3 X2 B2 HFW;obtain⟨V,hV⟩:∃ V,Z2r c=V:=⟨_,rfl⟩;rw[hV];have HV:=ħ hV;clear hV
 cases V with
 | false =>
  go_wp2_with fail
  go_ret;exact⟨rfl,B3.o⟩
 | true =>
  obtain⟨hok,h999,h65,h129⟩:=HFK.o HV.o;have HOK:=ħ hok;clear hok;have HAG:=ħ (fun W (hW:Below w.heap.size w W)=>(⟨HCW.o W hW,HTB.o W hW,HOK.o,by rw[HUE.o];exact h999⟩:ArgC W c [.slice qo qn qc,.slice mo mn mc,.slice uo un uc] B));clear HFK HTB HCW HOK;have HVC:=ħ (fun W (hW:Below w.heap.size w W)=>HVC.o W (HAG.o W hW).crw (HAG.o W hW).tab (HAG.o W hW).ok)
  go_wp2_with (refine Zaw (by rfl) 26 (.tmp 1) rfl (w.heap.size) ?x2 26 #[.slice qo qn qc,.slice mo mn mc,.slice uo un uc] (0,0) _ X3.o Tryz.underlying26 rfl (Zbq _ _ _) ?_;(case x2=>rfl))
  refine (HVC.o w3 B3.o).mono ?_;rintro e w4 ⟨rfl,b4⟩;have X4:=ħ (X3.o.step b4);have B4:=ħ (B3.o.trans (b4.mono B3.o.size));clear b4 X3 B3 HVC;obtain⟨vv,hvv⟩:∃ x,Zal c=x:=⟨_,rfl⟩;rw[hvv]
  cases vv with
  | false =>
   go_wp2_with fail
   go_ret;exact⟨rfl,B4.o⟩
  | true =>
  have HVV:=ħ hvv;clear hvv;have c1:=X4.o.cell 1 _ rfl;by_cases hm0:mn=0
  ·have hz:(((mn:Nat):Int)==0)=true:=by simpa using hm0
   go_wp2_with fail
   go_ret;exact⟨rfl,B4.o⟩
  have hz:(((mn:Nat):Int)==0)=false:=by simpa using hm0
  by_cases h6:(6:Int)<(mn:Int)
  ·go_wp2_with fail
   go_ret;exact⟨rfl,B4.o⟩
  have hd6:decide ((6:Int)<((mn:Nat):Int))=false:=decide_eq_false h6;have HAL:=ħ (fun W (hW:Below w.heap.size w W)=>Zzu W c _ (HAG.o W hW).crw (by rw[HUE.o];omega) (by rw[HME.o];omega));rw[HUE.o,HME.o] at HAL;obtain⟨N,hN⟩:∃ A,alF mn 1 un=A:=⟨_,rfl⟩;rw[hN] at HAL;have HNE:=ħ hN;clear hN
  go_wp2_with (refine Zaw (by rfl) 26 (.tmp 1) rfl (w.heap.size) ?x3 26 #[.slice qo qn qc,.slice mo mn mc,.slice uo un uc] (0,0) _ X4.o Tryz.underlying26 rfl (Zbq _ _ _) ?_;(case x3=>rfl))
  refine (HAL.o w4 B4.o).mono ?_;rintro e w5 ⟨rfl,b5⟩;have X5:=ħ (X4.o.step b5);have B5:=ħ (B4.o.trans (b5.mono B4.o.size));clear b5 X4 B4;by_cases hN1:(1500:Int)<(N:Int)
  ·go_wp2_with fail
   go_ret;exact⟨rfl,B5.o⟩
  have HNP:Hid (N=mn^un):=ħ (by
   have:=Zwx mn un 1 (by rw[HNE.o];omega);rw[HNE.o,Nat.one_mul] at this
   exact this)
  have hm1:0<mn:=by omega
  have hN2:N≤1500:=by omega
  have hm6:mn≤6:=by omega
  obtain⟨lg,ct,sh,fp,HP⟩:∃ (lg:Nat→Bool) (ct:Nat→Nat) (sh:Nat→Nat→Nat→Nat) (fp:Nat→Int→Prop),Hid (ExP c un mn N lg ct sh fp):=by
   have:=Z2v (c:=c) HVV.o (by rw[HUE.o];omega) (by rw[HME.o];exact hm1);rw[HUE.o,HME.o,← HNP.o] at this;exact⟨_,_,_,_,ħ this⟩
  have HOK:=ħ (Zap HVV.o (by rw[HUE.o];omega));have HCL:Hid ((Zao c).length=un):=ħ (by rw[HOK.o.len];exact HUE.o);have HCR:Hid (∀ r∈Zao c,r.length=mn):=ħ (fun r hr=>by rw[HOK.o.row r hr];exact HME.o);have HLI:=ħ (fun W (k:Nat) (hW:Below w.heap.size w W) (hk:k≤1500)=>Zwz W c _ k (HAG.o W hW).crw (by rw[HUE.o];omega) (by rw[HME.o];exact hm1) (by rw[HME.o];omega) (by omega));rw[HUE.o,HME.o] at HLI
  have HLE:=ħ (fun W (k:Nat) co cc lo lc (hW:Below w.heap.size w W) (hk:k<N) (hR:Ze5 W (Zao c) co) (hF:Zak Zbe W lo ((Zdd mn un k).map Int.ofNat))=>by
   have:=Zs1 W c _ (Zao c) co cc (Zdd mn un k) lo lc (HAG.o W hW).crw hR HOK.o (by rw[HUE.o];omega) (by rw[HME.o];omega) (by rw[HUE.o,HME.o];exact HP.o.mem k) hF (fun m hm=>by have:=(Zh2 ((Zas HVV.o).2.2.2.2.1 m hm)).2;omega);rw[HUE.o,HP.o.law k hk] at this
   exact this)
  have HFT:=ħ (fun W (k:Nat) lo lc (hW:Below w.heap.size w W) (hk:k<N) (hF:Zak Zbe W lo ((Zdd mn un k).map Int.ofNat))=>by
   have:=Zy3 W c _ B ((Zdd mn un k).map Int.ofNat) lo lc (HAG.o W hW) hF;rw[HP.o.fit k hk,List.length_map,Zbv] at this
   exact this)
  have HAS:=ħ (fun W lo lc (hW:Below w.heap.size w W) (hF:Zak Zbe W lo (List.replicate un (-1:Int)))=>by
   have:=Zzy W c _ B lo lc HVV.o (HAG.o W hW) (by rw[HUE.o];exact hF);rw[HP.o.asg,HUE.o] at this
   exact this)
  have HCT:=ħ (fun W (hW:Below w.heap.size w W)=>Zrb W c _ B (HAG.o W hW));have HSR:=ħ (fun W (i:Nat) (hW:Below w.heap.size w W)=>Zpy W c _ B (i:Int) (HAG.o W hW));have HPO:=ħ (fun W (i:Nat) (hW:Below w.heap.size w W)=>Zwo W c _ B (i:Int) (HAG.o W hW));have HEL:=ħ (fun W (x:Use) (m:Nat) (hW:Below w.heap.size w W)=>Zyx W c _ B x (m:Int) (HAG.o W hW));have HUW:=ħ (fun W (hW:Below w.heap.size w W)=>(Z2s (HAG.o W hW).crw).1)
  go_upto_region 4 with (fail)
  clear c1 hz h6 hd6 hN1;have c2:=X5.o.cell 2 _ rfl
  go_upto_region 6 with (fail)
  have hmk:=run_make_row' (P:=Tryz.prog) 36 33 (.slice none 0 0) 24 Tryz.underlying36 Zom rfl .i64 .i64 un (by omega) (by omega);rw[Zld] at hmk;have bx:=(Below.refl w5.heap.size w5).alloc (Nat.le_refl _) (.cells (Zw6 un).toArray 33);have S6:Hid (Zaf (w5.alloc (.cells (Zw6 un).toArray 33)) w5.heap.size 33 (Zjh (sV mn) [] un)):=ħ (Zaf.new w5 33 (Zw6 un));have X6:=ħ (X5.o.step bx);have L6:=ħ bx;have E6:Hid ((w5.alloc (.cells (Zw6 un).toArray 33)).heap.size=w5.heap.size+1):=ħ (by rw[World.size_alloc]);clear bx
  go_upto_region 7 with (fail)
  clear hmk c2;obtain⟨SB,hSB⟩:∃ n,w5.heap.size=n:=⟨_,rfl⟩;have HSBe:=ħ hSB;rw[hSB] at S6 E6 ⊢;clear hSB;generalize w5.alloc (.cells (Zw6 un).toArray 33)=w6 at *;have c2:=X6.o.cell 2 _ rfl;have hmk:=run_make_row' (P:=Tryz.prog) 86 87 (.slice none 0 0) 24 Tryz.underlying86 Zcy rfl .i64 .i64 un (by omega) (by omega);rw[Zld] at hmk;have bx:=(Below.refl w6.heap.size w6).alloc (Nat.le_refl _) (.cells (Zw6 un).toArray 87);have C7:Hid (Zaf (w6.alloc (.cells (Zw6 un).toArray 87)) w6.heap.size 87 (Zjh (cV mn) [] un)):=ħ (Zaf.new w6 87 (Zw6 un));have X7:=ħ (X6.o.step bx);have S7:=ħ (S6.o.step bx);have L7:=ħ (L6.o.trans (bx.mono L6.o.size));have E7:Hid ((w6.alloc (.cells (Zw6 un).toArray 87)).heap.size=w6.heap.size+1):=ħ (by rw[World.size_alloc]);clear bx
  go_upto_region 8 with (fail)
  clear hmk c2;obtain⟨CK,hCK⟩:∃ n,w6.heap.size=n:=⟨_,rfl⟩;have HCKe:Hid (CK=SB+1):=ħ (by rw[← hCK];exact E6.o);rw[hCK] at C7 E7 ⊢;clear hCK E6 S6 X6 L6;generalize w6.alloc (.cells (Zw6 un).toArray 87)=w7 at *;have bx:=(Below.refl w7.heap.size w7).alloc (Nat.le_refl _) (.cells #[] 3);have O8:=ħ ((OwnK.made w7 3 1).lower (show SB≤w7.heap.size by have:=E7.o;have:=HCKe.o;omega));have X8:=ħ (X7.o.step bx);have S8:=ħ (S7.o.step bx);have C8:=ħ (C7.o.step bx);have L8:=ħ (L7.o.trans (bx.mono L7.o.size));clear bx
  go_upto_region 9 with (fail)
  obtain⟨FB,hFB⟩:∃ n,w7.heap.size=n:=⟨_,rfl⟩;have HFBe:Hid (FB=CK+1):=ħ (by rw[← hFB];exact E7.o);rw[hFB] at O8 ⊢;clear hFB E7 S7 X7 L7 C7;generalize w7.alloc (.cells #[] 3)=w8 at *
  have E0:Hid (ExS w8 SB SB CK mn un (Zao c) 0 (some ⟨FB,0,none⟩) 0 [] []):=ħ (Zw2 S8.o C8.o O8.o (by have:=HCKe.o;omega) (fun g hg=>by
   have hg:some FB=some g:=hg;obtain rfl:=Option.some.inj hg;have:=HCKe.o;have:=HFBe.o
   exact⟨by omega,by omega⟩) (Nat.le_refl _) (by have:=HCKe.o;omega))
  have HCS:Hid (SB<CK):=ħ (by have:=HCKe.o;omega);clear O8 S8 C8 HFBe HCKe;have HXW:=ħ (fun W (hW:Below w5.heap.size w5 W)=>X5.o.step hW);have HBW:=ħ (fun W (hW:Below w5.heap.size w5 W)=>B5.o.trans (hW.mono B5.o.size));clear X8 X5 B5;rw[HSBe.o] at HXW HBW L8;have HSL:Hid (∀ W,Below SB w5 W→SB≤W.heap.size):=ħ (fun W hW=>by have:=hW.size;have:=HSBe.o;omega);clear HSBe
  go_upto_region 10 with (fail)
  go_loopw [8,9] (fun fv iv wr=>∃ (i:Nat) (fo:Option Addr) (fc:Nat) (rb:List Nat) (cr:List (Nat×Nat×Nat)),fv = .slice fo i fc∧iv = .int .i64 i∧i≤un∧Hid (rb.length=i∧cr.length=i)∧Hid (ExS wr SB SB CK mn un (Zao c) i fo fc rb cr)∧Hid (Below SB w5 wr)) (fun _ i _=>(un-intOf i).toNat)
  case atStart=>exact⟨0,some ⟨FB,0,none⟩,0,[],[],rfl,rfl,by omega,ħ ⟨rfl,rfl⟩,E0,L8⟩
  case round =>
   clear E0 L8;obtain⟨ix,fo,fc,rb,cr,rfl,rfl,hi,HRC,ER,LR⟩:=hrel;have e2:IntKind.i64.wrap ((ix:Int)+1)=((ix+1:Nat):Int):=IntWalk.i64_in _ (by omega);by_cases hin:ix<un
   ·have ii:(ix:Int)<un:=by omega
    obtain⟨hrl,hcl⟩:=HRC.o;have hmk:=run_make_row' (P:=Tryz.prog) 33 3 (.int .i64 0) 8 Tryz.underlying33 Zbf rfl .i64 .i64 mn (by omega) (by omega);rw[Zi0] at hmk;have XR:=ħ (HXW.o wr LR.o);have c1:=XR.o.cell 1 _ rfl;have bx:=(Below.refl wr.heap.size wr).alloc (Nat.le_refl _) (.cells (Zau (Zb4 mn (fun _=>0))).toArray 3);have SX:=ħ (ER.o.sb.step bx);have EA:=ħ (ER.o.rowA (by rw[hrl];exact hin) (HSL.o wr LR.o));rw[hrl] at EA;have s0:=SX.o.cell ix _ (by have:=Zoz (sV mn) (l:=rb) (n:=un) (by omega);rwa [hrl] at this);have f0:=SX.o.warm ix;have LA:=ħ ((LR.o.trans (bx.mono (HSL.o wr LR.o))).setCell (p:=⟨SB,ix,none⟩) (Nat.le_refl _) (.slice (some ⟨wr.heap.size,0,none⟩) mn mn));clear bx SX
    go_upto_region 13 with (fail)
    clear s0 f0 hmk c1 XR
    have hrb2:(rb++[wr.heap.size]).length=ix+1:=by rw[List.length_append,hrl];rfl
    generalize (wr.alloc (.cells (Zau (Zb4 mn (fun _=>0))).toArray 3)).setCell ⟨SB,ix,none⟩ (.slice (some ⟨wr.heap.size,0,none⟩) mn mn)=wa at *;generalize rb++[wr.heap.size]=rb2 at *;have HSA:=ħ (HSL.o wa LA.o);have OF:=ħ EA.o.fr
    go_upto_region 14 with (at_builtin;refine Zdu 33 3 (.int .i64 0) 1 8 Tryz.underlying33 Zbf rfl (by omega) (by omega) wa SB rfl (.tmp 73) (.tmp 74) rfl fo fc ix ((List.replicate ix (-1:Int)).flatMap Zbe) ?p1 OF.o HSA.o 1 1 #[.int .i64 (-1)] 3 ?p2 rfl (by omega) ?p3 ?p4 ?_;(case p1=>rfl);(case p2=>rfl);(case p3=>simp[Value.oneCell']);(case p4=>omega);intro g3 off3 c3 wb o8 gr8 b8 or8;have OB:=ħ o8;have GB:=ħ gr8;have KB:=ħ b8;have NB:=ħ or8;clear o8 gr8 b8 or8)
    have EB:=ħ (EA.o.freeB OB.o GB.o NB.o);have LB:=ħ (LA.o.trans KB.o);clear OF EA OB GB KB NB LA ER LR HSA;obtain⟨x,hx⟩:∃ x,c.us[ix]?=some x:=⟨_,List.getElem?_eq_getElem (by rw[HUE.o];exact hin)⟩;have HRL:Hid (((Zao c).getD ix []).length=mn):=ħ (by rw[Zw4 hx,Zep];exact HME.o);have HEX:=ħ (fun (m:Nat) (hm:m<mn)=>Zzz HVV.o hx (m:=m) (by rw[HME.o];exact hm));have HX:=ħ hx;clear hx;obtain⟨row,hrow⟩:∃ r,(Zao c).getD ix []=r:=⟨_,rfl⟩;have HRW:=ħ hrow;rw[hrow] at HRL HEX;clear hrow;have HKL:Hid (CK<wb.heap.size):=ħ EB.o.ck.lt
    have C0:Hid (Zaf wb CK 87 ((Zjh (cV mn) cr un).set ix (.slice none 0 0))):=ħ (by
     have:=Zw3 (cV mn) (l:=cr) (n:=un) (by omega);rw[hcl] at this
     rw[this];exact EB.o.ck)
    go_upto_region 15 with (fail)
    go_loopw [10] (fun mv wr=>∃ (m:Nat) (ao:Option Addr) (ac:Nat),mv = .int .i64 m∧m≤mn∧Hid (OwnK wr wb.heap.size 1 m ac (bvs (row.take m)) ao)∧Hid (Zaf wr CK 87 ((Zjh (cV mn) cr un).set ix (.slice ao m ac)))∧Hid (Only wb wr (· = CK))) (fun m _=>(mn-intOf m).toNat)
    case atStart=>exact⟨0,none,0,rfl,by omega,ħ (.nil rfl rfl rfl),C0,ħ (Only.refl _ _)⟩
    case round =>
     clear C0;obtain⟨m,ao,ac,rfl,hm,OR,CR,NR⟩:=hrel;have e3:IntKind.i64.wrap ((m:Int)+1)=((m+1:Nat):Int):=IntWalk.i64_in _ (by omega);have LR:=ħ (LB.o.trans (NR.o.below (HSL.o wb LB.o) (fun g e=>by have e:g=CK:=e;have:=HCS.o;omega)));have XR:=ħ (HXW.o wr LR.o);have c1:=XR.o.cell 1 _ rfl;by_cases hmn:m<mn
     ·have mm:(m:Int)<mn:=by omega
      go_upto_region 17 with (fail)
      clear c1 mm;obtain⟨⟨y0,y1,y2,y3⟩,hx⟩:∃ x,c.us[ix]?=some x:=⟨_,HX.o⟩
      have hxe:x=⟨y0,y1,y2,y3⟩:=by have:=HX.o;rw[hx] at this;exact (Option.some.inj this).symm
      have hee:=HEX.o m hmn;rw[hxe] at hee;obtain⟨bb,hbb⟩:∃ b,row.getD m false=b:=⟨_,rfl⟩;rw[hbb] at hee;have BWR:=ħ (HBW.o wr LR.o);obtain⟨gu,ou,huo,hgu,hcu⟩:=(HUW.o wr BWR.o).at Za3 ix _ hx;have HUO:=ħ huo;have HGB:Hid (wb.heap.size≤wr.heap.size):=ħ NR.o.size;have HBS:=HGB;have HWB:Hid (w.heap.size<wb.heap.size):=ħ (by have:=(HXW.o wb LB.o).lt;exact this);have HXB:=ħ (fun W (hW:Below wb.heap.size wr W)=>XR.o.below hW HWB.o)
      have HCK:=ħ (fun W (hW:Below wb.heap.size wr W)=>(CR.o.below hW HKL.o).cell ix (.slice ao m ac) (by
       rw[List.getElem?_set,if_pos rfl,if_pos (by rw[Zmn _ _ (by omega)];exact hin)]))
      have HUY:=ħ (fun W (hW:Below wb.heap.size wr W)=>by
       obtain⟨g',o',h1,-,h3⟩:=(HUW.o W (BWR.o.trans (hW.mono (Nat.le_trans (Nat.le_of_lt HWB.o) (Nat.le_refl _))))).at Za3 ix _ hx
       obtain⟨rfl,rfl⟩:gu=g'∧ou=o':=by rw[huo] at h1;simpa using h1
       exact (⟨h3 0 _ rfl,h3 1 _ rfl,h3 2 _ rfl,h3 3 _ rfl⟩:W.cell? ⟨gu,ou+ix*4,none⟩=some (.int .i64 y0)∧W.cell? ⟨gu,ou+ix*4+1,none⟩=some (.int .i64 y1)∧W.cell? ⟨gu,ou+ix*4+2,none⟩=some (.int .i64 y2)∧W.cell? ⟨gu,ou+ix*4+3,none⟩=some (.int .i64 y3)))
      have HELX:Hid (∀ W,Below wb.heap.size wr W→Calls Tryz.prog 51 #[.agg #[.slice qo qn qc,.slice mo mn mc,.slice uo un uc],.agg #[.int .i64 y0,.int .i64 y1,.int .i64 y2,.int .i64 y3],.int .i64 (m:Int)] W fun e w'=>e = .returned (.bool bb)∧Below W.heap.size W w'):=ħ (fun W hW=>by
       have:=HEL.o W ⟨y0,y1,y2,y3⟩ m (BWR.o.trans (hW.mono (Nat.le_of_lt HWB.o)));rw[hee] at this
       exact this)
      have HII:=ħ ii;have HAO:Hid (∀ g,blk ao=some g→g<wr.heap.size):=ħ (fun g hg=>(OR.o.blk_lt hg).2);have HTK:Hid (bvs (row.take m)++[Value.bool bb]=bvs (row.take (m+1))):=ħ (by rw[← hbb];exact Zz0 (by rw[HRL.o];exact hmn));have HEL:=HELX;clear hx hxe hee hbb huo hgu hcu HELX;refine Zjj 17 0 (Z0h wr.heap.size CK (w.heap.size) un ix m ac gu ou uc wb.heap.size ao qo mo uo qn qc mn mc y0 y1 y2 y3 bb (row.take m)) wb.heap.size 15 (fun W=>OwnK W wb.heap.size 1 m ac (bvs (row.take m)) ao) HBS.o (fun W hW=>OR.o.below hW) (by kernel_rfl) rfl (Zb7 (by kernel_rfl)) (Zfq (by kernel_rfl)) (Zxm (by kernel_rfl)) (Ztt (by kernel_rfl)) ?hs ?he
      case hs =>
       intro i o hin hi listed a' w' H hl0 hl2;have hl3:=Zat hl2;have hb:=ħ H.below;have s1:=H.same 1 (Zam (by kernel_rfl));have s7:=H.same 7 (Zam (by kernel_rfl));have s9:=H.same 9 (Zam (by kernel_rfl));have s10:=H.same 10 (Zam (by kernel_rfl));have hdn:=H.done;have hdf:=H.defers;have hts:=H.tsize;have hjv:=H.inv;clear hl2 H;obtain⟨t',df⟩:=a';obtain⟨f',rfl⟩:=Z0g t' hts;have hdf':df=[]:=hdf;subst hdf';have gs1:f' 1 = .pointer (some ⟨w.heap.size,0,none⟩):=s1;have gs7:f' 7 = .slice (some ⟨CK,0,none⟩) un un:=s7;have gs9:f' 9 = .int .i64 (ix:Nat):=s9;have gs10:f' 10 = .int .i64 (m:Nat):=s10;clear s1 s7 s9 s10;clear hdf hts;have hcases:i=0∨i=1∨i=2∨i=3∨i=4∨i=5∨i=6∨i=7∨i=8∨i=9∨i=10∨i=11∨i=12∨i=13∨i=14∨i=15∨i=16:=Zg3 i hin;clear hin;rcases hcases with rfl | rfl | rfl | rfl | rfl | rfl | rfl | rfl | rfl | rfl | rfl | rfl | rfl | rfl | rfl | rfl | rfl
       ·obtain rfl:=Option.some.inj hi
        clear hdn hl3 hl0 hjv;rw[gs7];clear gs1 gs7 gs9 gs10;refine Zab rfl ?_
        go_wp2_with fail
        exact Zaa ⟨_,rfl,Below.refl _ _,fun j u _ h=>h,(by first | exact fun h=>h | exact fun _ h=>h),rfl⟩
       ·obtain rfl:=Option.some.inj hi
        clear hdn hl3 hl0 hjv;rw[gs9];clear gs1 gs7 gs9 gs10;refine Zab rfl ?_
        go_wp2_with fail
        exact Zaa ⟨_,rfl,Below.refl _ _,fun j u _ h=>h,(by first | exact fun h=>h | exact fun _ h=>h),rfl⟩
       ·obtain rfl:=Option.some.inj hi
        clear hdn hl3 hl0 hjv;rw[gs7];clear gs1 gs7 gs9 gs10;refine Zab rfl ?_
        go_wp2_with fail
        exact Zaa ⟨_,rfl,Below.refl _ _,fun j u _ h=>h,(by first | exact fun h=>h | exact fun _ h=>h),rfl⟩
       ·obtain rfl:=Option.some.inj hi
        clear hdn hl3 hl0 hjv;rw[gs9];clear gs1 gs7 gs9 gs10;refine Zab rfl ?_
        go_wp2_with fail
        exact Zaa ⟨_,rfl,Below.refl _ _,fun j u _ h=>h,(by first | exact fun h=>h | exact fun _ h=>h),rfl⟩
       ·obtain rfl:=Option.some.inj hi
        have dv2:f' 85 = .slice (some ⟨CK,0,none⟩) un un:=hdn 2 _ 85 rfl (hl3 2 (by rfl)) rfl;have dv3:f' 86 = .int .i64 (ix:Nat):=hdn 3 _ 86 rfl (hl3 3 (by rfl)) rfl;clear hdn hl3 hl0 hjv;rw[dv2,dv3];clear dv2 dv3 gs1 gs7 gs9 gs10;have ii:=HII.o;refine Zab rfl ?_
        go_wp2_with fail
        exact Zaa ⟨_,rfl,Below.refl _ _,fun j u _ h=>h,(by first | exact fun h=>h | exact fun _ h=>h),rfl⟩
       ·obtain rfl:=Option.some.inj hi
        have dv4:f' 87 = .pointer (some ⟨CK,ix,none⟩):=hdn 4 _ 87 rfl (hl3 4 (by rfl)) rfl;clear hdn hl3 hl0 hjv;rw[dv4];clear dv4 gs1 gs7 gs9 gs10;have rr:=HCK.o w' hb.o;refine Zab rfl ?_
        go_wp2_with fail
        exact Zaa ⟨_,rfl,Below.refl _ _,fun j u _ h=>h,(by first | exact fun h=>h | exact fun _ h=>h),rfl⟩
       ·obtain rfl:=Option.some.inj hi
        clear hdn hl3 hl0 hjv;rw[gs1];clear gs1 gs7 gs9 gs10;have hx:=HXB.o w' hb.o;have c0:=hx.cell 0 _ rfl;have c1:=hx.cell 1 _ rfl;have c2:=hx.cell 2 _ rfl;clear hx;refine Zab rfl ?_
        go_wp2_with fail
        exact Zaa ⟨_,rfl,Below.refl _ _,fun j u _ h=>h,(by first | exact fun h=>h | exact fun _ h=>h),rfl⟩
       ·obtain rfl:=Option.some.inj hi
        clear hdn hl3 hl0 hjv;rw[gs1];clear gs1 gs7 gs9 gs10;refine Zab rfl ?_
        go_wp2_with fail
        exact Zaa ⟨_,rfl,Below.refl _ _,fun j u _ h=>h,(by first | exact fun h=>h | exact fun _ h=>h),rfl⟩
       ·obtain rfl:=Option.some.inj hi
        have dv7:f' 90 = .pointer (some ⟨w.heap.size,2,none⟩):=hdn 7 _ 90 rfl (hl3 7 (by rfl)) rfl;clear hdn hl3 hl0 hjv;rw[dv7];clear dv7 gs1 gs7 gs9 gs10;have c2:=(HXB.o w' hb.o).cell 2 _ rfl;refine Zab rfl ?_
        go_wp2_with fail
        exact Zaa ⟨_,rfl,Below.refl _ _,fun j u _ h=>h,(by first | exact fun h=>h | exact fun _ h=>h),rfl⟩
       ·obtain rfl:=Option.some.inj hi
        clear hdn hl3 hl0 hjv;rw[gs9];clear gs1 gs7 gs9 gs10;refine Zab rfl ?_
        go_wp2_with fail
        exact Zaa ⟨_,rfl,Below.refl _ _,fun j u _ h=>h,(by first | exact fun h=>h | exact fun _ h=>h),rfl⟩
       ·obtain rfl:=Option.some.inj hi
        have dv8:f' 91 = .slice uo un uc:=hdn 8 _ 91 rfl (hl3 8 (by rfl)) rfl;have dv9:f' 92 = .int .i64 (ix:Nat):=hdn 9 _ 92 rfl (hl3 9 (by rfl)) rfl;clear hdn hl3 hl0 hjv;rw[dv8,dv9];clear dv8 dv9 gs1 gs7 gs9 gs10;have ii:=HII.o;rw[HUO.o];refine Zab rfl ?_
        go_wp2_with fail
        exact Zaa ⟨_,rfl,Below.refl _ _,fun j u _ h=>h,(by first | exact fun h=>h | exact fun _ h=>h),rfl⟩
       ·obtain rfl:=Option.some.inj hi
        have dv10:f' 93 = .pointer (some ⟨gu,ou+ix*4,none⟩):=hdn 10 _ 93 rfl (hl3 10 (by rfl)) rfl;clear hdn hl3 hl0 hjv;rw[dv10];clear dv10 gs1 gs7 gs9 gs10;obtain⟨p0,p1,p2,p3⟩:=HUY.o w' hb.o;refine Zab rfl ?_
        go_wp2_with fail
        exact Zaa ⟨_,rfl,Below.refl _ _,fun j u _ h=>h,(by first | exact fun h=>h | exact fun _ h=>h),rfl⟩
       ·obtain rfl:=Option.some.inj hi
        clear hdn hl3 hl0 hjv;rw[gs10];clear gs1 gs7 gs9 gs10;refine Zab rfl ?_
        go_wp2_with fail
        exact Zaa ⟨_,rfl,Below.refl _ _,fun j u _ h=>h,(by first | exact fun h=>h | exact fun _ h=>h),rfl⟩
       ·obtain rfl:=Option.some.inj hi
        have dv6:f' 89 = .agg #[.slice qo qn qc,.slice mo mn mc,.slice uo un uc]:=hdn 6 _ 89 rfl (hl3 6 (by rfl)) rfl;have dv11:f' 94 = .agg #[.int .i64 y0,.int .i64 y1,.int .i64 y2,.int .i64 y3]:=hdn 11 _ 94 rfl (hl3 11 (by rfl)) rfl;have dv12:f' 95 = .int .i64 (m:Nat):=hdn 12 _ 95 rfl (hl3 12 (by rfl)) rfl;clear hdn hl3 hl0 hjv;rw[dv6,dv11,dv12];clear dv6 dv11 dv12 gs1 gs7 gs9 gs10;refine Zab rfl ?_
        go_wp2_with fail
        refine (HEL.o w' hb.o).mono ?_;rintro e w4 ⟨rfl,b4⟩;have HB4:=ħ b4;clear b4
        go_wp2_with fail
        exact Zaa ⟨_,rfl,HB4.o.mono (Nat.le_trans HBS.o hb.o.size),fun j u _ h=>Zo0 wr.heap.size CK (w.heap.size) un ix m ac gu ou uc wb.heap.size ao qo mo uo qn qc mn mc y0 y1 y2 y3 bb (row.take m) j w' w4 u h HB4.o,(by first | exact fun h=>h.below HB4.o | exact fun _ h=>h.below HB4.o),rfl⟩
       ·obtain rfl:=Option.some.inj hi
        have dv13:f' 96 = .bool bb:=hdn 13 _ 96 rfl (hl3 13 (by rfl)) rfl;clear hdn hl3 hl0 hjv;rw[dv13];clear dv13 gs1 gs7 gs9 gs10;have bx:=(Below.refl w'.heap.size w').alloc (Nat.le_refl _) (.cells #[.bool bb] 4);have HV:Hid (Zaf (w'.alloc (.cells #[.bool bb] 4)) w'.heap.size 4 [.bool bb]):=ħ (heap_alloc_new _ _);have BX:=ħ bx;clear bx;refine Zab rfl ?_
        go_wp2_with fail
        exact Zaa ⟨_,rfl,BX.o.mono (Nat.le_trans HBS.o hb.o.size),fun j u _ h=>Zo0 wr.heap.size CK (w.heap.size) un ix m ac gu ou uc wb.heap.size ao qo mo uo qn qc mn mc y0 y1 y2 y3 bb (row.take m) j w' _ u h BX.o,(by first | exact fun h=>h.below BX.o | exact fun _ h=>h.below BX.o),w'.heap.size,rfl,hb.o.size,HV.o⟩
       ·obtain rfl:=Option.some.inj hi
        have HJW:=ħ (hjv hl0);have dv5:f' 88 = .slice ao m ac:=hdn 5 _ 88 rfl (hl3 5 (by rfl)) rfl;have dv14:Z0h wr.heap.size CK (w.heap.size) un ix m ac gu ou uc wb.heap.size ao qo mo uo qn qc mn mc y0 y1 y2 y3 bb (row.take m) 14 w' (f' 97):=hdn 14 _ 97 rfl (hl3 14 (by rfl)) rfl;obtain⟨V,dv14,hV0,hV⟩:=dv14;clear hdn hl3 hl0 hjv;rw[dv5,dv14];clear dv5 dv14 gs1 gs7 gs9 gs10;have HV:=ħ hV;have HV0:=ħ hV0;clear hV hV0;refine Zab rfl ?_;refine Zz1 87 4 (.bool false) 1 1 Tryz.underlying87 Zs2 rfl (by omega) (by omega) w' wb.heap.size rfl (.tmp 88) (.tmp 97) rfl ao ac m (bvs (row.take m)) ?q1 HJW.o (Nat.le_trans HBS.o hb.o.size) V 1 1 [.bool bb] 4 ?q2 HV.o rfl (by omega) ?q3 (by omega) ?_
        case q1=>rfl
        case q2=>rfl
        case q3=>simp[Value.oneCell']
        intro g5 off5 c5 wa o8 g8;have O8:=ħ o8;have G8:=ħ g8;clear o8 g8
        go_wp2_with fail
        exact Zaa (by first | exact⟨_,rfl,Zi9 HJW.o G8.o (Nat.le_trans HBS.o hb.o.size),fun j u hj h=>Zo1 wr.heap.size CK (w.heap.size) un ix m ac gu ou uc wb.heap.size ao qo mo uo qn qc mn mc y0 y1 y2 y3 bb (row.take m) w' wa G8.o HAO.o j u hj h,g5,off5,c5,rfl,O8.o⟩ | exact⟨_,rfl,Zi9 HJW.o G8.o (Nat.le_trans HBS.o hb.o.size),fun j u hj h=>Zo1 wr.heap.size CK (w.heap.size) un ix m ac gu ou uc wb.heap.size ao qo mo uo qn qc mn mc y0 y1 y2 y3 bb (row.take m) w' wa G8.o HAO.o j u hj h,fun e _=>absurd rfl e,g5,off5,c5,rfl,O8.o⟩)
       ·obtain rfl:=Option.some.inj hi
        have dv0:f' 83 = .slice (some ⟨CK,0,none⟩) un un:=hdn 0 _ 83 rfl (hl3 0 (by rfl)) rfl;have dv1:f' 84 = .int .i64 (ix:Nat):=hdn 1 _ 84 rfl (hl3 1 (by rfl)) rfl;clear hdn hl3 hl0 hjv;rw[dv0,dv1];clear dv0 dv1 gs1 gs7 gs9 gs10;have ii:=HII.o;refine Zab rfl ?_
        go_wp2_with fail
        exact Zaa ⟨_,rfl,Below.refl _ _,fun j u _ h=>h,(by first | exact fun h=>h | exact fun _ h=>h),rfl⟩
      case he =>
       intro listed a' w4 H hall;have hd15:Z0h wr.heap.size CK (w.heap.size) un ix m ac gu ou uc wb.heap.size ao qo mo uo qn qc mn mc y0 y1 y2 y3 bb (row.take m) 15 w4 (a'.tmps.getD 98 undef):=H.done 15 _ 98 rfl (hall 15 (by decide)) rfl;have hd16:Z0h wr.heap.size CK (w.heap.size) un ix m ac gu ou uc wb.heap.size ao qo mo uo qn qc mn mc y0 y1 y2 y3 bb (row.take m) 16 w4 (a'.tmps.getD 99 undef):=H.done 16 _ 99 rfl (hall 16 (by decide)) rfl;have hb4:=ħ H.below;have hact:=H.act [83,84,85,86,87,88,89,90,91,92,93,94,95,96,97,98,99] (Zc2 (by kernel_rfl));clear H hall;simp only[List.foldl_cons,List.foldl_nil] at hact;generalize a'.tmps.getD 83 undef=z83 at *;generalize a'.tmps.getD 84 undef=z84 at *;generalize a'.tmps.getD 85 undef=z85 at *;generalize a'.tmps.getD 86 undef=z86 at *;generalize a'.tmps.getD 87 undef=z87 at *;generalize a'.tmps.getD 88 undef=z88 at *;generalize a'.tmps.getD 89 undef=z89 at *;generalize a'.tmps.getD 90 undef=z90 at *;generalize a'.tmps.getD 91 undef=z91 at *;generalize a'.tmps.getD 92 undef=z92 at *;generalize a'.tmps.getD 93 undef=z93 at *;generalize a'.tmps.getD 94 undef=z94 at *;generalize a'.tmps.getD 95 undef=z95 at *;generalize a'.tmps.getD 96 undef=z96 at *;generalize a'.tmps.getD 97 undef=z97 at *;generalize a'.tmps.getD 98 undef=z98 at *;generalize a'.tmps.getD 99 undef=z99 at *;subst hact;obtain⟨g5,off5,c5,e15,hO5⟩:=hd15;subst e15;have e16:z99 = .pointer (some ⟨CK,ix,none⟩):=hd16;subst e16;clear hd16;simp only[Act.put,List.setIfInBounds_toArray,List.set_cons_succ,List.set_cons_zero];have C4:=ħ (CR.o.below hb4.o HKL.o);have O4:Hid (OwnK w4 wb.heap.size 1 (m+1) c5 (bvs (row.take (m+1))) (some ⟨g5,off5,none⟩)):=ħ (by rw[← HTK.o];exact hO5);have HG5:Hid (wb.heap.size≤g5):=ħ (O4.o.blk_lt rfl).1
       have k0:=C4.o.cell ix (.slice ao m ac) (by
        rw[List.getElem?_set,if_pos rfl,if_pos (by rw[Zmn _ _ (by omega)];exact hin)])
       have f0:=C4.o.warm ix
       have C5:Hid (Zaf (w4.setCell ⟨CK,ix,none⟩ (.slice (some ⟨g5,off5,none⟩) (m+1) c5)) CK 87 ((Zjh (cV mn) cr un).set ix (.slice (some ⟨g5,off5,none⟩) (m+1) c5))):=ħ (by
        have:=C4.o.set ix (.slice (some ⟨g5,off5,none⟩) (m+1) c5)
        rwa [List.set_set] at this)
       have O5:=ħ (O4.o.setCell (p:=⟨CK,ix,none⟩) (.slice (some ⟨g5,off5,none⟩) (m+1) c5) (fun e=>by
        have e:g5=CK:=Option.some.inj e;have:=HG5.o;have:=HKL.o
        omega))
       have N5:=ħ ((NR.o.belowB hb4.o).setCell (a:=⟨CK,ix,none⟩) (.slice (some ⟨g5,off5,none⟩) (m+1) c5) rfl);clear hO5 hb4 O4 C4 HG5 OR CR NR LR XR HCK HXB HUY HEL HAO HTK;refine Za7 (Zab rfl ?_)
       go_wp2_with fail
       refine Zaa (Zch ?_);clear k0 f0;generalize w4.setCell ⟨CK,ix,none⟩ (.slice (some ⟨g5,off5,none⟩) (m+1) c5)=wn at *
       go_wp2_with fail
       go_roundw
       case rel=>exact⟨m+1,some ⟨g5,off5,none⟩,c5,by go_num,by omega,O5,C5,N5⟩
       case measure=>simp only[intOf];omega
     ·have mm:¬ (m:Int)<mn:=by omega
      obtain rfl:m=mn:=by omega
      obtain⟨g5,off5,hao,hg1,hg2,hrd⟩:=OR.o.readsAt hm1;have HAO:=ħ hao
      have htk:row.take m=row:=by rw[← HRL.o];exact List.take_length
      have EC:=ħ (EB.o.canC (x:=(g5,off5,ac)) NR.o (by
       have:=CR.o;rw[hao] at this;rw[← Zro (cV m) (l:=cr) (n:=un) (by omega) (g5,off5,ac),hcl]
       exact this) ⟨hg1,hg2,by rw[hcl,HRW.o];rw[htk] at hrd;exact hrd⟩)
      clear OR CR NR hao hg1 hg2 hrd htk HAO XR
      go_wp2_with fail
      go_roundw
      case rel=>exact⟨ix+1,some ⟨g3,off3,none⟩,c3,rb2,cr++[(g5,off5,ac)],rfl,by go_num,by omega,ħ ⟨hrb2,by rw[List.length_append,hcl];rfl⟩,EC,LR⟩
      case measure=>simp only[intOf];omega
   ·have ii:¬ (ix:Int)<un:=by omega
    obtain rfl:un=ix:=by omega
    have XR:=ħ (HXW.o wr LR.o);have eN:IntKind.i64.wrap ((N:Int)-1)=(N:Int)-1:=IntWalk.i64_in _ (by omega)
    go_upto_region 18 with (fail)
    go_wp2_with (refine wpList_load_row rfl 26 (.tmp 1) rfl (w.heap.size) ?l18 26 #[.slice qo qn qc,.slice mo mn mc,.slice uo un uc] (0,0) _ XR.o Tryz.underlying26 rfl (Zbq _ _ _) ?_;(case l18=>rfl))
    refine (HAL.o wr (HBW.o wr LR.o)).mono ?_;rintro e wl ⟨rfl,bl⟩;have EL:=ħ (ER.o.below bl);have LL:=ħ (LR.o.trans (bl.mono (HSL.o wr LR.o)));have SL0:Hid (ShR wl rb mn (sh N)):=ħ (EL.o.sh.congr (fun j m _=>HP.o.sN j m));have HLB:=ħ (fun W (on:Only wl W (·∈rb))=>(LL.o.trans (EL.o.belowOn on (HSL.o wl LL.o)):Below SB w5 W));have HRC2:=ħ HRC.o.1;have HCAN:=ħ (fun W (on:Only wl W (·∈rb))=>EL.o.can on (HRC.o.2.trans HCL.o.symm) HCR.o);have HSBW:=ħ (fun W (on:Only wl W (·∈rb))=>EL.o.sbOn on);have HFRW:=ħ (fun W (on:Only wl W (·∈rb))=>EL.o.frOn on);have HRBL:=ħ (fun b (hb:b∈rb)=>EL.o.rbLt b hb);have HND:=ħ EL.o.nd;have FN0:=ħ HP.o.fN;have hct0:=HP.o.cN;clear bl ER LR XR ii HEL HUW HRC
    go_upto_region 19 with (fail)
    clear eN
    go_loopw [4,5,11] (fun cv fv nv wr=>∃ (k:Nat) (z f:Int),cv = .int .i64 ((ct k:Nat):Int)∧fv = .int .i64 f∧nv = .int .i64 z∧Hid (z=(k:Int)-1)∧k≤N∧Hid (fp k f)∧Hid (ShR wr rb mn (sh k))∧Hid (Only wl wr (·∈rb))) (fun _ _ n _=>(intOf n+1).toNat)
    case atStart=>exact⟨N,(N:Int)-1,-1,by rw[hct0];rfl,rfl,rfl,ħ rfl,Nat.le_refl _,FN0,SL0,ħ (Only.refl _ _)⟩
    case round =>
     clear SL0 FN0 hct0;obtain⟨k,z,f,rfl,rfl,rfl,HZ,hk,FR,SR,OR⟩:=hrel;have LR:=ħ (HLB.o wr OR.o);have BWR:=ħ (HBW.o wr LR.o);have XR:=ħ (HXW.o wr LR.o)
     cases k with
     | succ k =>
      have hz:=HZ.o
      obtain rfl:z=(k:Int):=by omega
      have ii:(0:Int)≤(k:Int):=by omega
      have ii2:(k:Int)≥0:=by omega
      have hkN:k<N:=by omega
      have e1:IntKind.i64.wrap ((k:Int)-1)=(k:Int)-1:=IntWalk.i64_in _ (by omega);have HC1:=ħ (HP.o.c1 k hkN);have hcl2:=HP.o.cL (k+1);have ec:IntKind.i64.wrap (((ct (k+1):Nat):Int)+1)=((ct (k+1)+1:Nat):Int):=IntWalk.i64_in _ (by omega);clear HZ hz
      go_upto_region 21 with (fail)
      go_wp2_with (refine wpList_load_row rfl 26 (.tmp 1) rfl (w.heap.size) ?l21 26 #[.slice qo qn qc,.slice mo mn mc,.slice uo un uc] (0,0) _ XR.o Tryz.underlying26 rfl (Zbq _ _ _) ?_;(case l21=>rfl))
      refine (HLI.o wr k BWR.o (by omega)).mono ?_;rintro e wa ⟨⟨P,rfl,hP,hv⟩,ba⟩;have OA:=ħ (OR.o.step ba);have SA:=ħ (SR.o.below ba);have HPL:Hid (wl.heap.size≤P):=ħ (Nat.le_trans OR.o.size hP);have VA:=ħ hv;have XA:=ħ (XR.o.step ba);clear ba hv hP OR SR XR LR BWR;have LA:=ħ (HLB.o wa OA.o)
      go_upto_region 22 with (fail)
      go_wp2_with (refine wpList_load_row rfl 26 (.tmp 1) rfl (w.heap.size) ?l22 26 #[.slice qo qn qc,.slice mo mn mc,.slice uo un uc] (0,0) _ XA.o Tryz.underlying26 rfl (Zbq _ _ _) ?_;(case l22=>rfl))
      refine (HLE.o wa k _ un _ un (HBW.o wa LA.o) hkN (HCAN.o wa OA.o) (Ze8 VA.o)).mono ?_;rintro e wb2 ⟨rfl,bb2⟩;have OB:=ħ (OA.o.step bb2);have SB2:=ħ (SA.o.below bb2);have VB:=ħ (VA.o.step bb2);have XB:=ħ (XA.o.step bb2);clear bb2 OA SA VA XA LA;have LB:=ħ (HLB.o wb2 OB.o)
      go_upto_region 23 with (fail)
      go_wp2_with (refine wpList_load_row rfl 26 (.tmp 1) rfl (w.heap.size) ?l23 26 #[.slice qo qn qc,.slice mo mn mc,.slice uo un uc] (0,0) _ XB.o Tryz.underlying26 rfl (Zbq _ _ _) ?_;(case l23=>rfl))
      refine (HFT.o wb2 k _ un (HBW.o wb2 LB.o) hkN (Ze8 VB.o)).mono ?_;rintro e wd ⟨rfl,bd⟩;have OD:=ħ (OB.o.step bd);have SD:=ħ (SB2.o.below bd);have VD:=ħ (VB.o.step bd);clear bd OB SB2 VB XB LB;have HF1:=ħ (HP.o.f1 k hkN);have HF0:=ħ (HP.o.f0 k f hkN);have HS1:=ħ (fun i m=>HP.o.s1 k i m hkN);obtain⟨lk,hlk⟩:∃ b,lg k=b:=⟨_,rfl⟩;rw[hlk] at HC1 HF1 HF0 ⊢;have HLK:=ħ hlk;clear hlk
      cases lk with
      | false =>
       have HC2:Hid (ct k=ct (k+1)):=ħ (by have:=HC1.o;simpa using this)
       go_wp2_with fail
       go_roundw
       case rel=>exact⟨k,(k:Int)-1,f,by rw[HC2.o],rfl,by go_num,ħ rfl,by omega,ħ (HF0.o (by trivial) FR.o),ħ (SD.o.congr (fun j m _=>by rw[HS1.o j m,HLK.o];simp)),OD⟩
       case measure=>simp only[intOf];omega
      | true =>
       have HC2:Hid (ct k=ct (k+1)+1):=ħ (by have:=HC1.o;simpa using this);have S0:Hid (ShR wd rb mn (fun j m=>if j<0 then sh k j m else sh (k+1) j m)):=ħ (SD.o.congr (fun j m _=>if_neg (Nat.not_lt_zero j)));clear SD HC1 HF0
       go_upto_region 29 with (fail)
       go_loopw [14] (fun iv wr=>∃ (ix:Nat),iv = .int .i64 ix∧ix≤un∧Hid (ShR wr rb mn (fun j m=>if j<ix then sh k j m else sh (k+1) j m))∧Hid (Only wl wr (·∈rb))∧Hid (Zaf wr P 3 (Zau (Zdd mn un k)))) (fun i _=>(un-intOf i).toNat)
       case atStart=>exact⟨0,rfl,by omega,S0,OD,VD⟩
       case round =>
        clear S0 OD VD;obtain⟨ix,rfl,hix,SR,OR,VR⟩:=hrel;have e3:IntKind.i64.wrap ((ix:Int)+1)=((ix+1:Nat):Int):=IntWalk.i64_in _ (by omega);by_cases hin:ix<un
        ·have i3:(ix:Int)<un:=by omega
         obtain⟨rbk,hrbk⟩:∃ b,rb[ix]?=some b:=⟨_,List.getElem?_eq_getElem (by rw[HRC2.o];exact hin)⟩
         have hdl:ix<(Zdd mn un k).length:=by rw[Zbv];exact hin
         obtain⟨d,hd⟩:∃ d,(Zdd mn un k)[ix]?=some d:=⟨_,List.getElem?_eq_getElem hdl⟩;have hdm:d<mn:=Zpz hm1 un d (List.mem_of_getElem? hd)
         have hdg:(Zdd mn un k).getD ix 0=d:=by rw[List.getD_eq_getElem?_getD,hd];rfl
         obtain⟨v0,hv0⟩:∃ v,sh (k+1) ix d=v:=⟨_,rfl⟩
         have hvl:v0≤N:=by rw[← hv0];exact HP.o.sL _ _ _
         have HV1:Hid (sh k ix d=v0+1):=ħ (by rw[HS1.o ix d,HLK.o,hdg,hv0];simp)
         have HVN:Hid (∀ m,m≠d→sh k ix m=sh (k+1) ix m):=ħ (fun m hm=>by
          have hne:((Zdd mn un k).getD ix 0==m)=false:=by rw[hdg,beq_eq_false_iff_ne];exact fun e=>hm e.symm
          rw[HS1.o ix m,HLK.o,hne];simp)
         have HBK:Hid (rbk<wl.heap.size):=ħ (HRBL.o rbk (List.mem_of_getElem? hrbk));have HSB:=ħ (fun W (hW:Below wr.heap.size wr W)=>((HSBW.o wr OR.o).step hW).cell ix _ (Zp0 (sV mn) un hrbk));have HLD:=ħ (fun W (hW:Below wr.heap.size wr W)=>(VR.o.step hW).cell ix _ (Zd1 hd));have hrow:=SR.o ix rbk hrbk
         have HVV0:Hid (∀ W,Below wr.heap.size wr W→W.cell? ⟨rbk,d,none⟩=some (.int .i64 ((v0:Nat):Int))):=ħ (fun W hW=>by
          have:=(hrow.step hW).cell d _ (Zd1 (Zdn _ hdm));change W.cell? ⟨rbk,d,none⟩=some (.int .i64 (((if ix<ix then sh k ix d else sh (k+1) ix d:Nat)):Int)) at this;rw[if_neg (by omega),hv0] at this
          exact this)
         have HWM:Hid (∀ W,Below wr.heap.size wr W→W.frozen? ⟨rbk,d,none⟩=false):=ħ (fun W hW=>(hrow.step hW).warm d);have HII:=ħ i3;have HDD:Hid ((d:Int)<(mn:Int)):=ħ (by omega);have HEV:Hid (IntKind.i64.wrap (((v0:Nat):Int)+1)=(v0:Int)+1):=ħ (IntWalk.i64_in _ (by omega));have HRB:=ħ hrbk;clear hrbk hdl hd hdg hv0 hvl hrow
         go_upto_region 31 with (fail)
         clear i3;refine Zbs 12 0 (Z2w SB un ix P rbk mn d v0) (by kernel_rfl) rfl (Zw5 SB un ix P rbk mn d v0) (Zb7 (by kernel_rfl)) (Zfq (by kernel_rfl)) (Zbd (by kernel_rfl)) (Zed (by kernel_rfl)) ?hs ?he
         case hs =>
          intro i o hin hi listed a' w' H hsn hl2;have hl3:=Zat hl2;have hb:=ħ H.below;have s6:=hsn 6 (Zav (by kernel_rfl));have s12:=hsn 12 (Zav (by kernel_rfl));have s14:=hsn 14 (Zav (by kernel_rfl));have hdn:=H.done;have hdf:=H.defers;have hts:=H.tsize;clear hl2 H hsn;obtain⟨t',df⟩:=a';obtain⟨f',rfl⟩:=Z0g t' hts;have hdf':df=[]:=hdf;subst hdf';have gs6:f' 6 = .slice (some ⟨SB,0,none⟩) un un:=s6;have gs12:f' 12 = .slice (some ⟨P,0,none⟩) un un:=s12;have gs14:f' 14 = .int .i64 (ix:Nat):=s14;clear s6 s12 s14;clear hdf hts;have hcases:i=0∨i=1∨i=2∨i=3∨i=4∨i=5∨i=6∨i=7∨i=8∨i=9∨i=10∨i=11:=Zsf i hin;clear hin;rcases hcases with rfl | rfl | rfl | rfl | rfl | rfl | rfl | rfl | rfl | rfl | rfl | rfl
          ·obtain rfl:=Option.some.inj hi
           clear hdn hl3;rw[gs6];clear gs6 gs12 gs14;refine Zab rfl ?_
           go_wp2_with fail
           exact Zaa ⟨_,rfl,Below.refl _ _,rfl⟩
          ·obtain rfl:=Option.some.inj hi
           clear hdn hl3;rw[gs14];clear gs6 gs12 gs14;refine Zab rfl ?_
           go_wp2_with fail
           exact Zaa ⟨_,rfl,Below.refl _ _,rfl⟩
          ·obtain rfl:=Option.some.inj hi
           have dv0:f' 130 = .slice (some ⟨SB,0,none⟩) un un:=hdn 0 _ 130 rfl (hl3 0 (by rfl)) rfl;have dv1:f' 131 = .int .i64 (ix:Nat):=hdn 1 _ 131 rfl (hl3 1 (by rfl)) rfl;clear hdn hl3;rw[dv0,dv1];clear dv0 dv1 gs6 gs12 gs14;have ii:=HII.o;refine Zab rfl ?_
           go_wp2_with fail
           exact Zaa ⟨_,rfl,Below.refl _ _,rfl⟩
          ·obtain rfl:=Option.some.inj hi
           have dv2:f' 132 = .pointer (some ⟨SB,ix,none⟩):=hdn 2 _ 132 rfl (hl3 2 (by rfl)) rfl;clear hdn hl3;rw[dv2];clear dv2 gs6 gs12 gs14;have rr:=HSB.o w' hb.o;refine Zab rfl ?_
           go_wp2_with fail
           exact Zaa ⟨_,rfl,Below.refl _ _,rfl⟩
          ·obtain rfl:=Option.some.inj hi
           clear hdn hl3;rw[gs12];clear gs6 gs12 gs14;refine Zab rfl ?_
           go_wp2_with fail
           exact Zaa ⟨_,rfl,Below.refl _ _,rfl⟩
          ·obtain rfl:=Option.some.inj hi
           clear hdn hl3;rw[gs14];clear gs6 gs12 gs14;refine Zab rfl ?_
           go_wp2_with fail
           exact Zaa ⟨_,rfl,Below.refl _ _,rfl⟩
          ·obtain rfl:=Option.some.inj hi
           have dv4:f' 134 = .slice (some ⟨P,0,none⟩) un un:=hdn 4 _ 134 rfl (hl3 4 (by rfl)) rfl;have dv5:f' 135 = .int .i64 (ix:Nat):=hdn 5 _ 135 rfl (hl3 5 (by rfl)) rfl;clear hdn hl3;rw[dv4,dv5];clear dv4 dv5 gs6 gs12 gs14;have ii:=HII.o;refine Zab rfl ?_
           go_wp2_with fail
           exact Zaa ⟨_,rfl,Below.refl _ _,rfl⟩
          ·obtain rfl:=Option.some.inj hi
           have dv6:f' 136 = .pointer (some ⟨P,ix,none⟩):=hdn 6 _ 136 rfl (hl3 6 (by rfl)) rfl;clear hdn hl3;rw[dv6];clear dv6 gs6 gs12 gs14;have rr:=HLD.o w' hb.o;refine Zab rfl ?_
           go_wp2_with fail
           exact Zaa ⟨_,rfl,Below.refl _ _,rfl⟩
          ·obtain rfl:=Option.some.inj hi
           have dv3:f' 133 = .slice (some ⟨rbk,0,none⟩) mn mn:=hdn 3 _ 133 rfl (hl3 3 (by rfl)) rfl;have dv7:f' 137 = .int .i64 (d:Nat):=hdn 7 _ 137 rfl (hl3 7 (by rfl)) rfl;clear hdn hl3;rw[dv3,dv7];clear dv3 dv7 gs6 gs12 gs14;have dd:=HDD.o;refine Zab rfl ?_
           go_wp2_with fail
           exact Zaa ⟨_,rfl,Below.refl _ _,rfl⟩
          ·obtain rfl:=Option.some.inj hi
           have dv8:f' 138 = .pointer (some ⟨rbk,d,none⟩):=hdn 8 _ 138 rfl (hl3 8 (by rfl)) rfl;clear hdn hl3;rw[dv8];clear dv8 gs6 gs12 gs14;have rr:=HVV0.o w' hb.o;refine Zab rfl ?_
           go_wp2_with fail
           exact Zaa ⟨_,rfl,Below.refl _ _,rfl⟩
          ·obtain rfl:=Option.some.inj hi
           have dv9:f' 139 = .int .i64 (v0:Nat):=hdn 9 _ 139 rfl (hl3 9 (by rfl)) rfl;clear hdn hl3;rw[dv9];clear dv9 gs6 gs12 gs14;have ev:=HEV.o;refine Zab rfl ?_
           go_wp2_with fail
           exact Zaa ⟨_,rfl,Below.refl _ _,rfl⟩
          ·obtain rfl:=Option.some.inj hi
           have dv3:f' 133 = .slice (some ⟨rbk,0,none⟩) mn mn:=hdn 3 _ 133 rfl (hl3 3 (by rfl)) rfl;have dv7:f' 137 = .int .i64 (d:Nat):=hdn 7 _ 137 rfl (hl3 7 (by rfl)) rfl;clear hdn hl3;rw[dv3,dv7];clear dv3 dv7 gs6 gs12 gs14;have dd:=HDD.o;refine Zab rfl ?_
           go_wp2_with fail
           exact Zaa ⟨_,rfl,Below.refl _ _,rfl⟩
         case he =>
          intro listed a' w4 H hsn hall;have hd10:Z2w SB un ix P rbk mn d v0 10 w4 (a'.tmps.getD 140 undef):=H.done 10 _ 140 rfl (hall 10 (by decide)) rfl;have hd11:Z2w SB un ix P rbk mn d v0 11 w4 (a'.tmps.getD 141 undef):=H.done 11 _ 141 rfl (hall 11 (by decide)) rfl;have hb4:=ħ H.below;have hact:=H.actN hsn [130,131,132,133,134,135,136,137,138,139,140,141] (Zgy (by kernel_rfl));clear H hall hsn;simp only[List.foldl_cons,List.foldl_nil] at hact;generalize a'.tmps.getD 130 undef=z130 at *;generalize a'.tmps.getD 131 undef=z131 at *;generalize a'.tmps.getD 132 undef=z132 at *;generalize a'.tmps.getD 133 undef=z133 at *;generalize a'.tmps.getD 134 undef=z134 at *;generalize a'.tmps.getD 135 undef=z135 at *;generalize a'.tmps.getD 136 undef=z136 at *;generalize a'.tmps.getD 137 undef=z137 at *;generalize a'.tmps.getD 138 undef=z138 at *;generalize a'.tmps.getD 139 undef=z139 at *;generalize a'.tmps.getD 140 undef=z140 at *;generalize a'.tmps.getD 141 undef=z141 at *;subst hact;have e10:z140 = .int .i64 ((v0:Int)+1):=hd10;subst e10;clear hd10;have e11:z141 = .pointer (some ⟨rbk,d,none⟩):=hd11;subst e11;clear hd11;simp only[Act.put,List.setIfInBounds_toArray,List.set_cons_succ,List.set_cons_zero];have S4:=ħ (SR.o.below hb4.o);have k0:=HVV0.o w4 hb4.o;have f0:=HWM.o w4 hb4.o;have O4:=ħ ((OR.o.step hb4.o).setCell (a:=⟨rbk,d,none⟩) (.int .i64 ((v0:Int)+1)) (List.mem_of_getElem? HRB.o));have V4:=ħ ((VR.o.step hb4.o).off (p:=⟨rbk,d,none⟩) (fun e=>by have e:P=rbk:=e;have:=HBK.o;have:=HPL.o;omega) (.int .i64 ((v0:Int)+1)))
          have S5:Hid (ShR (w4.setCell ⟨rbk,d,none⟩ (.int .i64 ((v0:Int)+1))) rb mn (fun j m=>if j<ix+1 then sh k j m else sh (k+1) j m)):=ħ (S4.o.set HND.o HRB.o (by
           show (if ix<ix+1 then sh k ix d else sh (k+1) ix d)=v0+1
           rw[if_pos (by omega)];exact HV1.o) (fun m' hm'=>by
           show (if ix<ix+1 then sh k ix m' else sh (k+1) ix m')=(if ix<ix then sh k ix m' else sh (k+1) ix m')
           rw[if_pos (by omega),if_neg (by omega)];exact HVN.o m' hm') (fun j' m' hj'=>by
           show (if j'<ix+1 then sh k j' m' else sh (k+1) j' m')=(if j'<ix then sh k j' m' else sh (k+1) j' m');by_cases h:j'<ix
           ·rw[if_pos h,if_pos (by omega)]
           ·rw[if_neg h,if_neg (by omega)]))
          clear hb4 SR OR VR S4 HVV0 HWM HSB HLD;refine Za7 (Zab rfl ?_)
          go_wp2_with fail
          refine Zaa (Zch ?_);clear k0 f0;generalize w4.setCell ⟨rbk,d,none⟩ (.int .i64 ((v0:Int)+1))=wn at *
          go_wp2_with fail
          go_roundw
          case rel=>exact⟨ix+1,by go_num,by have:=HII.o;omega,S5,O4,V4⟩
          case measure=>have:=HII.o;simp only[intOf];omega
        ·have i3:¬ (ix:Int)<un:=by omega
         obtain rfl:un=ix:=by omega
         have SF:Hid (ShR wr rb mn (sh k)):=ħ (SR.o.congr (fun j m hj=>by
          show sh k j m=(if j<un then sh k j m else sh (k+1) j m)
          rw[if_pos (by rw[← HRC2.o];exact hj)]))
         clear SR VR
         go_wp2_with fail
         go_roundw
         case rel=>exact⟨k,(k:Int)-1,(k:Int),by rw[HC2.o];rfl,rfl,by go_num,ħ rfl,by omega,ħ (HF1.o (by trivial)),SF,OR⟩
         case measure=>simp only[intOf];omega
     | zero =>
      have hz:=HZ.o
      have ii:¬ (0:Int)≤z:=by omega
      have ii2:¬ z≥(0:Int):=by omega
      obtain⟨fe,hfe⟩:∃ b,decide (0<ct 0)=b:=⟨_,rfl⟩;rw[hfe] at HAS;have HFE:=ħ hfe;have HFS:=ħ (HP.o.fst f FR.o);have HAG2:=ħ HP.o.asg;rw[hfe] at HAG2;clear hfe
      go_upto_region 32 with (fail)
      clear ii ii2 hz HZ
      go_wp2_with (refine wpList_load_row rfl 26 (.tmp 1) rfl (w.heap.size) ?l32 26 #[.slice qo qn qc,.slice mo mn mc,.slice uo un uc] (0,0) _ XR.o Tryz.underlying26 rfl (Zbq _ _ _) ?_;(case l32=>rfl))
      refine (HAS.o wr _ _ BWR.o (HFRW.o wr OR.o)).mono ?_;rintro e wm ⟨bm,ao,an,ac,rfl,hfa⟩;have BM:=ħ bm;have XM:=ħ (XR.o.step bm);have HFA:=ħ hfa;clear bm hfa XR HAS HFRW
      go_upto_region 33 with (fail)
      go_wp2_with (refine wpList_load_row rfl 26 (.tmp 1) rfl (w.heap.size) ?l33 26 #[.slice qo qn qc,.slice mo mn mc,.slice uo un uc] (0,0) _ XM.o Tryz.underlying26 rfl (Zbq _ _ _) ?_;(case l33=>rfl))
      refine (HCT.o wm (BWR.o.trans (BM.o.mono BWR.o.size))).mono ?_;rintro e wn ⟨rfl,bn⟩;have BN:=ħ (BM.o.trans (bn.mono BM.o.size));have XN:=ħ (XM.o.step bn);have HFN:=ħ (fun W (hW:Below wn.heap.size wn W) h=>(HFA.o h).1);have HFA2:=ħ (fun W (hW:Below wn.heap.size wn W) h=>(HFA.o h).2.below (bn.trans (hW.mono bn.size)));have HCD:=ħ HP.o.cod;have HCN:=ħ HP.o.cnt;have HSH:=ħ HP.o.shr;have HPS:=ħ HP.o.pos;clear bn BM XM HFA HCT;generalize (Zcr c).1=n0 at *;generalize (Zcr c).2=e0 at *;have BWN:=ħ (BWR.o.trans (BN.o.mono BWR.o.size));have HBN:=ħ (Below.refl wn.heap.size wn)
      go_upto_region 34 with (fail)
      obtain⟨k0,hk0⟩:∃ x,ct 0=x:=⟨_,rfl⟩;rw[hk0] at HFE HCN ⊢;clear hk0
      go_cut [185] from 153 to 184 (fun bv wx=>bv = .bool false∧Hid (Below wn.heap.size wn wx))
      case first =>
       have q9:=HFE.o
       cases fe with
       | false =>
        have q8:¬ 0<k0:=of_decide_eq_false q9;have q7:decide ((0:Int)<((k0:Nat):Int))=false:=decide_eq_false (by omega);rcases HCD.o with hcd | hcd
        ·have hnc:=HCN.o hcd
         subst hnc
         have q1:(((e0:Nat):Int)==0)=true:=by rw[hcd];rfl
         have q2:(((e0:Nat):Int) != 0)=false:=by rw[hcd];rfl
         have q3:(((n0:Nat):Int) != ((n0:Nat):Int))=false:=by simp
         clear hcd
         go_wp2_with fail
         go_meet
         case rel=>exact⟨rfl,HBN⟩
        ·have q1:(((e0:Nat):Int)==0)=false:=by rw[hcd];rfl
         have q2:(((e0:Nat):Int) != 0)=true:=by rw[hcd];rfl
         have q3:(((e0:Nat):Int) != 6)=false:=by rw[hcd];rfl
         clear hcd
         go_wp2_with fail
         go_meet
         case rel=>exact⟨rfl,HBN⟩
       | true =>
        have q8:0<k0:=of_decide_eq_true q9;have q7:decide ((0:Int)<((k0:Nat):Int))=true:=decide_eq_true (by omega);obtain⟨g,hfg,hgN,hge⟩:=HFS.o (by have:=HAG2.o;simpa using this);rw[HUE.o] at hge;subst hfg;obtain rfl:un=an:=(HFN.o wn (Below.refl _ _) (by first | rfl | trivial)).symm
        have hmx:max ((g:Nat):Int) 0=((g:Nat):Int):=by omega
        rcases HCD.o with hcd | hcd
        ·have hnc:=HCN.o hcd
         subst hnc
         have q1:(((e0:Nat):Int)==0)=true:=by rw[hcd];rfl
         have q2:(((e0:Nat):Int) != 0)=false:=by rw[hcd];rfl
         have q3:(((n0:Nat):Int) != ((n0:Nat):Int))=false:=by simp
         clear hcd
         go_wp2_with (refine Zaw (by rfl) 26 (.tmp 1) rfl (w.heap.size) ?l34 26 #[.slice qo qn qc,.slice mo mn mc,.slice uo un uc] (0,0) _ XN.o Tryz.underlying26 rfl (Zbq _ _ _) ?_;(case l34=>rfl))
         refine (HLI.o wn g BWN.o (by omega)).mono ?_;rintro e wp ⟨⟨P2,rfl,-,hv⟩,bp⟩;have BP:=ħ bp
         have HSM:=ħ (Zdi wp ((Zdd mn un g).map Int.ofNat) ao (some ⟨P2,0,none⟩) ac un (by
          have:=HFA2.o wp bp (by first | rfl | trivial)
          rwa [← hge] at this) (Ze8 hv) (by rw[List.length_map,Zbv];omega))
         rw[List.length_map,Zbv] at HSM;clear bp hv
         go_wp2_with fail
         refine HSM.o.mono ?_;rintro e wq ⟨rfl,bq⟩;have BQ:=ħ (BP.o.trans (bq.mono BP.o.size));clear bq HSM
         go_wp2_with fail
         go_meet
         case rel=>exact⟨rfl,BQ⟩
        ·have q1:(((e0:Nat):Int)==0)=false:=by rw[hcd];rfl
         have q2:(((e0:Nat):Int) != 0)=true:=by rw[hcd];rfl
         have q3:(((e0:Nat):Int) != 6)=false:=by rw[hcd];rfl
         clear hcd
         go_wp2_with (refine Zaw (by rfl) 26 (.tmp 1) rfl (w.heap.size) ?l34 26 #[.slice qo qn qc,.slice mo mn mc,.slice uo un uc] (0,0) _ XN.o Tryz.underlying26 rfl (Zbq _ _ _) ?_;(case l34=>rfl))
         refine (HLI.o wn g BWN.o (by omega)).mono ?_;rintro e wp ⟨⟨P2,rfl,-,hv⟩,bp⟩;have BP:=ħ bp
         have HSM:=ħ (Zdi wp ((Zdd mn un g).map Int.ofNat) ao (some ⟨P2,0,none⟩) ac un (by
          have:=HFA2.o wp bp (by first | rfl | trivial)
          rwa [← hge] at this) (Ze8 hv) (by rw[List.length_map,Zbv];omega))
         rw[List.length_map,Zbv] at HSM;clear bp hv
         go_wp2_with fail
         refine HSM.o.mono ?_;rintro e wq ⟨rfl,bq⟩;have BQ:=ħ (BP.o.trans (bq.mono BP.o.size));clear bq HSM
         go_wp2_with fail
         go_meet
         case rel=>exact⟨rfl,BQ⟩
      case rest =>
       obtain⟨rfl,BX⟩:=hcut;generalize wc=wx at *;have BXR:=ħ (BN.o.trans (BX.o.mono BN.o.size));have HBX:=ħ (fun W (hW:Below wx.heap.size wx W)=>BWR.o.trans ((BXR.o.trans (hW.mono BXR.o.size)).mono BWR.o.size));have HSX:=ħ (fun W (hW:Below wx.heap.size wx W)=>(HSBW.o wr OR.o).step (BXR.o.trans (hW.mono BXR.o.size)));have HRX:=ħ (fun W (hW:Below wx.heap.size wx W)=>SR.o.below (BXR.o.trans (hW.mono BXR.o.size)));have HXX:=ħ (fun W (hW:Below wx.heap.size wx W)=>(XN.o.step BX.o).step hW);have HSL0:=ħ (fun i m=>HP.o.sL 0 i m);clear BX BXR BN BWN HBN XN OR SR FR HFA2 HFN HFS HAG2 HCN HP HLI HSBW HCAN HRBL HND HLB LL EL HXW HBW BWR LR HSL
       go_upto_region 36 with (fail)
       go_upto_region 37 with (fail)
       go_loopw [19] (fun iv wr=>∃ (ix:Nat),iv = .int .i64 ix∧ix≤un∧Hid (Below wx.heap.size wx wr)) (fun i _=>(un-intOf i).toNat)
       case atStart=>exact⟨0,rfl,by omega,ħ (Below.refl _ _)⟩
       case round =>
        obtain⟨ix,rfl,hix,LR⟩:=hrel;have e3:IntKind.i64.wrap ((ix:Int)+1)=((ix+1:Nat):Int):=IntWalk.i64_in _ (by omega);by_cases hin:ix<un
        ·have ii:(ix:Int)<un:=by omega
         generalize wr=wo at *;obtain⟨rbk,hrbk⟩:∃ b,rb[ix]?=some b:=⟨_,List.getElem?_eq_getElem (by rw[HRC2.o];exact hin)⟩;have HS6:Hid (∀ W,Below wo.heap.size wo W→W.cell? ⟨SB,ix,none⟩=some (.slice (some ⟨rbk,0,none⟩) mn mn)):=ħ (fun W (hW:Below wo.heap.size wo W)=>(HSX.o W (LR.o.trans (hW.mono LR.o.size))).cell ix _ (Zp0 (sV mn) un hrbk));have HR6:=ħ (fun W (hW:Below wo.heap.size wo W)=>HRX.o W (LR.o.trans (hW.mono LR.o.size)) ix rbk hrbk);obtain⟨sf,hsf⟩:∃ f,sh 0 ix=f:=⟨_,rfl⟩;have HSF:=ħ hsf;rw[hsf] at HR6;have HPI:=ħ (HPS.o ix hin);have HSI:=ħ (HSH.o ix hin);rw[hsf] at HPI HSI;have OM0:=ħ ((OwnK.made wo 3 1));have BM0:=ħ ((Below.refl wo.heap.size wo).alloc (Nat.le_refl _) (.cells #[] 3));clear hrbk hsf
         go_upto_region 40 with (fail)
         generalize wo.alloc (.cells #[] 3)=ws at *
         go_upto_region 41 with (fail)
         go_loopw [20,21] (fun ov mv wr=>∃ (m gm om cm n:Nat),ov = .slice (some ⟨gm,om,none⟩) n cm∧mv = .int .i64 m∧m≤mn∧Hid (n=((List.range m).filter (fun m=>decide (0<sf m))).length)∧n≤m∧Hid (OwnK wr wo.heap.size 1 n cm (Zau ((List.range m).filter (fun m=>decide (0<sf m)))) (some ⟨gm,om,none⟩))∧Hid (Below wo.heap.size wo wr)) (fun _ m _=>(mn-intOf m).toNat)
         case atStart=>exact⟨0,wo.heap.size,0,0,0,rfl,rfl,by omega,ħ rfl,by omega,OM0,BM0⟩
         case round =>
          clear OM0 BM0;obtain⟨m,gm,om,cm,n,rfl,rfl,hm,HN,hnm,OM,BM⟩:=hrel;have e4:IntKind.i64.wrap ((m:Int)+1)=((m+1:Nat):Int):=IntWalk.i64_in _ (by omega);have s0:=HS6.o wr BM.o;by_cases hmn:m<mn
          ·have mm:(m:Int)<mn:=by omega
           have r0:=(HR6.o wr BM.o).cell m _ (Zd1 (Zdn sf hmn));obtain⟨sv,hsv⟩:∃ x,sf m=x:=⟨_,rfl⟩;rw[hsv] at r0
           have HNX:Hid ((List.range (m+1)).filter (fun m=>decide (0<sf m))=if 0<sv then (List.range m).filter (fun m=>decide (0<sf m))++[m] else (List.range m).filter (fun m=>decide (0<sf m))):=ħ (by
            rw[Zbk,hsv];simp)
           clear hsv;by_cases hsp:0<sv
           ·have hsi:(0:Int)<((sv:Nat):Int):=by omega
            have hd2:decide (0<sv)=true:=decide_eq_true hsp;have HN2:Hid ((List.range (m+1)).filter (fun m=>decide (0<sf m))=(List.range m).filter (fun m=>decide (0<sf m))++[m]):=ħ (by rw[HNX.o,if_pos hsp])
            go_upto_region 44 with (fail)
            clear s0 r0
            go_upto_region 42 with (at_builtin;refine Zdu 33 3 (.int .i64 0) 1 8 Tryz.underlying33 Zbf rfl (by omega) (by omega) wr wo.heap.size rfl (.tmp 210) (.tmp 212) rfl (some ⟨gm,om,none⟩) cm n (Zau ((List.range m).filter (fun m=>decide (0<sf m)))) ?p1 OM.o BM.o.size 1 1 #[.int .i64 (m:Int)] 3 ?p2 rfl (by omega) ?p3 ?p4 ?_;(case p1=>rfl);(case p2=>rfl);(case p3=>simp[Value.oneCell']);(case p4=>omega);intro g7 off7 c7 wv o8 gr8 b8 or8;have OA:=ħ o8;have LA:=ħ (BM.o.trans b8);clear o8 gr8 b8 or8)
            go_wp2_with fail
            go_roundw
            case rel=>exact⟨m+1,g7,off7,c7,n+1,rfl,by go_num,by omega,ħ (by rw[HN2.o,List.length_append,← HN.o];rfl),by omega,ħ (by rw[HN2.o];unfold Zau;rw[List.map_append];exact OA.o),LA⟩
            case measure=>simp only[intOf];omega
           ·have hsi:¬ (0:Int)<((sv:Nat):Int):=by omega
            have hd2:decide (0<sv)=false:=decide_eq_false hsp;have HN2:Hid ((List.range (m+1)).filter (fun m=>decide (0<sf m))=(List.range m).filter (fun m=>decide (0<sf m))):=ħ (by rw[HNX.o,if_neg hsp])
            go_wp2_with fail
            go_roundw
            case rel=>exact⟨m+1,gm,om,cm,n,rfl,by go_num,by omega,ħ (by rw[HN2.o];exact HN.o),by omega,ħ (by rw[HN2.o];exact OM.o),BM⟩
            case measure=>simp only[intOf];omega
          ·have mm:¬ (m:Int)<mn:=by omega
           obtain rfl:mn=m:=by omega
           have BL:=ħ (LR.o.trans (BM.o.mono LR.o.size));have XR:=ħ (HXX.o wr BL.o);have OWF:=ħ (Zcq OM.o HN.o);obtain⟨own,how⟩:∃ l,(List.range mn).filter (fun m=>decide (0<sf m))=l:=⟨_,rfl⟩;rw[how] at HPI OWF HN;have HOW:Hid (own.length≤mn):=ħ (by rw[← HN.o];exact hnm);clear how OM
           go_upto_region 45 with (fail)
           clear s0 mm
           go_wp2_with (refine wpList_load_row rfl 26 (.tmp 1) rfl (w.heap.size) ?l45 26 #[.slice qo qn qc,.slice mo mn mc,.slice uo un uc] (0,0) _ XR.o Tryz.underlying26 rfl (Zbq _ _ _) ?_;(case l45=>rfl))
           refine (HSR.o wr ix (HBX.o wr BL.o)).mono ?_;intro e wt hq;unfold Zwp at hq;rw[HSI.o.1] at hq;obtain⟨bt,so,sc,rfl,hsf2⟩:=hq;have BT:=ħ (BM.o.trans (bt.mono BM.o.size));have BLT:=ħ (BL.o.trans (bt.mono BL.o.size));have XT:=ħ (XR.o.step bt);have OWT:=ħ (fun W (hW:Below wt.heap.size wt W)=>OWF.o.below (bt.trans (hW.mono bt.size)));have HS2:=ħ (fun W (hW:Below wt.heap.size wt W)=>hsf2.below hW);clear bt hsf2 XR OWF BM BL;obtain⟨sl,hsl⟩:∃ l,(Zer c (ix:Int)).1=l:=⟨_,rfl⟩;have HSE:=ħ HSI.o.2;rw[hsl] at HS2 HSE;rw[hsl];obtain⟨sn,hsn⟩:∃ n,sl.length=n:=⟨_,rfl⟩;have HSN:=ħ hsn;rw[hsn];clear hsl hsn HSI
           go_upto_region 46 with (fail)
           go_wp2_with (refine wpList_load_row rfl 26 (.tmp 1) rfl (w.heap.size) ?l46 26 #[.slice qo qn qc,.slice mo mn mc,.slice uo un uc] (0,0) _ XT.o Tryz.underlying26 rfl (Zbq _ _ _) ?_;(case l46=>rfl))
           refine (HPO.o wt ix (HBX.o wt BLT.o)).mono ?_;rintro e wu ⟨bu,po,pc,rfl,hpf⟩;rw[HPI.o] at hpf
           have hpl:(Zol c (ix:Int)).length=n:=by rw[HPI.o];exact HN.o.symm
           rw[hpl];have HSM:=ħ (Zdi wu (own.map Int.ofNat) po (some ⟨gm,om,none⟩) pc cm hpf (OWT.o wu bu) (by rw[List.length_map];have:=HOW.o;omega));rw[List.length_map,← HN.o] at HSM;have BU:=ħ (BT.o.trans (bu.mono BT.o.size));have BLU:=ħ (BLT.o.trans (bu.mono BLT.o.size));have HS3:=ħ (fun W (hW:Below wu.heap.size wu W)=>HS2.o W (bu.trans (hW.mono bu.size)));clear bu hpf hpl XT BT BLT HS2 OWT
           go_wp2_with fail
           refine HSM.o.mono ?_;rintro e wv ⟨rfl,bv⟩;have BV:=ħ (BU.o.trans (bv.mono BU.o.size));have BLV:=ħ (BLU.o.trans (bv.mono BLU.o.size));have HS4:=ħ (fun W (hW:Below wv.heap.size wv W)=>HS3.o W (bv.trans (hW.mono bv.size)))
           have hee:(((e0:Nat):Int) != ((e0:Nat):Int))=false:=by simp
           clear bv HSM BU BLU HS3;rcases HCD.o with hcd | hcd
           ·have q1:(((e0:Nat):Int)==0)=true:=by rw[hcd];rfl
            have hse:=HSE.o hcd;have s0:=HS6.o wv BV.o;have HRW:=ħ (fun W (hW:Below wv.heap.size wv W)=>(HR6.o W (BV.o.trans (hW.mono BV.o.size))))
            obtain rfl:mn=sn:=by rw[← HSN.o,hse,List.length_map,List.length_range]
            have HSM2:=ħ (Zdi wv (sl.map Int.ofNat) so (some ⟨rbk,0,none⟩) sc mn (HS4.o wv (Below.refl _ _)) (by
             have:=Ze8 (HRW.o wv (Below.refl _ _))
             rw[hse];exact this) (by rw[List.length_map,HSN.o];omega))
            rw[List.length_map,HSN.o] at HSM2;clear hcd hse
            go_wp2_with fail
            refine HSM2.o.mono ?_;rintro e wy ⟨rfl,by2⟩;have BY:=ħ (BLV.o.trans (by2.mono BLV.o.size));clear by2 s0
            go_wp2_with fail
            go_roundw
            case rel=>exact⟨ix+1,by go_num,by omega,BY⟩
            case measure=>simp only[intOf];omega
           ·have q1:(((e0:Nat):Int)==0)=false:=by rw[hcd];rfl
            clear hcd
            go_wp2_with fail
            go_roundw
            case rel=>exact⟨ix+1,by go_num,by omega,BLV⟩
            case measure=>simp only[intOf];omega
        ·have ii:¬ (ix:Int)<un:=by omega
         have BF:=ħ (HBX.o wr LR.o)
         go_wp2_with fail
         go_ret;exact⟨rfl,BF.o⟩
end Go.Proofs.YtbcgocpihobjnaaGreatDoor
