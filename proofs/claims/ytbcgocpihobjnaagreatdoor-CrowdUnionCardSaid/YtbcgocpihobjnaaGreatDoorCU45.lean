import Derived.Test.YtbcgocpihobjnaaGreatDoorCU44
set_option linter.all false
set_option maxHeartbeats 32000000
set_option maxRecDepth 100000
namespace Go.Proofs.YtbcgocpihobjnaaGreatDoor
open Go.RowKit Go.Sort Go.Maps
theorem Zyd (t:Array Value) (h:t.size=176):∃ f:Nat→Value,t=#[f 0,f 1,f 2,f 3,f 4,f 5,f 6,f 7,f 8,f 9,f 10,f 11,f 12,f 13,f 14,f 15,f 16,f 17,f 18,f 19,f 20,f 21,f 22,f 23,f 24,f 25,f 26,f 27,f 28,f 29,f 30,f 31,f 32,f 33,f 34,f 35,f 36,f 37,f 38,f 39,f 40,f 41,f 42,f 43,f 44,f 45,f 46,f 47,f 48,f 49,f 50,f 51,f 52,f 53,f 54,f 55,f 56,f 57,f 58,f 59,f 60,f 61,f 62,f 63,f 64,f 65,f 66,f 67,f 68,f 69,f 70,f 71,f 72,f 73,f 74,f 75,f 76,f 77,f 78,f 79,f 80,f 81,f 82,f 83,f 84,f 85,f 86,f 87,f 88,f 89,f 90,f 91,f 92,f 93,f 94,f 95,f 96,f 97,f 98,f 99,f 100,f 101,f 102,f 103,f 104,f 105,f 106,f 107,f 108,f 109,f 110,f 111,f 112,f 113,f 114,f 115,f 116,f 117,f 118,f 119,f 120,f 121,f 122,f 123,f 124,f 125,f 126,f 127,f 128,f 129,f 130,f 131,f 132,f 133,f 134,f 135,f 136,f 137,f 138,f 139,f 140,f 141,f 142,f 143,f 144,f 145,f 146,f 147,f 148,f 149,f 150,f 151,f 152,f 153,f 154,f 155,f 156,f 157,f 158,f 159,f 160,f 161,f 162,f 163,f 164,f 165,f 166,f 167,f 168,f 169,f 170,f 171,f 172,f 173,f 174,f 175]:=by
 obtain⟨l⟩:=t;have hl:l.length=176:=h
 have e:l=(List.range 176).map (fun i=>l.getD i undef):=by
  apply List.ext_getElem
  ·simp[hl]
  ·intro i h1 h2
   simp[List.getD,h1]
 exact⟨fun i=>l.getD i undef,congrArg List.toArray e⟩
def unF (X gl ol ln lc ix qi gq oq qn qc gm om mn mc j nb bc an ac:Nat) (bo ao:Option Addr) (a0 a3 et:Int) (a1 a2:ByteArray) (bt:Bool) (i:Nat) (W:World) (v:Value):Prop:=match i with
 | 0=>v = .pointer (some ⟨X,0,none⟩)
 | 1=>v = .slice (some ⟨gq,oq,none⟩) qn qc
 | 2=>v = .slice (some ⟨gl,ol,none⟩) ln lc
 | 3=>v = .int .i64 (ix:Nat)
 | 4=>v = .pointer (some ⟨gl,ol+ix,none⟩)
 | 5=>v = .int .i64 (qi:Nat)
 | 6=>v = .pointer (some ⟨gq,oq+qi*5,none⟩)
 | 7=>v = .agg #[.int .i64 a0,.string a1,.string a2,.int .i64 a3,.slice ao an ac]
 | 8=>v = .pointer (some ⟨X,1,none⟩)
 | 9=>v = .slice (some ⟨gm,om,none⟩) mn mc
 | 10=>v = .int .i64 (j:Nat)
 | 11=>v = .pointer (some ⟨gm,om+j*3,none⟩)
 | 12=>v = .pointer (some ⟨gm,om+j*3,none⟩)
 | 13=>v = .slice bo nb bc
 | 14=>v = .tuple #[.bool bt,.int .i64 et]
 | 15=>v = .tuple #[.bool bt,.int .i64 et]
 | 16=>v = .bool bt
 | 17=>v = .int .i64 et
 | 18=>v = .bool bt
 | 19=>v = .int .i64 et
 | _=>True
theorem Zvr (X gl ol ln lc ix qi gq oq qn qc gm om mn mc j nb bc an ac:Nat) (bo ao:Option Addr) (a0 a3 et:Int) (a1 a2:ByteArray) (bt:Bool):∀ i w w' v,unF X gl ol ln lc ix qi gq oq qn qc gm om mn mc j nb bc an ac bo ao a0 a3 et a1 a2 bt i w v→Below w.heap.size w w'→unF X gl ol ln lc ix qi gq oq qn qc gm om mn mc j nb bc an ac bo ao a0 a3 et a1 a2 bt i w' v:=by
 intro i w w' v h hb
 match i with
 | 0=>exact h
 | 1=>exact h
 | 2=>exact h
 | 3=>exact h
 | 4=>exact h
 | 5=>exact h
 | 6=>exact h
 | 7=>exact h
 | 8=>exact h
 | 9=>exact h
 | 10=>exact h
 | 11=>exact h
 | 12=>exact h
 | 13=>exact h
 | 14=>exact h
 | 15=>exact h
 | 16=>exact h
 | 17=>exact h
 | 18=>exact h
 | 19=>exact h
 | k+20=>trivial
theorem Zta (w:World) (c:Crw) (cs:List Value) (B:Nat) (l:List Int) (lo:Option Addr) (lc:Nat) (ha:ArgC w c cs B) (hl:Zaj Za9 w lo l) (hll:l.length≤1000000) :
  Calls Tryz.prog 29 #[.agg cs.toArray,.slice lo l.length lc] w fun e w'=>Below w.heap.size w w'∧∃ o cap,e = .returned (.slice o (Zdb c l).length cap)∧Zaj Za9 w' o ((Zdb c l).map Int.ofNat):=by
 refine (Zoe w c cs B l lo lc ha hl hll).mono ?_;intro e w' h;unfold Zkc at h;obtain⟨⟨o,cap,h1,h2⟩,hb⟩:=h;exact⟨hb,o,cap,h1,Zc7 h2 rfl⟩
theorem Zvs (l:List Int) (x:Int):ivs l++[.int .i64 x]=ivs (l++[x]):=by unfold ivs;rw[List.map_append];rfl
theorem Zpu (w:World) (c:Crw) (cs:List Value) (B:Nat) (l:List Int) (lo:Option Addr) (lc:Nat) (hcw:Zge w c cs) (hG:Tab w B) (hL:LenC c) (hby:∀ p∈c.qs,ByL p) (hnm:∀ m∈c.ms,∀ b∈m.b,NmL b.n) (hl:Zaj Za9 w lo l) (hll:l.length≤9223372036854775807) :
  Calls Tryz.prog 6 #[.agg cs.toArray,.slice lo l.length lc] w fun e w'=>e = .returned (.bool true)∧Below w.heap.size w w':=by
 have HLW:=ħ (fun W (hW:Below w.heap.size w W)=>hl.below hW);have HUN:=ħ (fun W (hW:Below w.heap.size w W) (hll:l.length≤1000000) ha=>Zl4 W c cs B l lo lc ha (hl.below hW) hll);have HLN:Hid (∃ ln,l.length=ln):=ħ ⟨_,rfl⟩;have HVC:=ħ (fun W (hc:Zge W c cs) (hT:Tab W B) (hok:CrwOk c)=>Zjd W c cs hc B hT hok);have HTB:=ħ (fun W (hW:Below w.heap.size w W)=>Zbe.step (w:=w) hG hW);have HCW:=ħ (fun W (hW:Below w.heap.size w W)=>hcw.below hW);have HFK:=ħ (fun hf=>Zxf (c:=c) hf hL hby hnm);have HFW:=ħ (fun W (hW:Below w.heap.size w W)=>Zvh W c cs (hcw.below hW) hL);have hun:=hL.nu;have hmn:=hL.nm;have hqn:=hL.nq;obtain⟨qo,qc,mo,mc,uo,uc,rfl,-⟩:=hcw;clear hL hby hnm hG hl;generalize hqe:c.qs.length=qn at *;generalize hme:c.ms.length=mn at *;generalize hue:c.us.length=un at *;have HUE:=ħ hue;have HME:=ħ hme;have HQE:=ħ hqe;clear hue hme hqe;have X1:Hid (Zaf (w.alloc (.cells #[.slice qo qn qc,.slice mo mn mc,.slice uo un uc] 26)) w.heap.size 26 [.slice qo qn qc,.slice mo mn mc,.slice uo un uc]):=ħ (heap_alloc_new w _);have B1:=ħ ((Below.refl w.heap.size w).alloc (Nat.le_refl _) (.cells #[.slice qo qn qc,.slice mo mn mc,.slice uo un uc] 26))
 go_enter Tryz.func6,Tryz.ntmps6
 go_upto_region 1 with (fail)
 generalize w.alloc (.cells #[.slice qo qn qc,.slice mo mn mc,.slice uo un uc] 26)=w1 at *
 go_wp2_with fail
 refine (Zsy w1 B (HTB.o w1 B1.o)).mono ?_;rintro e w2 ⟨rfl,b2⟩;have X2:=ħ (X1.o.step b2);have B2:=ħ (B1.o.trans (b2.mono B1.o.size));clear b2 X1 B1
 go_upto_region 2 with (fail)
 go_wp2_with (refine wpList_load_row rfl 26 (.tmp 2) rfl (w.heap.size) ?x1 26 #[.slice qo qn qc,.slice mo mn mc,.slice uo un uc] (0,0) _ X2.o Tryz.underlying26 rfl (Zb9 _ _ _) ?_;(case x1=>rfl))
 refine (HFW.o w2 B2.o).mono ?_;rintro e w3 ⟨rfl,b3⟩;have X3:=ħ (X2.o.step b3);have B3:=ħ (B2.o.trans (b3.mono B2.o.size));clear b3 X2 B2 HFW;obtain⟨V,hV⟩:∃ V,Zya c=V:=⟨_,rfl⟩;rw[hV];have HV:=ħ hV;clear hV
 cases V with
 | false =>
  go_wp2_with fail
  go_ret;exact⟨rfl,B3.o⟩
 | true =>
  obtain⟨hok,h999,h65,h129⟩:=HFK.o HV.o;have HOK:=ħ hok;clear hok;have HAG:=ħ (fun W (hW:Below w.heap.size w W)=>(⟨HCW.o W hW,HTB.o W hW,HOK.o,by rw[HUE.o];exact h999⟩:ArgC W c [.slice qo qn qc,.slice mo mn mc,.slice uo un uc] B));clear HFK HTB HCW HOK;have HVC:=ħ (fun W (hW:Below w.heap.size w W)=>HVC.o W (HAG.o W hW).crw (HAG.o W hW).tab (HAG.o W hW).ok)
  go_wp2_with (refine Zap (by rfl) 26 (.tmp 2) rfl (w.heap.size) ?x2 26 #[.slice qo qn qc,.slice mo mn mc,.slice uo un uc] (0,0) _ X3.o Tryz.underlying26 rfl (Zb9 _ _ _) ?_;(case x2=>rfl))
  refine (HVC.o w3 B3.o).mono ?_;rintro e w4 ⟨rfl,b4⟩;have X4:=ħ (X3.o.step b4);have B4:=ħ (B3.o.trans (b4.mono B3.o.size));clear b4 X3 B3 HVC;obtain⟨vv,hvv⟩:∃ x,Zao c=x:=⟨_,rfl⟩;rw[hvv]
  cases vv with
  | false =>
   go_wp2_with fail
   go_ret;exact⟨rfl,B4.o⟩
  | true =>
  have HVV:=ħ hvv;clear hvv;obtain⟨ln,hln⟩:=HLN.o;rw[hln] at HUN hll ⊢;have HLE:=ħ hln;clear hln HLN;by_cases h5:(5:Int)<((ln:Nat):Int)
  ·go_wp2_with fail
   go_ret;exact⟨rfl,B4.o⟩
  have hl5:ln≤5:=by omega
  have HUN:=ħ (fun W (hW:Below w.heap.size w W)=>HUN.o W hW (by omega) (HAG.o W hW));have HCM:=ħ (fun W (hW:Below w.heap.size w W) l' lo' lc' (h1:Zaj Za9 W lo' l') (h2:l'.length≤1000000)=>Zta W c _ B l' lo' lc' (HAG.o W hW) h1 h2);have HAI:=ħ (Zvq (c:=c) HVV.o l)
  have HPY:Hid (Zcl c l=true→UniP c l ln mn (Zfp (Zeg c l)) (Zef c l)):=ħ (fun h=>by
   have:=Zxg h (by rw[HLE.o];exact hl5) (by rw[HME.o];exact h65)
   rwa [HLE.o,HME.o] at this)
  have HPN:Hid (Zcl c l=false→Zef c l=0∧Zdb c l=[]):=ħ (fun h=>by
   unfold Zef Zdb;rw[h]
   exact⟨rfl,rfl⟩)
  have HGI:=ħ (fun j (hj:j<ln)=>(by
   rw[List.getD_eq_getElem?_getD,List.getElem?_eq_getElem (by rw[HLE.o];exact hj)];rfl:l[j]?=some (l.getD j 0)))
  rw[HLE.o,HQE.o] at HAI;obtain⟨ad,had⟩:∃ b,Zcl c l=b:=⟨_,rfl⟩;obtain⟨UF,huf⟩:∃ n,Zef c l=n:=⟨_,rfl⟩;rw[had,huf] at HUN;rw[had] at HAI;rw[had,huf] at HPY HPN;clear had huf
  go_wp2_with (refine wpList_load_row rfl 26 (.tmp 2) rfl (w.heap.size) ?x3 26 #[.slice qo qn qc,.slice mo mn mc,.slice uo un uc] (0,0) _ X4.o Tryz.underlying26 rfl (Zb9 _ _ _) ?_;(case x3=>rfl))
  refine (HUN.o w4 B4.o).mono ?_;rintro e w5 ⟨rfl,b5⟩;have X5:=ħ (X4.o.step b5);have B5:=ħ (B4.o.trans (b5.mono B4.o.size));have HX5:=ħ (fun W (hW:Below w5.heap.size w5 W)=>X5.o.step hW);have HL5:=ħ (fun W (hW:Below w5.heap.size w5 W)=>HLW.o W (B5.o.trans (hW.mono B5.o.size)));clear b5 X4 B4 HUN X5
  cases ad with
  | false =>
   go_upto_region 6 with (fail)
   go_loopw [8] (fun iv wr=>∃ (ix:Nat),iv = .int .i64 ix∧ix≤ln∧Hid (∀ j,j<ix→0≤l.getD j 0∧l.getD j 0<((qn:Nat):Int))∧Hid (Below w5.heap.size w5 wr)) (fun i _=>(ln-intOf i).toNat)
   case atStart=>exact⟨0,rfl,by omega,ħ (fun j hj=>absurd hj (Nat.not_lt_zero j)),ħ (Below.refl _ _)⟩
   case round =>
    obtain⟨ix,rfl,hi,HJ,LR⟩:=hrel;have e2:IntKind.i64.wrap ((ix:Int)+1)=((ix+1:Nat):Int):=IntWalk.i64_in _ (by omega);have c0:=(HX5.o wr LR.o).cell 0 _ rfl;by_cases hin:ix<ln
    ·have ii:(ix:Int)<ln:=by omega
     obtain⟨gl,ol,hol,hgl,a0⟩:=(HL5.o wr LR.o).int ix _ (HGI.o ix hin);have HOL:=ħ hol;subst hol;clear hgl;obtain⟨li,hli⟩:∃ x,l.getD ix 0=x:=⟨_,rfl⟩;rw[hli] at a0;have HLI:=ħ hli;clear hli;by_cases hn1:li<0
     ·go_upto_region 8 with (fail)
      go_quiet (fail)
      have B3:=ħ (below_drewN LR.o nq);clear a0 c0 LR;generalize wr.drewN nq=wd at *;have BF:=ħ (B5.o.trans (B3.o.mono B5.o.size));have hcm:=HCM.o wd BF.o l _ lc (HL5.o wd B3.o) (by rw[HLE.o];omega);rw[(HPN.o (by trivial)).2,HLE.o] at hcm;have hcm:=ħ hcm;have XD:=ħ (HX5.o wd B3.o);rw[(HPN.o (by trivial)).1];clear B3
      go_wp2_with (refine Zap (by rfl) 26 (.tmp 2) rfl (w.heap.size) ?xb 26 #[.slice qo qn qc,.slice mo mn mc,.slice uo un uc] (0,0) _ XD.o Tryz.underlying26 rfl (Zb9 _ _ _) ?_;(case xb=>rfl))
      refine hcm.o.mono ?_;rintro e wf ⟨bf,fo,fc,rfl,-⟩;have BG:=ħ (BF.o.trans (bf.mono BF.o.size));clear bf BF XD hcm;rw[List.length_nil]
      go_wp2_with fail
      go_ret;exact⟨rfl,BG.o⟩
     ·by_cases hq1:li≥((qn:Nat):Int)
      ·go_upto_region 8 with (fail)
       go_quiet (fail)
       have B3:=ħ (below_drewN LR.o nq);clear a0 c0 LR;generalize wr.drewN nq=wd at *;have BF:=ħ (B5.o.trans (B3.o.mono B5.o.size));have hcm:=HCM.o wd BF.o l _ lc (HL5.o wd B3.o) (by rw[HLE.o];omega);rw[(HPN.o (by trivial)).2,HLE.o] at hcm;have hcm:=ħ hcm;have XD:=ħ (HX5.o wd B3.o);rw[(HPN.o (by trivial)).1];clear B3
       go_wp2_with (refine Zap (by rfl) 26 (.tmp 2) rfl (w.heap.size) ?xb 26 #[.slice qo qn qc,.slice mo mn mc,.slice uo un uc] (0,0) _ XD.o Tryz.underlying26 rfl (Zb9 _ _ _) ?_;(case xb=>rfl))
       refine hcm.o.mono ?_;rintro e wf ⟨bf,fo,fc,rfl,-⟩;have BG:=ħ (BF.o.trans (bf.mono BF.o.size));clear bf BF XD hcm;rw[List.length_nil]
       go_wp2_with fail
       go_ret;exact⟨rfl,BG.o⟩
      ·go_upto_region 8 with (fail)
       go_quiet (fail)
       have B3:=ħ (below_drewN LR.o nq);clear a0 c0 LR;generalize wr.drewN nq=wd at *
       go_wp2_with fail
       go_roundw
       case rel=>exact⟨ix+1,by go_num,by omega,ħ (fun j hj=>by
        rcases Nat.lt_or_ge j ix with h | h
        ·exact HJ.o j h
        ·obtain rfl:j=ix:=by omega
         rw[HLI.o];omega),B3⟩
       case measure=>simp only[intOf];omega
    ·have ii:¬ (ix:Int)<ln:=by omega
     obtain rfl:ln=ix:=by omega
     exact absurd (HAI.o.2 HJ.o) (by decide)
  | true =>
   have HP:=ħ (HPY.o (by trivial));clear HPY HPN;obtain⟨S,hS⟩:∃ f,Zfp (Zeg c l)=f:=⟨_,rfl⟩;rw[hS] at HP;clear hS;have HIR:=ħ (HAI.o.1 (by trivial))
   go_upto_region 6 with (fail)
   go_loopw [8] (fun iv wr=>∃ (ix:Nat),iv = .int .i64 ix∧ix≤ln∧Hid (∀ j,j<ix→0≤l.getD j 0∧l.getD j 0<((qn:Nat):Int))∧Hid (Below w5.heap.size w5 wr)) (fun i _=>(ln-intOf i).toNat)
   case atStart=>exact⟨0,rfl,by omega,ħ (fun j hj=>absurd hj (Nat.not_lt_zero j)),ħ (Below.refl _ _)⟩
   case round =>
    obtain⟨ix,rfl,hi,HJ,LR⟩:=hrel;have e2:IntKind.i64.wrap ((ix:Int)+1)=((ix+1:Nat):Int):=IntWalk.i64_in _ (by omega);have c0:=(HX5.o wr LR.o).cell 0 _ rfl;by_cases hin:ix<ln
    ·have ii:(ix:Int)<ln:=by omega
     obtain⟨gl,ol,hol,hgl,a0⟩:=(HL5.o wr LR.o).int ix _ (HGI.o ix hin);have HOL:=ħ hol;subst hol;clear hgl;obtain⟨li,hli⟩:∃ x,l.getD ix 0=x:=⟨_,rfl⟩;rw[hli] at a0;have hlr:=(HAI.o.1 (by trivial)) ix hin;rw[hli] at hlr;obtain⟨hn0,hq0⟩:=hlr
     have hn1:¬ li<0:=by omega
     have hq1:¬ li≥((qn:Nat):Int):=by omega
     have HLI:=ħ hli;clear hn0 hq0 hli
     go_upto_region 8 with (fail)
     go_quiet (fail)
     have B3:=ħ (below_drewN LR.o nq);clear a0 c0 LR;generalize wr.drewN nq=wd at *
     go_wp2_with fail
     go_roundw
     case rel=>exact⟨ix+1,by go_num,by omega,ħ (fun j hj=>by
      rcases Nat.lt_or_ge j ix with h | h
      ·exact HJ.o j h
      ·obtain rfl:j=ix:=by omega
       rw[HLI.o];omega),B3⟩
     case measure=>simp only[intOf];omega
    ·have ii:¬ (ix:Int)<ln:=by omega
     obtain rfl:ln=ix:=by omega
     clear c0 ii e2 HJ HAI hin;have BM0:=ħ (B5.o.trans (LR.o.mono B5.o.size));have HXM:=ħ (fun W (hW:Below wr.heap.size wr W)=>HX5.o W (LR.o.trans (hW.mono LR.o.size)));have HLM:=ħ (fun W (hW:Below wr.heap.size wr W)=>HL5.o W (LR.o.trans (hW.mono LR.o.size)));clear LR HX5 HL5 B5;generalize wr=wm at *;obtain⟨N,hN⟩:∃ N,2^ln=N:=⟨_,rfl⟩
     have hN0:1≤N:=by rw[← hN];exact Nat.pow_pos (by omega)
     have hN1:N≤32:=by rw[← hN];exact Nat.le_trans (Nat.pow_le_pow_right (by omega) hl5) (by decide)
     have eN:((2:Int)^ln)=((N:Nat):Int):=by rw[← hN];norm_cast
     have HNN:=ħ hN;have hs1:=HP.o.s1;clear hN
     go_upto_region 12 with (fail)
     go_loopw [9,10] (fun sv tv wr=>∃ (s:Nat),sv = .int .i64 (S s)∧tv = .int .i64 s∧1≤s∧s≤N∧Hid (Below wm.heap.size wm wr)) (fun _ t _=>(N-intOf t).toNat)
     case atStart=>exact⟨1,by rw[hs1],rfl,by omega,by omega,ħ (Below.refl _ _)⟩
     case round =>
      clear hs1;obtain⟨s,rfl,rfl,hs0,hs,LR⟩:=hrel;have e2:IntKind.i64.wrap ((s:Int)+1)=((s+1:Nat):Int):=IntWalk.i64_in _ (by omega)
      have eNw:IntKind.i64.wrap ((2:Int)^ln)=((N:Nat):Int):=by rw[eN];exact IntWalk.i64_in _ (by omega)
      by_cases hsn:s<N
      ·have ss:(s:Int)<N:=by omega
       have BE:=ħ ((Below.refl wr.heap.size wr).alloc (Nat.le_refl _) (.cells #[] 3));have OE:=ħ (OwnK.made wr 3 1)
       go_upto_region 16 with (fail)
       generalize wr.alloc (.cells #[] 3)=we at *;generalize wr=wo at *
       go_loopw [11,12] (fun ov iv wr=>∃ (ix g o cap:Nat),ov = .slice (some ⟨g,o,none⟩) (nbU ix s) cap∧iv = .int .i64 ix∧ix≤ln∧Hid (OwnK wr wo.heap.size 1 (nbU ix s) cap (ivs (Zfq l s ix)) (some ⟨g,o,none⟩))∧Hid (Below wo.heap.size wo wr)) (fun _ i _=>(ln-intOf i).toNat)
       case atStart=>exact⟨0,wo.heap.size,0,0,rfl,rfl,by omega,OE,BE⟩
       case round =>
        clear BE OE;obtain⟨ix,g,o,cap,rfl,rfl,hi,OR,LQ⟩:=hrel;have e3:IntKind.i64.wrap ((ix:Int)+1)=((ix+1:Nat):Int):=IntWalk.i64_in _ (by omega);have hnb:=Zyb ix s;by_cases hin:ix<ln
        ·have ii:(ix:Int)<ln:=by omega
         have hsu:=Zs7 l s ix;have hns:=Zvo s ix;obtain⟨sh,hsh⟩:∃ x,s/2^ix=x:=⟨_,rfl⟩
         have eshr:((s:Nat):Int)/2^ix=((sh:Nat):Int):=by rw[← hsh];norm_cast
         have hshl:sh≤s:=by rw[← hsh];exact Nat.div_le_self _ _
         have ebi:bits .and .i64 ((sh:Nat):Int) 1=((sh%2:Nat):Int):=by
          have:=Zmk (a:=sh) (b:=1) (by omega) (by omega);rw[Nat.and_one_is_mod] at this;exact this
         have hbit:Zs5 s ix=(sh%2==1):=by unfold Zs5;rw[hsh]
         rw[hbit] at hsu hns;clear hbit hsh;obtain⟨gl,ol,hol,hgl,a0⟩:=(HLM.o wr (LR.o.trans (LQ.o.mono LR.o.size))).int ix _ (HGI.o ix hin);have HOL:=ħ hol;subst hol;clear hgl;rcases Nat.mod_two_eq_zero_or_one sh with hb | hb
         ·rw[hb] at ebi hsu hns
          have hsu:Zfq l s (ix+1)=Zfq l s ix:=by rw[hsu];rfl
          have hns:nbU (ix+1) s=nbU ix s:=by rw[hns];rfl
          have ebi:bits .and .i64 ((sh:Nat):Int) 1=0:=ebi
          go_wp2_with fail
          clear eshr ebi a0;go_roundw
          case rel=>exact⟨ix+1,g,o,cap,by rw[hns],by go_num,by omega,ħ (by rw[hns,hsu];exact OR.o),LQ⟩
          case measure=>simp only[intOf];omega
         ·rw[hb] at ebi hsu hns
          have hsu:Zfq l s (ix+1)=Zfq l s ix++[l.getD ix 0]:=by rw[hsu];rfl
          have hns:nbU (ix+1) s=nbU ix s+1:=by rw[hns];rfl
          have ebi:bits .and .i64 ((sh:Nat):Int) 1=1:=ebi;obtain⟨li,hli⟩:∃ x,l.getD ix 0=x:=⟨_,rfl⟩;rw[hli] at a0 hsu;clear hli
          go_upto_region 17 with (at_builtin;refine Zdd 33 3 (.int .i64 0) 1 8 Tryz.underlying33 Zbh rfl (by omega) (by omega) wr wo.heap.size rfl (.tmp 96) (.tmp 101) rfl (some ⟨g,o,none⟩) cap (nbU ix s) (ivs (Zfq l s ix)) ?p1 OR.o LQ.o.size 1 1 #[.int .i64 li] 3 ?p2 rfl (by omega) ?p3 ?p4 ?_;(case p1=>rfl);(case p2=>rfl);(case p3=>simp[Value.oneCell']);(case p4=>omega);intro g3 off3 c3 wv o8 gr8 b8 or8;have OA:=ħ o8;have LA:=ħ (LQ.o.trans b8);clear o8 gr8 b8 or8)
          clear eshr ebi a0 OR LQ
          go_wp2_with fail
          go_roundw
          case rel=>exact⟨ix+1,g3,off3,c3,by rw[hns],by go_num,by omega,ħ (by rw[hns,hsu,← Zvs];exact OA.o),LA⟩
          case measure=>simp only[intOf];omega
        ·have ii:¬ (ix:Int)<ln:=by omega
         obtain rfl:ln=ix:=by omega
         have LW:=ħ (LR.o.trans (LQ.o.mono LR.o.size));have BW:=ħ (BM0.o.trans (LW.o.mono BM0.o.size));have hlen:(Zfq l s ln).length=nbU ln s:=Zvk l s ln;have HFR:Hid (Zaj Za9 wr (some ⟨g,o,none⟩) (Zfq l s ln)):=ħ (OwnK.flatR (B:=wo.heap.size) (k:=1) (n:=nbU ln s) (cap:=cap) (by rw[← Zdi];exact OR.o) (fun _=>rfl) hlen.symm);have hcm:=HCM.o wr BW.o (Zfq l s ln) _ cap HFR.o (by rw[hlen];omega);rw[hlen] at hcm;have hcm:=ħ hcm;have hod:=HP.o.odd s hs0;have hev:=HP.o.even s hs0;have hbn:=HP.o.bnd (s+1) (by omega);have hcl:=HP.o.cl (Zfq l s ln);have XQ:=ħ (HXM.o wr LW.o);obtain⟨nn,hnn⟩:∃ x,nbU ln s=x:=⟨_,rfl⟩;rw[hnn] at hcm hod hev hnb ⊢;have hmd:((nn:Int)%2)=((nn%2:Nat):Int):=rfl;have hmd2:Int.tmod (nn:Int) 2=((nn%2:Nat):Int):=rfl;have ewm:IntKind.i64.wrap ((nn%2:Nat):Int)=((nn%2:Nat):Int):=IntWalk.i64_in _ (by omega);clear OR LQ LR HFR hlen hnn;by_cases hpar:nn%2=1
         ·have hso:=hod hpar
          rw[hpar] at hmd hmd2 ewm;have hmd:((nn:Int)%2)=1:=hmd;have hmd2:Int.tmod (nn:Int) 2=1:=hmd2;clear hod hev
          go_upto_region 21 with (fail)
          clear hmd hmd2 ewm
          go_wp2_with (refine wpList_load_row rfl 26 (.tmp 2) rfl (w.heap.size) ?xo 26 #[.slice qo qn qc,.slice mo mn mc,.slice uo un uc] (0,0) _ XQ.o Tryz.underlying26 rfl (Zb9 _ _ _) ?_;(case xo=>rfl))
          refine hcm.o.mono ?_;rintro e wf ⟨bf,fo,fc,rfl,-⟩;have LF:=ħ (LW.o.trans (bf.mono LW.o.size));clear bf hcm XQ LW BW
          have ewr:IntKind.i64.wrap (S s+(((Zdb c (Zfq l s ln)).length:Nat):Int))=S (s+1):=by rw[hso];exact IntWalk.i64_in _ (by omega)
          go_wp2_with fail
          clear ewr;go_roundw
          case rel=>exact⟨s+1,by rw[hso],by go_num,by omega,by omega,LF⟩
          case measure=>simp only[intOf];omega
         ·have hse:=hev hpar
          have hpe:nn%2=0:=by omega
          rw[hpe] at hmd hmd2 ewm;have hmd:((nn:Int)%2)=0:=hmd;have hmd2:Int.tmod (nn:Int) 2=0:=hmd2;clear hod hev
          go_upto_region 22 with (fail)
          clear hmd hmd2 ewm
          go_wp2_with (refine wpList_load_row rfl 26 (.tmp 2) rfl (w.heap.size) ?xe 26 #[.slice qo qn qc,.slice mo mn mc,.slice uo un uc] (0,0) _ XQ.o Tryz.underlying26 rfl (Zb9 _ _ _) ?_;(case xe=>rfl))
          refine hcm.o.mono ?_;rintro e wf ⟨bf,fo,fc,rfl,-⟩;have LF:=ħ (LW.o.trans (bf.mono LW.o.size));clear bf hcm XQ LW BW
          have ewr:IntKind.i64.wrap (S s-(((Zdb c (Zfq l s ln)).length:Nat):Int))=S (s+1):=by rw[hse];exact IntWalk.i64_in _ (by omega)
          go_wp2_with fail
          clear ewr;go_roundw
          case rel=>exact⟨s+1,by rw[hse],by go_num,by omega,by omega,LF⟩
          case measure=>simp only[intOf];omega
      ·have ss:¬ (s:Int)<N:=by omega
       obtain rfl:N=s:=by omega
       have hall:=HP.o.all;rw[HNN.o] at hall;rw[hall];have B6:=ħ (BM0.o.trans (LR.o.mono BM0.o.size));have HXB:=ħ (fun W (hW:Below wr.heap.size wr W)=>HXM.o W (LR.o.trans (hW.mono LR.o.size)));have HLB:=ħ (fun W (hW:Below wr.heap.size wr W)=>HLM.o W (LR.o.trans (hW.mono LR.o.size)));have HPA:=ħ (fun W (hW:Below w.heap.size w W)=>Zxi (HAG.o W hW).crw);have HVP:=ħ (Zar HVV.o);have HHO:Hid (∀ W z vs,Below w.heap.size w W→z∈c.qs→Zal W (fun _=>True) z vs→∀ m∈c.ms,∀ bo bc,Zq5 W (fun _=>True) m.b bo→Calls Tryz.prog 30 #[.agg vs.toArray,.slice bo m.b.length bc] W fun e w'=>e = .returned (.tuple #[.bool (Zed z m.b).1,.int .i64 (Zed z m.b).2])∧Below W.heap.size W w'):=ħ (fun W z vs hW hz hpc m hm bo bc hb=>Zlt z W (fun _=>True) (fun _=>True) vs B m.b bo m.b.length bc ((HAG.o W hW).ok.q z hz).2 (Zj4 z (Zi6 (HVP.o.2.2.2.1 z hz))) hpc (HAG.o W hW).tab rfl ((HAG.o W hW).ok.m m hm).2.1 (Zx2 (Zly (HVP.o.2.2.2.2.1 m hm))) hb);clear LR HXM HLM BM0 hall;have BE:=ħ ((Below.refl wr.heap.size wr).alloc (Nat.le_refl _) (.cells #[] 3));have OE:=ħ (OwnK.made wr 3 1)
       go_upto_region 25 with (fail)
       clear eN eNw e2 ss hs0 hs hN0 hN1;generalize wr.alloc (.cells #[] 3)=we at *;generalize wr=w6 at *
       go_loopw [13,14] (fun ov iv wr=>∃ (j n g o cap:Nat),ov = .slice (some ⟨g,o,none⟩) n cap∧iv = .int .i64 j∧j≤mn∧n≤j∧Hid (((List.range j).filter (Zkg c l)).length=n)∧Hid (OwnK wr w6.heap.size 1 n cap (Zay ((List.range j).filter (Zkg c l))) (some ⟨g,o,none⟩))∧Hid (Below w6.heap.size w6 wr)) (fun _ i _=>(mn-intOf i).toNat)
       case atStart=>exact⟨0,0,w6.heap.size,0,0,rfl,rfl,by omega,Nat.le_refl _,ħ rfl,OE,BE⟩
       case round =>
        clear BE OE;obtain⟨j,n,g,o,cap,rfl,rfl,hj,hnj,HNJ,OR,LB⟩:=hrel;have e2:IntKind.i64.wrap ((j:Int)+1)=((j+1:Nat):Int):=IntWalk.i64_in _ (by omega);have c1:=(HXB.o wr LB.o).cell 1 _ rfl;by_cases hjm:j<mn
        ·have jj:(j:Int)<mn:=by omega
         obtain⟨m,hm⟩:∃ m,c.ms[j]?=some m:=⟨_,List.getElem?_eq_getElem (by rw[HME.o];exact hjm)⟩;have HMM:=ħ hm;have HAE:=ħ (Zxh c l j);have HNX:=ħ (Zbb (Zkg c l) j);rw[HLE.o] at HAE;clear hm
         go_upto_region 29 with (fail)
         clear c1;generalize wr=wo at *
         go_loopw [15,16] (fun bv iv wr=>∃ (ix:Nat),bv = .bool ((List.range ix).all (fun k=>Zfg c (l.getD k 0) j))∧iv = .int .i64 ix∧ix≤ln∧Hid (Below wo.heap.size wo wr)) (fun _ i _=>(ln-intOf i).toNat)
         case atStart=>exact⟨0,rfl,rfl,by omega,ħ (Below.refl _ _)⟩
         case round =>
          obtain⟨ix,rfl,rfl,hi,LQ⟩:=hrel;have LR:=ħ (LB.o.trans (LQ.o.mono LB.o.size));have e3:IntKind.i64.wrap ((ix:Int)+1)=((ix+1:Nat):Int):=IntWalk.i64_in _ (by omega);have BQ:=ħ (B6.o.trans (LR.o.mono B6.o.size));by_cases hin:ix<ln
          ·have ii:(ix:Int)<ln:=by omega
           have hsu:=Zvp c l j ix;obtain⟨hli0,hli1⟩:=HIR.o ix hin;obtain⟨gl,ol,hol,hgl,a0⟩:=(HLB.o wr LR.o).int ix _ (HGI.o ix hin);obtain⟨qi,hqi⟩:∃ n:Nat,l.getD ix 0=(n:Int):=⟨(l.getD ix 0).toNat,by omega⟩;rw[hqi] at a0 hli1 hsu;obtain⟨q,hq⟩:∃ q,c.qs[qi]?=some q:=⟨_,List.getElem?_eq_getElem (by rw[HQE.o];omega)⟩;have hho:=Zyc (c:=c) (q:=(qi:Int)) (by omega) (k:=j) (p:=q) (m:=m) hq HMM.o;obtain⟨gq,oq,vq,hqo,hgq,hpq,hrq⟩:=(HPA.o wr BQ.o).1.at qi q hq;obtain⟨ao,an,ac,rfl,-⟩:=hpq.form;obtain⟨gm,om,cs2,hmo,hgm,hmc,hrd⟩:=(HPA.o wr BQ.o).2.at j m HMM.o;obtain⟨bo,bc,to',tc,hcs2,hbnd,-⟩:=hmc;subst hcs2;have HRA:=ħ (fun W (hW:Below wr.heap.size wr W)=>hrq.of_block (hW.block gq hgq));have HMC:=ħ (fun W (hW:Below wr.heap.size wr W)=>(hrd.of_block (hW.block gm hgm)) 0 _ rfl);have HHQ:=ħ (fun W (hW:Below wr.heap.size wr W)=>HHO.o W q _ (BQ.o.trans (hW.mono BQ.o.size)) (List.mem_of_getElem? hq) (hpq.below hW) m (List.mem_of_getElem? HMM.o) bo bc (hbnd.below hW));have HLI:=ħ (fun W (hW:Below wr.heap.size wr W)=>(hW.cell (p:=⟨gl,ol+ix,none⟩) hgl).trans a0);have HQO:=ħ hqo;have HMO:=ħ hmo;have HOL:=ħ hol;have HII:=ħ ii;have HJJ:=ħ jj;have HQL:Hid ((qi:Int)<qn):=ħ hli1;obtain⟨bt,hbt⟩:∃ b,(Zed q m.b).1=b:=⟨_,rfl⟩;obtain⟨et,het⟩:∃ b,(Zed q m.b).2=b:=⟨_,rfl⟩;rw[hbt,het] at HHQ;rw[hho,hbt] at hsu;have HSU:=ħ hsu;obtain⟨nb,hnb⟩:∃ n,m.b.length=n:=⟨_,rfl⟩;rw[hnb] at HHQ HMC;rw[Nat.add_zero] at HMC;obtain⟨iv,hiv⟩:∃ b,(List.range ix).all (fun k=>Zfg c (l.getD k 0) j)=b:=⟨_,rfl⟩;rw[hiv] at HSU ⊢;subst hol;clear hqi hq hho hqo hgq hpq hrq hmo hgm hbnd hrd hgl a0 hbt het hsu hnb hiv ii jj hli0 hli1;generalize q.k=a0 at *;generalize Zag q.l=a1 at *;generalize Zag q.r=a2 at *;generalize q.c=a3 at *;have HJ2:=HJJ.o
           go_upto_region 31 with (fail)
           clear HJ2;refine Za8 (unF (w.heap.size) gl ol ln lc ix qi gq oq qn qc gm om mn mc j nb bc an ac bo ao a0 a3 et a1 a2 bt) (by kernel_rfl) (Zvr (w.heap.size) gl ol ln lc ix qi gq oq qn qc gm om mn mc j nb bc an ac bo ao a0 a3 et a1 a2 bt) (Zco (by kernel_rfl)) (Zg5 (by kernel_rfl)) (Zbi (by kernel_rfl)) ?hs ?he
           case hs =>
            intro i o hi listed a' w' H hl2;have hl3:=Zaq hl2;have hin:i<20:=(Array.getElem?_eq_some_iff.1 hi).1;have hb:=ħ H.below;have s1:=H.same 1 (Zan (by kernel_rfl));have s2:=H.same 2 (Zan (by kernel_rfl));have s14:=H.same 14 (Zan (by kernel_rfl));have s16:=H.same 16 (Zan (by kernel_rfl));have hdn:=H.done;have hdf:=H.defers;have hts:=H.tsize;clear hl2 H;obtain⟨t',df⟩:=a';obtain⟨f',rfl⟩:=Zyd t' hts;have hdf':df=[]:=hdf;subst hdf';have gs1:f' 1 = .slice (some ⟨gl,ol,none⟩) ln lc:=s1;have gs2:f' 2 = .pointer (some ⟨w.heap.size,0,none⟩):=s2;have gs14:f' 14 = .int .i64 (j:Nat):=s14;have gs16:f' 16 = .int .i64 (ix:Nat):=s16;clear s1 s2 s14 s16;clear hdf hts;have hcases:=Zjm i hin;clear hin;rcases hcases with rfl | rfl | rfl | rfl | rfl | rfl | rfl | rfl | rfl | rfl | rfl | rfl | rfl | rfl | rfl | rfl | rfl | rfl | rfl | rfl
            ·obtain rfl:=Option.some.inj hi
             clear hdn hl3;rw[gs2];clear gs1 gs2 gs14 gs16;refine Zab rfl ?_
             go_wp2_with fail
             exact Zaa ⟨_,rfl,Below.refl _ _,rfl⟩
            ·obtain rfl:=Option.some.inj hi
             have dv0:f' 134 = .pointer (some ⟨w.heap.size,0,none⟩):=hdn 0 _ 134 rfl (hl3 0 (by rfl)) rfl;clear hdn hl3;rw[dv0];clear dv0 gs1 gs2 gs14 gs16;have cc:=(HXB.o w' (LR.o.trans (hb.o.mono LR.o.size))).cell 0 _ rfl;rw[HQO.o] at cc;refine Zab rfl ?_
             go_wp2_with fail
             exact Zaa ⟨_,rfl,Below.refl _ _,rfl⟩
            ·obtain rfl:=Option.some.inj hi
             clear hdn hl3;rw[gs1];clear gs1 gs2 gs14 gs16;refine Zab rfl ?_
             go_wp2_with fail
             exact Zaa ⟨_,rfl,Below.refl _ _,rfl⟩
            ·obtain rfl:=Option.some.inj hi
             clear hdn hl3;rw[gs16];clear gs1 gs2 gs14 gs16;refine Zab rfl ?_
             go_wp2_with fail
             exact Zaa ⟨_,rfl,Below.refl _ _,rfl⟩
            ·obtain rfl:=Option.some.inj hi
             have dv2:f' 136 = .slice (some ⟨gl,ol,none⟩) ln lc:=hdn 2 _ 136 rfl (hl3 2 (by rfl)) rfl;have dv3:f' 137 = .int .i64 (ix:Nat):=hdn 3 _ 137 rfl (hl3 3 (by rfl)) rfl;clear hdn hl3;rw[dv2,dv3];clear dv2 dv3 gs1 gs2 gs14 gs16;have ii:=HII.o;refine Zab rfl ?_
             go_wp2_with fail
             exact Zaa ⟨_,rfl,Below.refl _ _,rfl⟩
            ·obtain rfl:=Option.some.inj hi
             have dv4:f' 138 = .pointer (some ⟨gl,ol+ix,none⟩):=hdn 4 _ 138 rfl (hl3 4 (by rfl)) rfl;clear hdn hl3;rw[dv4];clear dv4 gs1 gs2 gs14 gs16;have rr:=HLI.o w' hb.o;refine Zab rfl ?_
             go_wp2_with fail
             exact Zaa ⟨_,rfl,Below.refl _ _,rfl⟩
            ·obtain rfl:=Option.some.inj hi
             have dv1:f' 135 = .slice (some ⟨gq,oq,none⟩) qn qc:=hdn 1 _ 135 rfl (hl3 1 (by rfl)) rfl;have dv5:f' 139 = .int .i64 (qi:Nat):=hdn 5 _ 139 rfl (hl3 5 (by rfl)) rfl;clear hdn hl3;rw[dv1,dv5];clear dv1 dv5 gs1 gs2 gs14 gs16;have ii:=HQL.o;refine Zab rfl ?_
             go_wp2_with fail
             exact Zaa ⟨_,rfl,Below.refl _ _,rfl⟩
            ·obtain rfl:=Option.some.inj hi
             have dv6:f' 140 = .pointer (some ⟨gq,oq+qi*5,none⟩):=hdn 6 _ 140 rfl (hl3 6 (by rfl)) rfl;clear hdn hl3;rw[dv6];clear dv6 gs1 gs2 gs14 gs16;have rd:=HRA.o w' hb.o;have k0:=rd 0 _ rfl;have k1:=rd 1 _ rfl;have k2:=rd 2 _ rfl;have k3:=rd 3 _ rfl;have k4:=rd 4 _ rfl;rw[Nat.add_zero] at k0;clear rd;refine Zab rfl ?_
             go_wp2_with fail
             exact Zaa ⟨_,rfl,Below.refl _ _,rfl⟩
            ·obtain rfl:=Option.some.inj hi
             clear hdn hl3;rw[gs2];clear gs1 gs2 gs14 gs16;refine Zab rfl ?_
             go_wp2_with fail
             exact Zaa ⟨_,rfl,Below.refl _ _,rfl⟩
            ·obtain rfl:=Option.some.inj hi
             have dv8:f' 142 = .pointer (some ⟨w.heap.size,1,none⟩):=hdn 8 _ 142 rfl (hl3 8 (by rfl)) rfl;clear hdn hl3;rw[dv8];clear dv8 gs1 gs2 gs14 gs16;have cc:=(HXB.o w' (LR.o.trans (hb.o.mono LR.o.size))).cell 1 _ rfl;rw[HMO.o] at cc;refine Zab rfl ?_
             go_wp2_with fail
             exact Zaa ⟨_,rfl,Below.refl _ _,rfl⟩
            ·obtain rfl:=Option.some.inj hi
             clear hdn hl3;rw[gs14];clear gs1 gs2 gs14 gs16;refine Zab rfl ?_
             go_wp2_with fail
             exact Zaa ⟨_,rfl,Below.refl _ _,rfl⟩
            ·obtain rfl:=Option.some.inj hi
             have dv9:f' 143 = .slice (some ⟨gm,om,none⟩) mn mc:=hdn 9 _ 143 rfl (hl3 9 (by rfl)) rfl;have dv10:f' 144 = .int .i64 (j:Nat):=hdn 10 _ 144 rfl (hl3 10 (by rfl)) rfl;clear hdn hl3;rw[dv9,dv10];clear dv9 dv10 gs1 gs2 gs14 gs16;have jj:=HJJ.o;refine Zab rfl ?_
             go_wp2_with fail
             exact Zaa ⟨_,rfl,Below.refl _ _,rfl⟩
            ·obtain rfl:=Option.some.inj hi
             have dv11:f' 145 = .pointer (some ⟨gm,om+j*3,none⟩):=hdn 11 _ 145 rfl (hl3 11 (by rfl)) rfl;clear hdn hl3;rw[dv11];clear dv11 gs1 gs2 gs14 gs16;refine Zab rfl ?_
             go_wp2_with fail
             exact Zaa ⟨_,rfl,Below.refl _ _,rfl⟩
            ·obtain rfl:=Option.some.inj hi
             have dv12:f' 146 = .pointer (some ⟨gm,om+j*3,none⟩):=hdn 12 _ 146 rfl (hl3 12 (by rfl)) rfl;clear hdn hl3;rw[dv12];clear dv12 gs1 gs2 gs14 gs16;have m0:=HMC.o w' hb.o;refine Zab rfl ?_
             go_wp2_with fail
             exact Zaa ⟨_,rfl,Below.refl _ _,rfl⟩
            ·obtain rfl:=Option.some.inj hi
             have dv7:f' 141 = .agg #[.int .i64 a0,.string a1,.string a2,.int .i64 a3,.slice ao an ac]:=hdn 7 _ 141 rfl (hl3 7 (by rfl)) rfl;have dv13:f' 147 = .slice bo nb bc:=hdn 13 _ 147 rfl (hl3 13 (by rfl)) rfl;clear hdn hl3;rw[dv7,dv13];clear dv7 dv13 gs1 gs2 gs14 gs16;refine Zab rfl ?_
             go_wp2_with fail
             refine (HHQ.o w' hb.o).mono ?_;rintro e w4 ⟨rfl,b4⟩;have HB4:=ħ b4;clear b4
             go_wp2_with fail
             exact Zaa ⟨_,rfl,HB4.o,rfl⟩
            ·obtain rfl:=Option.some.inj hi
             have dv14:f' 148 = .tuple #[.bool bt,.int .i64 et]:=hdn 14 _ 148 rfl (hl3 14 (by rfl)) rfl;clear hdn hl3;rw[dv14];clear dv14 gs1 gs2 gs14 gs16;refine Zab rfl ?_
             go_wp2_with fail
             exact Zaa ⟨_,rfl,Below.refl _ _,rfl⟩
            ·obtain rfl:=Option.some.inj hi
             have dv15:f' 133 = .tuple #[.bool bt,.int .i64 et]:=hdn 15 _ 133 rfl (hl3 15 (by rfl)) rfl;clear hdn hl3;rw[dv15];clear dv15 gs1 gs2 gs14 gs16;refine Zab rfl ?_
             go_wp2_with fail
             exact Zaa ⟨_,rfl,Below.refl _ _,rfl⟩
            ·obtain rfl:=Option.some.inj hi
             have dv15:f' 133 = .tuple #[.bool bt,.int .i64 et]:=hdn 15 _ 133 rfl (hl3 15 (by rfl)) rfl;clear hdn hl3;rw[dv15];clear dv15 gs1 gs2 gs14 gs16;refine Zab rfl ?_
             go_wp2_with fail
             exact Zaa ⟨_,rfl,Below.refl _ _,rfl⟩
            ·obtain rfl:=Option.some.inj hi
             have dv16:f' 149 = .bool bt:=hdn 16 _ 149 rfl (hl3 16 (by rfl)) rfl;clear hdn hl3;rw[dv16];clear dv16 gs1 gs2 gs14 gs16;refine Zab rfl ?_
             go_wp2_with fail
             exact Zaa ⟨_,rfl,Below.refl _ _,rfl⟩
            ·obtain rfl:=Option.some.inj hi
             have dv17:f' 150 = .int .i64 et:=hdn 17 _ 150 rfl (hl3 17 (by rfl)) rfl;clear hdn hl3;rw[dv17];clear dv17 gs1 gs2 gs14 gs16;refine Zab rfl ?_
             go_wp2_with fail
             exact Zaa ⟨_,rfl,Below.refl _ _,rfl⟩
           case he =>
            intro listed a' w4 H hall;have hd18:unF (w.heap.size) gl ol ln lc ix qi gq oq qn qc gm om mn mc j nb bc an ac bo ao a0 a3 et a1 a2 bt 18 w4 (a'.tmps.getD 17 undef):=H.done 18 _ 17 rfl (hall 18 (by decide)) rfl;have hd19:unF (w.heap.size) gl ol ln lc ix qi gq oq qn qc gm om mn mc j nb bc an ac bo ao a0 a3 et a1 a2 bt 19 w4 (a'.tmps.getD 18 undef):=H.done 19 _ 18 rfl (hall 19 (by decide)) rfl;have hb4:=ħ H.below;have hact:=H.act [134,135,136,137,138,139,140,141,142,143,144,145,146,147,148,133,149,150,17,18] (Zdy (by kernel_rfl));clear H hall;simp only[List.foldl_cons,List.foldl_nil] at hact;generalize a'.tmps.getD 134 undef=z134 at *;generalize a'.tmps.getD 135 undef=z135 at *;generalize a'.tmps.getD 136 undef=z136 at *;generalize a'.tmps.getD 137 undef=z137 at *;generalize a'.tmps.getD 138 undef=z138 at *;generalize a'.tmps.getD 139 undef=z139 at *;generalize a'.tmps.getD 140 undef=z140 at *;generalize a'.tmps.getD 141 undef=z141 at *;generalize a'.tmps.getD 142 undef=z142 at *;generalize a'.tmps.getD 143 undef=z143 at *;generalize a'.tmps.getD 144 undef=z144 at *;generalize a'.tmps.getD 145 undef=z145 at *;generalize a'.tmps.getD 146 undef=z146 at *;generalize a'.tmps.getD 147 undef=z147 at *;generalize a'.tmps.getD 148 undef=z148 at *;generalize a'.tmps.getD 133 undef=z133 at *;generalize a'.tmps.getD 149 undef=z149 at *;generalize a'.tmps.getD 150 undef=z150 at *;generalize a'.tmps.getD 17 undef=z17 at *;generalize a'.tmps.getD 18 undef=z18 at *;subst hact;have e18:z17 = .bool bt:=hd18;subst e18;clear hd18;have e19:z18 = .int .i64 et:=hd19;subst e19;clear hd19;simp only[Act.put,List.setIfInBounds_toArray,List.set_cons_succ,List.set_cons_zero];have L7:=ħ (LQ.o.trans (hb4.o.mono LQ.o.size));have jj:=HJJ.o;have ii:=HII.o;clear hb4 LR LQ HHQ HMC HRA HLI BQ
            cases iv with
            | false =>
             go_wp2_with fail
             go_roundw
             case rel=>exact⟨ix+1,by rw[HSU.o];rfl,by go_num,by omega,L7⟩
             case measure=>simp only[intOf];omega
            | true =>
             go_wp2_with fail
             go_roundw
             case rel=>exact⟨ix+1,by rw[HSU.o,Bool.true_and],by go_num,by omega,L7⟩
             case measure=>simp only[intOf];omega
          ·have ii:¬ (ix:Int)<ln:=by omega
           obtain rfl:ln=ix:=by omega
           obtain⟨bv,hbv⟩:∃ b,(List.range ln).all (fun k=>Zfg c (l.getD k 0) j)=b:=⟨_,rfl⟩;rw[hbv] at HAE ⊢;rw[HAE.o] at HNX;have OQ:=ħ (OR.o.below LQ.o);clear hbv OR LQ LB BQ
           cases bv with
           | false =>
            have HNX:Hid ((List.range (j+1)).filter (Zkg c l)=(List.range j).filter (Zkg c l)):=ħ (by rw[HNX.o];simp)
            go_wp2_with fail
            go_roundw
            case rel=>exact⟨j+1,n,g,o,cap,rfl,by go_num,by omega,by omega,ħ (by rw[HNX.o];exact HNJ.o),ħ (by rw[HNX.o];exact OQ.o),LR⟩
            case measure=>simp only[intOf];omega
           | true =>
            have HNX:Hid ((List.range (j+1)).filter (Zkg c l)=(List.range j).filter (Zkg c l)++[j]):=ħ (by rw[HNX.o];simp)
            go_upto_region 26 with (at_builtin;refine Zdd 33 3 (.int .i64 0) 1 8 Tryz.underlying33 Zbh rfl (by omega) (by omega) wr w6.heap.size rfl (.tmp 156) (.tmp 158) rfl (some ⟨g,o,none⟩) cap n (Zay ((List.range j).filter (Zkg c l))) ?p1 OQ.o LR.o.size 1 1 #[.int .i64 (j:Int)] 3 ?p2 rfl (by omega) ?p3 ?p4 ?_;(case p1=>rfl);(case p2=>rfl);(case p3=>simp[Value.oneCell']);(case p4=>omega);intro g3 off3 c3 wv o8 gr8 b8 or8;have OA:=ħ o8;have LA:=ħ (LR.o.trans b8);clear o8 gr8 b8 or8)
            clear OQ LR
            go_wp2_with fail
            go_roundw
            case rel=>exact⟨j+1,n+1,g3,off3,c3,rfl,by go_num,by omega,by omega,ħ (by rw[HNX.o,List.length_append,HNJ.o];rfl),ħ (by rw[HNX.o,← Zb7];exact OA.o),LA⟩
            case measure=>simp only[intOf];omega
        ·have jj:¬ (j:Int)<mn:=by omega
         obtain rfl:mn=j:=by omega
         have BW:=ħ (B6.o.trans (LB.o.mono B6.o.size));have hcm:=HCM.o wr BW.o l lo lc (HLB.o wr LB.o) (by rw[HLE.o];omega);rw[HLE.o] at hcm;have hcm:=ħ hcm;have XQ:=ħ (HXB.o wr LB.o)
         have huu:((((UF:Nat):Int))==((UF:Nat):Int))=true:=by simp
         go_wp2_with (refine Zap (by rfl) 26 (.tmp 2) rfl (w.heap.size) ?xf 26 #[.slice qo qn qc,.slice mo mn mc,.slice uo un uc] (0,0) _ XQ.o Tryz.underlying26 rfl (Zb9 _ _ _) ?_;(case xf=>rfl))
         refine hcm.o.mono ?_;rintro e wf ⟨bf,fo,fc,rfl,hff⟩;have HSM:=Zho wf ((Zdb c l).map Int.ofNat) (((List.range mn).filter (Zkg c l)).map Int.ofNat) fo (some ⟨g,o,none⟩) fc cap hff ((Zc7 OR.o HNJ.o.symm).below bf) (by rw[List.length_map];have:=HP.o.cl l;omega);rw[List.length_map,List.length_map,HNJ.o,HP.o.com,decide_eq_true rfl] at HSM;have BF:=ħ (BW.o.trans (bf.mono BW.o.size));rw[HP.o.com];clear hcm XQ bf
         go_wp2_with fail
         refine HSM.mono ?_;rintro e w12 ⟨rfl,b12⟩;have B12:=ħ (BF.o.trans (b12.mono BF.o.size))
         go_wp2_with fail
         go_ret;exact⟨rfl,B12.o⟩
end Go.Proofs.YtbcgocpihobjnaaGreatDoor
