import Derived.Test.YtbcgocpihobjnaaGreatDoorCC39
set_option linter.all false
set_option maxHeartbeats 16000000
set_option maxRecDepth 100000
namespace Go.Proofs.YtbcgocpihobjnaaGreatDoor
open Go.RowKit Go.Sort Go.Maps
def Z0k(c:Crw)(x:Int):Int:=(c.us.getD x.toNat ⟨0,0,0,0⟩).w
def Znf(c:Crw)(set:List Int)(i:Nat):Bool:=Zco (set.getD i 0) c.us.length&&(decide (i=0)||decide (set.getD (i-1) 0<set.getD i 0))&&decide (Z0k c (set.getD i 0)=Z0k c (set.getD 0 0))
def Zep(C:List (List Bool))(set:List Int)(k:Nat):Bool:=set.any (fun x=>(C.getD x.toNat []).getD k false)
def Zf8(c:Crw)(C:List (List Bool))(set:List Int):Nat->Int
 | 0=>0
 | k+1=>Zf8 c C set k+(if Zep C set k=true then Zcd (c.ms.getD k ⟨[],[],0⟩).t (Z0k c (set.getD 0 0)).toNat else 0)
def Zhx(c:Crw)(u m:Int)(set:List Int):Bool:=Ztp c u m&&decide (0<set.length)&&(List.range set.length).all (Znf c set)&&decide (Zf8 c (Zcy c (Za7 c) u.toNat m.toNat) set c.ms.length<(set.length:Int))
theorem Zxg{C:List (List Bool)}{set:List Int}{i:Nat}{x:Int}(h:set[i]?=some x)(k:Nat):Zep C (set.take (i+1)) k=(Zep C (set.take i) k||(C.getD x.toNat []).getD k false):=by
 unfold Zep;rw[đv,h,List.any_append];simp
theorem Zg9{f g:Nat->Bool}{n k:Nat}(hk:k<n):(((List.range n).map (fun j=>if j<k then g j else f j)).set k (g k))=(List.range n).map (fun j=>if j<k+1 then g j else f j):=by
 rw[Zg6]
 congr 1
 funext j
 by_cases e:j=k
 ·subst e;rw[Zag,if_pos (by omega)]
 ·rw[Zaf _ _ _ e]
  by_cases e2:j<k
  ·rw[if_pos e2,if_pos (by omega)]
  ·rw[if_neg e2,if_neg (by omega)]
theorem Ztq(w:World)(c:Crw)(cs:List Value)(B:Nat)(u m:Int)(set:List Int)(so:Option Addr)(sc:Nat)(ha:ArgC w c cs B)(hs:Zan Zbg w so set)(hsl:set.length<=1000000) :
  Calls Tryz.prog 58 #[.agg cs.toArray,.int .i64 u,.int .i64 m,.slice so set.length sc] w fun e w'=>e = .returned (.bool (Zhx c u m set))/\Below w.heap.size w w':=by
 have HFX:=ħ (fun W (hW:Below w.heap.size w W)=>Zw8 W c cs B u m (ha.below hW));unfold Zma at HFX;have HVA:=ħ (fun(h:Ztp c u m=true)=>(Zmb h).1);have HRK:=ħ (fun(h:Ztp c u m=true)=>Z2p h ha.nu);have HNU:=ha.nu;have HSW:=ħ (fun W (hW:Below w.heap.size w W)=>hs.below hW);have HPA:Hid (Zhx c u m set=(Ztp c u m&&decide (0<set.length)&&(List.range set.length).all (Znf c set)&&decide (Zf8 c (Zcy c (Za7 c) u.toNat m.toNat) set c.ms.length<(set.length:Int)))):=ħ rfl
 have HBAD:Hid (∀ i,i<set.length->Znf c set i=false->Zhx c u m set=false):=ħ (fun i hi h=>by
  unfold Zhx
  have:(List.range set.length).all (Znf c set)=false:=by
   rw[List.all_eq_false];exact⟨i,List.mem_range.2 hi,by rw[h];decide⟩
  rw[this,Bool.and_false,đq])
 generalize Zhx c u m set=PA at *;obtain⟨qo,qc,mo,mc,uo,uc,rfl,hq0,hm0,hu0,-⟩:=ha.crw;have HMW:=ħ (fun W (hW:Below w.heap.size w W)=>hm0.below hW);have HUW:=ħ (fun W (hW:Below w.heap.size w W)=>hu0.below hW);clear ha hs hq0 hm0 hu0;generalize Ztp c u m=FA at *;generalize hCF:Zcy c (Za7 c) u.toNat m.toNat=CF at *;clear hCF;generalize hnq:c.qs.length=nq at *;generalize hnm:c.ms.length=nm at *;generalize hnu:c.us.length=nu at *;generalize hns:set.length=ns at *;have HME:=ħ hnm;have HUE:=ħ hnu;have HSE:=ħ hns;clear hnq hnm hnu hns;have X1:Hid (Zae (w.alloc (.cells #[.slice qo nq qc,.slice mo nm mc,.slice uo nu uc] 26)) w.heap.size 26 [.slice qo nq qc,.slice mo nm mc,.slice uo nu uc]):=ħ (heap_alloc_new w _);have B1:=ħ ((đc w.heap.size w).alloc (đd _) (.cells #[.slice qo nq qc,.slice mo nm mc,.slice uo nu uc] 26))
 go_enter Tryz.func58,Tryz.ntmps58
 go_upto_region 1 with(fail)
 generalize w.alloc (.cells #[.slice qo nq qc,.slice mo nm mc,.slice uo nu uc] 26)=w1 at *;have c0:=X1.o.cell 0 _ rfl;have c1:=X1.o.cell 1 _ rfl;have c2:=X1.o.cell 2 _ rfl;have HCL:=ħ (HFX.o w1 B1.o);clear HFX
 go_wp2_with fail
 refine HCL.o.mono ?_;intro e w2 hq;obtain⟨b2,hres⟩:=hq;have B2:=ħ (B1.o.trans (b2.mono B1.o.size));have X2:=ħ (X1.o.step b2);clear b2 c0 c1 c2 B1 X1 HCL
 cases FA with
 | false =>
  rw[if_neg (by decide)] at hres;subst hres;have HPN:Hid (PA=false):=ħ (by rw[HPA.o];rfl);clear HPA HBAD
  go_wp2_with fail
  go_ret;exact⟨by rw[HPN.o];rfl,B2.o⟩
 | true =>
  rw[if_pos rfl] at hres;obtain⟨R,rfl,hR⟩:=hres;have HOK:=ħ (HRK.o (by first | rfl | trivial));have HVC:=ħ (HVA.o (by first | rfl | trivial));have HR:=ħ hR;clear hR HRK HVA;by_cases hn0:ns=0
  ·subst hn0
   have HPN:Hid (PA=false):=ħ (by rw[HPA.o];rfl);clear HPA HBAD
   go_wp2_with fail
   go_ret;exact⟨by rw[HPN.o];rfl,B2.o⟩
  ·have HPN:Hid ((List.range ns).all (Znf c set)=true->PA=decide (Zf8 c CF set nm<(ns:Int))):=ħ (fun h=>by rw[HPA.o,h,decide_eq_true (by omega:0<ns)];rfl)
   clear HPA;have hnm1:=HOK.o.nm;have hnmE:=HME.o;rw[hnmE] at hnm1;have c1:=X2.o.cell 1 _ rfl;have hmk:=run_make_row' (P:=Tryz.prog) 87 4 (.bool false) 1 Tryz.underlying87 Zdl rfl .i64 .i64 nm (by omega) (by omega);rw[Zew] at hmk
   have hne:¬ ((ns:Nat):Int)=0:=by omega
   go_upto_region 5 with(fail)
   clear hmk c1;obtain⟨V,hV⟩:∃ y,w2.heap.size=y:=⟨_,rfl⟩;have bx:=(đc w2.heap.size w2).alloc (đd _) (.cells (bvs (List.replicate nm false)).toArray 4)
   have V3:Hid (Zae (w2.alloc (.cells (bvs (List.replicate nm false)).toArray 4)) V 4 (bvs ((List.range nm).map (Zep CF (set.take 0))))):=ħ (by
    have e:(List.range nm).map (Zep CF (set.take 0))=List.replicate nm false:=by
     rw[List.take_zero];show(List.range nm).map (fun _=>false)=_;rw[List.map_const',List.length_range]
    rw[e]
    exact Zae.newAt _ _ _ _ hV.symm)
   have B3:=ħ bx;rw[hV] at B3 ⊢;have HVW:Hid (w.heap.size<V):=ħ (by rw[<- hV];exact X2.o.lt);have X3:=ħ (X2.o.step bx);have B23:Hid (Below w2.heap.size w2 (w2.alloc (.cells (bvs (List.replicate nm false)).toArray 4))):=ħ bx;have HVS:=ħ hV;clear bx hV X2;generalize w2.alloc (.cells (bvs (List.replicate nm false)).toArray 4)=w3 at *
   go_wp2_with fail
   have HZ:Hid (∀ j,j<0->Znf c set j=true):=ħ (fun j hj=>absurd hj (đu j))
   go_loopw [39] (fun iv wr=>∃ (i:Nat),iv = .int .i64 i/\i<=ns/\Hid (∀ j,j<i->Znf c set j=true)/\Hid (Zae wr V 4 (bvs ((List.range nm).map (Zep CF (set.take i)))))/\Hid (Only w3 wr (· = V))) (fun k _=>(ns-intOf k).toNat)
   case atStart=>exact⟨0,rfl,by omega,HZ,V3,ħ (Only.refl _ _)⟩
   case round =>
    clear HZ V3;obtain⟨i,rfl,hi,HJ,V4,ON⟩:=hrel;have e2:IntKind.i64.wrap ((i:Int)+1)=((i+1:Nat):Int):=đh _ (by omega);have B24:Hid (Below w2.heap.size w2 wr):=ħ (B23.o.trans (ON.o.below B23.o.size (fun g hg=>by rw[hg,HVS.o];exact đd _)));have B4:Hid (Below w.heap.size w wr):=ħ (B2.o.trans (B24.o.mono B2.o.size));by_cases hin:i<ns
    ·have ii:(i:Int)<ns:=by omega
     obtain⟨x,hx⟩:∃ x,set[i]?=some x:=⟨_,đb (by rw[HSE.o];exact hin)⟩;have HX:=ħ hx;have HXG:Hid (set.getD i 0=x):=ħ (by rw[đf,hx];rfl);obtain⟨gs,os,hso,hgs,hsc⟩:=(HSW.o wr B4.o).at Zaz i x hx;have si:=hsc 0 _ rfl;rw[Nat.mul_one,Nat.add_zero] at si;subst hso;have X4:=ħ (X3.o.only ON.o (by have:=HVW.o;omega));have c2:=X4.o.cell 2 _ rfl;have ew:IntKind.i64.wrap ((nu:Int)-1)=(nu:Int)-1:=đh _ (by omega);have HIN:=ħ (fun h=>Zbx (u:=x) (n:=nu) h);have HWI:Hid (∀ W:World,Below wr.heap.size wr W->Calls Tryz.prog 83 #[.int .i64 x,.int .i64 0,.int .i64 ((nu:Int)-1)] W fun e w'=>e = .returned (.bool (Zco x nu))/\Below W.heap.size W w'):=ħ (fun W _=>(Zbn x 0 ((nu:Int)-1) W).mono (fun e w' h=>⟨h.1,by rw[<- h.2];exact đc _ _⟩));have HOA:Hid (Znf c set i=(Zco x nu&&(decide (i=0)||decide (set.getD (i-1) 0<x))&&decide (Z0k c x=Z0k c (set.getD 0 0)))):=ħ (by unfold Znf;rw[HXG.o,HUE.o]);clear hx hsc hgs;generalize hib:Zco x nu=ib at *;have HIB:=ħ hib;clear hib;have r1:=Z40 wr (fun W hW=>HWI.o W hW);have c2':=cell_regrown c2
     cases ib with
     | false =>
      have HOF:Hid (Znf c set i=false):=ħ (by rw[HOA.o];rfl);clear HOA
      go_upto_region 8 with(fail)
      refine wp_region_quiet_below (by kernel_rfl) (by kernel_rfl) ?_
      repeat (go_big_quiet_step (with_reducible (exact r1 _ _)))
      refine wpQuiet_nil ?_;intro _ hw';obtain⟨⟨dq,osq⟩,hw''⟩:=hw';subst hw'';have BQ:=ħ (below_regrown wr dq osq);clear r1 c2' c2 si HWI;generalize grow (redrawn wr dq) osq=wy at *
      go_wp2_with fail
      go_ret;exact⟨by rw[HBAD.o i hin HOF.o];rfl,B4.o.trans (BQ.o.mono B4.o.size)⟩
     | true =>
      obtain⟨k,hxk,hk⟩:=HIN.o (by first | rfl | trivial);subst hxk
      have kk:(k:Int)<nu:=by omega
      obtain⟨xu,hxu⟩:∃ y,c.us[k]?=some y:=⟨_,đb (by rw[HUE.o];exact hk)⟩
      have HWK:Hid (Z0k c (k:Int)=xu.w):=ħ (by
       show(c.us.getD k ⟨0,0,0,0⟩).w=xu.w
       rw[đf,hxu];rfl)
      obtain⟨gu,ou,huo,hgu,hcu⟩:=(HUW.o wr B4.o).at Zbj k xu hxu;have uk:=hcu 1 _ rfl;have HUO:=ħ huo;have uk':=cell_regrown uk;have si':=cell_regrown si;clear hgu hcu hxu;have HSO:Hid (wr.cell? ⟨gs,os+i,none⟩=some (.int .i64 (k:Int))):=ħ si;obtain⟨ru,hru⟩:∃ y,CF[k]?=some y:=⟨_,đb (by rw[HOK.o.len,HUE.o];exact hk)⟩;have HRL:Hid (ru.length=nm):=ħ (by rw[HOK.o.row _ (đe hru),HME.o])
      have HAN:Hid (∀ j,Zep CF (set.take (i+1)) j=(Zep CF (set.take i) j||ru.getD j false)):=ħ (fun j=>by
       rw[Zxg HX.o,Int.toNat_natCast,đf (l:=CF),hru];rfl)
      obtain⟨qo',mo',uo',ho',co',qc',mc',uc',hc',cc',hA,hRC,-⟩:=HR.o;have h4:=hA.cell 4 _ rfl;rw[HOK.o.len,HUE.o] at h4;obtain⟨gc,oc,bo,bc,hco,hgc,hrc,hrb⟩:=hRC.c.at k ru hru;rw[hco] at h4;rw[HRL.o] at hrc
      have HRC:=ħ (fun W (hW:Below w2.heap.size w2 W)=>(show W.cell? ⟨R,4,none⟩=some (.slice (some ⟨gc,oc,none⟩) nu cc')/\W.cell? ⟨gc,oc+k,none⟩=some (.slice bo nm bc) by
       rw[đx (w:=w2) (a:=⟨R,4,none⟩) (hW.block R hA.lt),đx (w:=w2) (a:=⟨gc,oc+k,none⟩) (hW.block gc hgc)]
       exact⟨h4,hrc⟩))
      have HRB:=ħ (fun W (hW:Below w2.heap.size w2 W)=>hrb.below hW);clear hA hRC h4 hco hgc hrc hrb hru;by_cases hi0:i=0
      ·subst hi0
       have i0:¬ (0:Int)<((0:Nat):Int):=by omega
       have di:decide ((0:Int)<((0:Nat):Int))=false:=decide_eq_false (by omega);have di2:decide (0<0)=false:=rfl;have s0:=si;rw[Nat.add_zero] at s0;have s0':=cell_regrown s0
       have zz:(0:Int)<ns:=by omega
       have HOF:Hid (Znf c set 0=true):=ħ (by rw[HOA.o,HXG.o];simp);generalize xu.w=xw at *;subst huo
       go_upto_region 8 with(fail)
       refine wp_region_quiet_below (by kernel_rfl) (by kernel_rfl) ?_
       repeat (go_big_quiet_step (with_reducible (exact r1 _ _)))
       refine wpQuiet_nil ?_;intro _ hw';obtain⟨⟨dq,osq⟩,hw''⟩:=hw';subst hw'';have BQ:=ħ (below_regrown wr dq osq);clear r1 c2' c2 si HWI s0 s0' uk uk' si' di di2;generalize grow (redrawn wr dq) osq=wy at *;have V5:=ħ (V4.o.step BQ.o);have ON5:=ħ (ON.o.step BQ.o);have B25:=ħ (B24.o.trans (BQ.o.mono B24.o.size));obtain⟨x4,xr⟩:=HRC.o wy B25.o;clear V4 ON BQ B24 B4 X4
       go_wp2_with fail
       clear x4 xr;have V6:Hid (Zae wy V 4 (bvs ((List.range nm).map (fun l=>if l<0 then Zep CF (set.take (0+1)) l else Zep CF (set.take 0) l)))):=V5
       go_loopw [89] (fun jv ws=>∃ (j:Nat),jv = .int .i64 j/\j<=nm/\Hid (Zae ws V 4 (bvs ((List.range nm).map (fun l=>if l<j then Zep CF (set.take (0+1)) l else Zep CF (set.take 0) l))))/\Hid (Only w3 ws (· = V))) (fun k _=>(nm-intOf k).toNat)
       case atStart=>exact⟨0,rfl,by omega,V6,ON5⟩
       case round =>
        clear V6 V5 ON5 B25;obtain⟨j,rfl,hj,V7,ON7⟩:=hrel;have e5:IntKind.i64.wrap ((j:Int)+1)=((j+1:Nat):Int):=đh _ (by omega);have B27:Hid (Below w2.heap.size w2 wr):=ħ (B23.o.trans (ON7.o.below B23.o.size (fun g hg=>by rw[hg,HVS.o];exact đd _)));by_cases hjn:j<nm
        ·have jj:(j:Int)<nm:=by omega
         obtain⟨gb,ob,hbo,hbc⟩:=(HRB.o wr B27.o).bool j (by rw[HRL.o];exact hjn);have HBO:=ħ hbo;subst hbo
         have vc:=V7.o.cell j (.bool (Zep CF (set.take 0) j)) (by
          unfold bvs;rw[đj,đj,List.getElem?_range hjn];show some (Value.bool (if j<j then _ else _))=_
          rw[if_neg (Nat.lt_irrefl j)])
         have vf:=V7.o.warm j;have HAJ:=ħ (HAN.o j);obtain⟨bt,hbt⟩:∃ y,ru.getD j false=y:=⟨_,rfl⟩;obtain⟨od,hod⟩:∃ y,Zep CF (set.take 0) j=y:=⟨_,rfl⟩;rw[hbt] at hbc HAJ;rw[hod] at vc HAJ
         have HV8:Hid (Zae (wr.setCell ⟨V,j,none⟩ (.bool (od||bt))) V 4 (bvs ((List.range nm).map (fun l=>if l<j+1 then Zep CF (set.take (0+1)) l else Zep CF (set.take 0) l)))):=ħ (by
          have:=V7.o.set j (.bool (od||bt));have e:=Zg9 (f:=Zep CF (set.take 0)) (g:=Zep CF (set.take (0+1))) hjn;rw[HAJ.o] at e
          rwa [<- Zdp,e] at this)
         have ON8:=ħ (ON7.o.setCell (a:=⟨V,j,none⟩) (.bool (od||bt)) rfl);clear hbt hod V7 ON7
         cases od with
         | true =>
          go_upto_region 14 with(fail)
          clear vc vf hbc;simp only[Bool.true_or] at HV8 ON8;generalize wr.setCell ⟨V,j,none⟩ (.bool true)=w8 at *
          go_wp2_with fail
          go_roundw
          case rel=>exact⟨j+1,by go_num,by omega,HV8,ON8⟩
          case measure=>simp only[intOf];omega
         | false =>
          go_upto_region 14 with(fail)
          clear vc vf hbc;simp only[Bool.false_or] at HV8 ON8;generalize wr.setCell ⟨V,j,none⟩ (.bool bt)=w8 at *
          go_wp2_with fail
          go_roundw
          case rel=>exact⟨j+1,by go_num,by omega,HV8,ON8⟩
          case measure=>simp only[intOf];omega
        ·have jj:¬ (j:Int)<nm:=by omega
         obtain rfl:nm=j:=by omega
         have V9:Hid (Zae wr V 4 (bvs ((List.range nm).map (Zep CF (set.take (0+1)))))):=ħ (by
          have:=V7.o;have e:(List.range nm).map (fun l=>if l<nm then Zep CF (set.take (0+1)) l else Zep CF (set.take 0) l)=(List.range nm).map (Zep CF (set.take (0+1))):=List.map_congr_left (fun l hl=>if_pos (List.mem_range.1 hl))
          rwa [e] at this)
         have HJ2:Hid (∀ j,j<0+1->Znf c set j=true):=ħ (fun j hj=>by
          rcases đw j 0 with h | h
          ·exact HJ.o j h
          ·obtain rfl:j=0:=by omega
           exact HOF.o)
         go_wp2_with fail
         go_roundw
         case rel=>first | exact⟨_,_,_,_,_,_,⟨0+1,by go_num,by omega,HJ2,V9⟩,rfl,rfl,rfl,rfl,rfl,rfl⟩ | exact⟨_,_,_,_,_,_,⟨0+1,by go_num,by omega,HJ2,V9,ON7⟩,rfl,rfl,rfl,rfl,rfl,rfl⟩
         case measure=>simp only[intOf];omega
      ·have i0:(0:Int)<(i:Int):=by omega
       have HI1:=ħ (HJ.o 0 (by omega));obtain⟨x0,hx0⟩:∃ x,set[0]?=some x:=⟨_,đb (by rw[HSE.o];omega)⟩;obtain⟨y,hy⟩:∃ x,set[i-1]?=some x:=⟨_,đb (by rw[HSE.o];omega)⟩;have HX0:Hid (set.getD 0 0=x0):=ħ (by rw[đf,hx0];rfl);have HY0:Hid (set.getD (i-1) 0=y):=ħ (by rw[đf,hy];rfl)
       have hidx0:Zco x0 nu=true:=by
        have:=HI1.o;unfold Znf at this;rw[HX0.o,HUE.o] at this;simp only[đi] at this;exact this.1.1
       obtain⟨k0,hk0,hk0n⟩:=Zbx hidx0;subst hk0;obtain⟨xu0,hxu0⟩:∃ y,c.us[k0]?=some y:=⟨_,đb (by rw[HUE.o];exact hk0n)⟩
       have HW0:Hid (Z0k c (k0:Int)=xu0.w):=ħ (by
        show(c.us.getD k0 ⟨0,0,0,0⟩).w=xu0.w
        rw[đf,hxu0];rfl)
       obtain⟨gs1,os1,hso1,hgs1,hsc1⟩:=(HSW.o wr B4.o).at Zaz 0 (k0:Int) hx0;obtain⟨gs2,os2,hso2,hgs2,hsc2⟩:=(HSW.o wr B4.o).at Zaz (i-1) y hy;have s0:=hsc1 0 _ rfl;have sp:=hsc2 0 _ rfl;rw[Nat.mul_one,Nat.add_zero] at s0 sp;cases hso1;cases hso2;obtain⟨gu2,ou2,huo2,hgu2,hcu2⟩:=(HUW.o wr B4.o).at Zbj k0 xu0 hxu0;have u0:=hcu2 1 _ rfl;rw[huo] at huo2;cases huo2
       have HOA2:Hid (Znf c set i=(decide (y<(k:Int))&&decide (xu.w=xu0.w))):=ħ (by
        rw[HOA.o,HX0.o,HY0.o,HWK.o,HW0.o,decide_eq_false hi0,Bool.false_or,đk])
       try rw[Nat.add_zero] at s0
       obtain⟨i',rfl⟩:∃ i',i=i'+1:=⟨i-1,by omega⟩;rw[Nat.add_sub_cancel] at sp
       have ew2:IntKind.i64.wrap (((i'+1:Nat):Int)-1)=(i':Int):=by rw[show((i'+1:Nat):Int)-1=(i':Int) by omega];exact đh _ (by omega)
       have ii':(i':Int)<ns:=by omega
       have zz:(0:Int)<ns:=by omega
       have kk0:(k0:Int)<nu:=by omega
       have s0':=cell_regrown s0;have sp':=cell_regrown sp;have u0':=cell_regrown u0;clear hx0 hy hsc1 hsc2 hgs1 hgs2 hgu2 hcu2 hxu0 hidx0 HOA;generalize xu.w=xw at *;generalize xu0.w=xw0 at *;subst huo;by_cases hyk:y<(k:Int)
       ·have hyk2:¬ (k:Int)<=y:=by omega
        by_cases hww:xw=xw0
        ·have HOF:Hid (Znf c set (i'+1)=true):=ħ (by rw[HOA2.o,decide_eq_true hyk,decide_eq_true hww];rfl)
         clear HOA2
         go_upto_region 8 with(fail)
         refine wp_region_quiet_below (by kernel_rfl) (by kernel_rfl) ?_
         repeat (go_big_quiet_step (with_reducible (exact r1 _ _)))
         refine wpQuiet_nil ?_;intro _ hw';obtain⟨⟨dq,osq⟩,hw''⟩:=hw';subst hw'';have BQ:=ħ (below_regrown wr dq osq);clear r1 c2' c2 si HWI s0 s0' uk uk' si' sp sp' u0 u0';generalize grow (redrawn wr dq) osq=wy at *;have V5:=ħ (V4.o.step BQ.o);have ON5:=ħ (ON.o.step BQ.o);have B25:=ħ (B24.o.trans (BQ.o.mono B24.o.size));obtain⟨x4,xr⟩:=HRC.o wy B25.o;clear V4 ON BQ B24 B4 X4
         go_wp2_with fail
         clear x4 xr;have V6:Hid (Zae wy V 4 (bvs ((List.range nm).map (fun l=>if l<0 then Zep CF (set.take ((i'+1)+1)) l else Zep CF (set.take (i'+1)) l)))):=V5
         go_loopw [89] (fun jv ws=>∃ (j:Nat),jv = .int .i64 j/\j<=nm/\Hid (Zae ws V 4 (bvs ((List.range nm).map (fun l=>if l<j then Zep CF (set.take ((i'+1)+1)) l else Zep CF (set.take (i'+1)) l))))/\Hid (Only w3 ws (· = V))) (fun k _=>(nm-intOf k).toNat)
         case atStart=>exact⟨0,rfl,by omega,V6,ON5⟩
         case round =>
          clear V6 V5 ON5 B25;obtain⟨j,rfl,hj,V7,ON7⟩:=hrel;have e5:IntKind.i64.wrap ((j:Int)+1)=((j+1:Nat):Int):=đh _ (by omega);have B27:Hid (Below w2.heap.size w2 wr):=ħ (B23.o.trans (ON7.o.below B23.o.size (fun g hg=>by rw[hg,HVS.o];exact đd _)));by_cases hjn:j<nm
          ·have jj:(j:Int)<nm:=by omega
           obtain⟨gb,ob,hbo,hbc⟩:=(HRB.o wr B27.o).bool j (by rw[HRL.o];exact hjn);have HBO:=ħ hbo;subst hbo
           have vc:=V7.o.cell j (.bool (Zep CF (set.take (i'+1)) j)) (by
            unfold bvs;rw[đj,đj,List.getElem?_range hjn];show some (Value.bool (if j<j then _ else _))=_
            rw[if_neg (Nat.lt_irrefl j)])
           have vf:=V7.o.warm j;have HAJ:=ħ (HAN.o j);obtain⟨bt,hbt⟩:∃ y,ru.getD j false=y:=⟨_,rfl⟩;obtain⟨od,hod⟩:∃ y,Zep CF (set.take (i'+1)) j=y:=⟨_,rfl⟩;rw[hbt] at hbc HAJ;rw[hod] at vc HAJ
           have HV8:Hid (Zae (wr.setCell ⟨V,j,none⟩ (.bool (od||bt))) V 4 (bvs ((List.range nm).map (fun l=>if l<j+1 then Zep CF (set.take ((i'+1)+1)) l else Zep CF (set.take (i'+1)) l)))):=ħ (by
            have:=V7.o.set j (.bool (od||bt));have e:=Zg9 (f:=Zep CF (set.take (i'+1))) (g:=Zep CF (set.take ((i'+1)+1))) hjn;rw[HAJ.o] at e
            rwa [<- Zdp,e] at this)
           have ON8:=ħ (ON7.o.setCell (a:=⟨V,j,none⟩) (.bool (od||bt)) rfl);clear hbt hod V7 ON7
           cases od with
           | true =>
            go_upto_region 14 with(fail)
            clear vc vf hbc;simp only[Bool.true_or] at HV8 ON8;generalize wr.setCell ⟨V,j,none⟩ (.bool true)=w8 at *
            go_wp2_with fail
            go_roundw
            case rel=>exact⟨j+1,by go_num,by omega,HV8,ON8⟩
            case measure=>simp only[intOf];omega
           | false =>
            go_upto_region 14 with(fail)
            clear vc vf hbc;simp only[Bool.false_or] at HV8 ON8;generalize wr.setCell ⟨V,j,none⟩ (.bool bt)=w8 at *
            go_wp2_with fail
            go_roundw
            case rel=>exact⟨j+1,by go_num,by omega,HV8,ON8⟩
            case measure=>simp only[intOf];omega
          ·have jj:¬ (j:Int)<nm:=by omega
           obtain rfl:nm=j:=by omega
           have V9:Hid (Zae wr V 4 (bvs ((List.range nm).map (Zep CF (set.take ((i'+1)+1)))))):=ħ (by
            have:=V7.o;have e:(List.range nm).map (fun l=>if l<nm then Zep CF (set.take ((i'+1)+1)) l else Zep CF (set.take (i'+1)) l)=(List.range nm).map (Zep CF (set.take ((i'+1)+1))):=List.map_congr_left (fun l hl=>if_pos (List.mem_range.1 hl))
            rwa [e] at this)
           have HJ2:Hid (∀ j,j<(i'+1)+1->Znf c set j=true):=ħ (fun j hj=>by
            rcases đw j (i'+1) with h | h
            ·exact HJ.o j h
            ·obtain rfl:j=(i'+1):=by omega
             exact HOF.o)
           go_wp2_with fail
           go_roundw
           case rel=>first | exact⟨_,_,_,_,_,_,⟨(i'+1)+1,by go_num,by omega,HJ2,V9⟩,rfl,rfl,rfl,rfl,rfl,rfl⟩ | exact⟨_,_,_,_,_,_,⟨(i'+1)+1,by go_num,by omega,HJ2,V9,ON7⟩,rfl,rfl,rfl,rfl,rfl,rfl⟩
           case measure=>simp only[intOf];omega
        ·have HOF:Hid (Znf c set (i'+1)=false):=ħ (by rw[HOA2.o,decide_eq_false hww,Bool.and_false])
         clear HOA2
         go_upto_region 8 with(fail)
         refine wp_region_quiet_below (by kernel_rfl) (by kernel_rfl) ?_
         repeat (go_big_quiet_step (with_reducible (exact r1 _ _)))
         refine wpQuiet_nil ?_;intro _ hw';obtain⟨⟨dq,osq⟩,hw''⟩:=hw';subst hw'';have BQ:=ħ (below_regrown wr dq osq);clear r1 c2' c2 si HWI s0 s0' uk uk' si' sp sp' u0 u0';generalize grow (redrawn wr dq) osq=wy at *
         go_wp2_with fail
         go_ret;exact⟨by rw[HBAD.o (i'+1) hin HOF.o];rfl,B4.o.trans (BQ.o.mono B4.o.size)⟩
       ·have hyk2:(k:Int)<=y:=by omega
        have HOF:Hid (Znf c set (i'+1)=false):=ħ (by rw[HOA2.o,decide_eq_false hyk];rfl);clear HOA2
        go_upto_region 8 with(fail)
        refine wp_region_quiet_below (by kernel_rfl) (by kernel_rfl) ?_
        repeat (go_big_quiet_step (with_reducible (exact r1 _ _)))
        refine wpQuiet_nil ?_;intro _ hw';obtain⟨⟨dq,osq⟩,hw''⟩:=hw';subst hw'';have BQ:=ħ (below_regrown wr dq osq);clear r1 c2' c2 si HWI s0 s0' uk uk' si' sp sp' u0 u0';generalize grow (redrawn wr dq) osq=wy at *
        go_wp2_with fail
        go_ret;exact⟨by rw[HBAD.o (i'+1) hin HOF.o];rfl,B4.o.trans (BQ.o.mono B4.o.size)⟩
    ·have ii:¬ (i:Int)<ns:=by omega
     obtain rfl:ns=i:=by omega
     have HTA:Hid (set.take ns=set):=ħ (List.take_of_length_le (by rw[HSE.o];exact đd _));have V5:Hid (Zae wr V 4 (bvs ((List.range nm).map (Zep CF set)))):=ħ (by have:=V4.o;rwa [HTA.o] at this);have HPD:=ħ (HPN.o (by rw[List.all_eq_true];exact fun j hj=>HJ.o j (List.mem_range.1 hj)));have HI1:=ħ (HJ.o 0 (by omega));obtain⟨x0,hx0⟩:∃ x,set[0]?=some x:=⟨_,đb (by rw[HSE.o];omega)⟩;have HX0:Hid (set.getD 0 0=x0):=ħ (by rw[đf,hx0];rfl)
     have hidx0:Zco x0 nu=true:=by
      have:=HI1.o;unfold Znf at this;rw[HX0.o,HUE.o] at this;simp only[đi] at this;exact this.1.1
     obtain⟨k0,hk0,hk0n⟩:=Zbx hidx0;subst hk0;obtain⟨xu0,hxu0⟩:∃ y,c.us[k0]?=some y:=⟨_,đb (by rw[HUE.o];exact hk0n)⟩;have hv0:=Zfc ((Zau HVC.o).2.2.2.2.2 xu0 (đe hxu0));obtain⟨n0,hn0w⟩:∃ n:Nat,xu0.w=(n:Int):=⟨xu0.w.toNat,by omega⟩
     have HW0:Hid ((Z0k c (set.getD 0 0)).toNat=n0):=ħ (by
      rw[HX0.o];show(c.us.getD k0 ⟨0,0,0,0⟩).w.toNat=n0;rw[đf,hxu0];show xu0.w.toNat=n0
      omega)
     have hn0b:n0<=15:=by omega
     obtain⟨gs,os,hso,hgs,hsc⟩:=(HSW.o wr B4.o).at Zaz 0 (k0:Int) hx0;have s0:=hsc 0 _ rfl;obtain⟨gu,ou,huo,hgu,hcu⟩:=(HUW.o wr B4.o).at Zbj k0 xu0 hxu0;have u0:=hcu 1 _ rfl;rw[hn0w] at u0;rw[Nat.mul_one,Nat.add_zero] at s0;subst hso;subst huo;have X5:=ħ (X3.o.only ON.o (by have:=HVW.o;omega))
     have zz:(0:Int)<ns:=by omega
     have kk0:(k0:Int)<nu:=by omega
     have S0:=ħ (fun W (hW:Below wr.heap.size wr W)=>(show W.cell? ⟨gs,os,none⟩=some (.int .i64 (k0:Int)) by rw[đx (w:=wr) (a:=⟨gs,os,none⟩) (hW.block gs hgs)];exact s0));have U0:=ħ (fun W (hW:Below wr.heap.size wr W)=>(show W.cell? ⟨gu,ou+k0*4+1,none⟩=some (.int .i64 (n0:Int)) by rw[đx (w:=wr) (a:=⟨gu,ou+k0*4+1,none⟩) (hW.block gu hgu)];exact u0))
     have HMT:Hid (∀ (k:Nat) (m:Mem),c.ms[k]?=some m->0<=Zcd m.t n0/\Zcd m.t n0<=4096/\m.t.length<=16):=ħ (fun k m hm=>by
      have h1:=Zr9 ((Zau HVC.o).2.2.2.2.1 m (đe hm));unfold Zcd;rw[đf];by_cases h2:n0<m.t.length
      ·rw[đb h2]
       have:=h1.1 _ (List.getElem_mem h2);exact⟨this.1,this.2,h1.2⟩
      ·rw[List.getElem?_eq_none (by omega)]
       exact⟨Int.le_refl _,by show(0:Int)<=4096;omega,h1.2⟩)
     clear hsc hcu hx0 hxu0 hidx0 hv0 hn0w hgs hgu s0 u0 V4 HI1;obtain⟨wq,hwq⟩:∃ y,wr=y:=⟨_,rfl⟩;have HWQ:Hid (Below wr.heap.size wr wr):=ħ (đc _ _);rw[hwq] at V5 X5 S0 U0 B4 HWQ ⊢;clear hwq B24 ON
     go_wp2_with fail
     have HR0:Hid (Zf8 c CF set 0=0):=ħ rfl
     go_loopw [108,16] (fun kv rv ws=>∃ (k:Nat) (r:Int),kv = .int .i64 k/\rv = .int .i64 r/\k<=nm/\0<=r/\r<=4096*(k:Int)/\Hid (Zf8 c CF set k=r)/\Hid (Below wq.heap.size wq ws)) (fun k _ _=>(nm-intOf k).toNat)
     case atStart=>exact⟨0,0,rfl,rfl,by omega,by omega,by omega,HR0,HWQ⟩
     case round =>
      clear HR0 HWQ;obtain⟨k,r,rfl,rfl,hk,hr0,hr1,HRO,BW⟩:=hrel;have e5:IntKind.i64.wrap ((k:Int)+1)=((k+1:Nat):Int):=đh _ (by omega);by_cases hkn:k<nm
      ·have kk:(k:Int)<nm:=by omega
       have vc:=(V5.o.step BW.o).cell k (.bool (Zep CF set k)) (by
        unfold bvs
        rw[đj,đj,List.getElem?_range hkn];rfl)
       obtain⟨m2,hm2⟩:∃ y,c.ms[k]?=some y:=⟨_,đb (by rw[HME.o];exact hkn)⟩
       have HRN:Hid (Zf8 c CF set (k+1)=r+(if Zep CF set k=true then Zcd m2.t n0 else 0)):=ħ (by
        show Zf8 c CF set k+(if Zep CF set k=true then Zcd (c.ms.getD k ⟨[],[],0⟩).t (Z0k c (set.getD 0 0)).toNat else 0)=_
        rw[HRO.o,HW0.o,đf (l:=c.ms),hm2];rfl)
       obtain⟨ab,hab⟩:∃ y,Zep CF set k=y:=⟨_,rfl⟩;rw[hab] at vc HRN;clear hab
       cases ab with
       | false =>
        have HRN2:Hid (Zf8 c CF set (k+1)=r):=ħ (by rw[HRN.o];simp);clear HRN HRO
        go_wp2_with fail
        clear vc;go_roundw
        case rel=>exact⟨k+1,r,by go_num,rfl,by omega,hr0,by omega,HRN2,BW⟩
        case measure=>simp only[intOf];omega
       | true =>
        obtain⟨ht0,ht1,htl⟩:=HMT.o k m2 hm2;have HRN2:Hid (Zf8 c CF set (k+1)=r+Zcd m2.t n0):=ħ (by rw[HRN.o,if_pos rfl]);obtain⟨gm,om,cs2,hmo,hgm,hmc,hrd⟩:=(HMW.o wr (B4.o.trans (BW.o.mono B4.o.size))).at k m2 hm2;have HTI:=ħ (fun W (hW:Below wr.heap.size wr W)=>Zgh W m2 _ (hmc.below hW) n0 (by omega) (by omega));have HMC:=ħ hmc;obtain⟨mbo,mbc,mto,mtc,rfl,-,-⟩:=hmc;have r1:=Z40 wr (fun W hW=>HTI.o W hW);have m0c:=hrd 0 _ rfl;have m1c:=hrd 1 _ rfl;have m2c:=hrd 2 _ rfl;rw[Nat.add_zero] at m0c;subst hmo;have c1:=(X5.o.step BW.o).cell 1 _ rfl;have c2:=(X5.o.step BW.o).cell 2 _ rfl;have s0:=S0.o wr BW.o;have u0:=U0.o wr BW.o;have c1':=cell_regrown c1;have c2':=cell_regrown c2;have s0':=cell_regrown s0;have u0':=cell_regrown u0;have m0c':=cell_regrown m0c;have m1c':=cell_regrown m1c;have m2c':=cell_regrown m2c;clear HRN HRO hrd hgm hm2 HTI HMC;generalize Zcd m2.t n0=tk at *;generalize m2.b.length=nb at *;generalize m2.t.length=nt at *;generalize m2.r=mr at *;have e6:IntKind.i64.wrap (r+tk)=r+tk:=đh _ (by omega)
        go_upto_region 21 with(fail)
        refine wp_region_quiet_below (by kernel_rfl) (by kernel_rfl) ?_
        repeat (go_big_quiet_step (with_reducible (exact r1 _ _)))
        refine wpQuiet_nil ?_;intro _ hw';obtain⟨⟨dq,osq⟩,hw''⟩:=hw';subst hw'';have BQ:=ħ (below_regrown wr dq osq);clear r1 c1' c2' c1 c2 s0 u0 s0' u0' m0c m1c m2c m0c' m1c' m2c' vc;have BW2:=ħ (BW.o.trans (BQ.o.mono BW.o.size));clear BQ BW;generalize grow (redrawn wr dq) osq=wy at *
        go_wp2_with fail
        go_roundw
        case rel=>exact⟨k+1,r+tk,by go_num,rfl,by omega,by omega,by omega,HRN2,BW2⟩
        case measure=>simp only[intOf];omega
      ·have kk:¬ (k:Int)<nm:=by omega
       obtain rfl:nm=k:=by omega
       have HFI:=ħ (B4.o.trans (BW.o.mono B4.o.size));rw[HRO.o] at HPD;by_cases hrn:r<(ns:Int)
       ·rw[decide_eq_true hrn] at HPD
        go_wp2_with fail
        go_ret;exact⟨by rw[HPD.o];rfl,HFI.o⟩
       ·rw[decide_eq_false hrn] at HPD
        have hrn2:(ns:Int)<=r:=by omega
        go_wp2_with fail
        go_ret;exact⟨by rw[HPD.o];rfl,HFI.o⟩
end Go.Proofs.YtbcgocpihobjnaaGreatDoor
