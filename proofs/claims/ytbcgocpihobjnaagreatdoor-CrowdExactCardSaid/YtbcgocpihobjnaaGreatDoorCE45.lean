import Derived.Test.YtbcgocpihobjnaaGreatDoorCE44
import Derived.Test.YtbcgocpihobjnaaGreatDoorCE24
set_option linter.all false
set_option maxHeartbeats 16000000
set_option maxRecDepth 100000
namespace Go.Proofs.YtbcgocpihobjnaaGreatDoor
open Go.RowKit Go.Sort Go.Maps
def Zeq (nq nm nu:Nat):Bool:=(decide (nq≤6)||decide (nq=129))&&(decide (nm≤6)||decide (nm=65))&&decide (nu≤14)&&(decide (nu≤8)||decide (nm≤2))&&(decide (nu≤6)||decide (nm≤4))
def Zwi (m:Mem):Bool:=decide (m.b.length≤8)&&decide (m.t.length≤18)
def Z2r (c:Crw):Bool:=Zeq c.qs.length c.ms.length c.us.length&&c.qs.all (fun q=>Zs9 q 40 8)&&c.ms.all Zwi
structure LenC (c:Crw):Prop where
 q:∀ p∈c.qs,Zum p
 m:∀ m∈c.ms,m.b.length≤9223372036854775807∧m.t.length≤9223372036854775807
 nq:c.qs.length≤9223372036854775807
 nm:c.ms.length≤9223372036854775807
 nu:c.us.length≤9223372036854775807
theorem Zzp (w:World) (c:Crw) (cs:List Value) (hc:Zfu w c cs) (hL:LenC c) :
  Calls Tryz.prog 19 #[.agg cs.toArray] w fun e w'=>e = .returned (.bool (Z2r c))∧Below w.heap.size w w':=by
 obtain⟨V,hV⟩:∃ V,Z2r c=V:=⟨_,rfl⟩;have HV:Hid (V=(Zeq c.qs.length c.ms.length c.us.length&&c.qs.all (fun q=>Zs9 q 40 8)&&c.ms.all Zwi)):=ħ hV.symm;rw[hV];obtain⟨qo,qc,mo,mc,uo,uc,rfl,hq0,hm0,hu0,-⟩:=hc;have HQW:=ħ (fun W (hW:Below w.heap.size w W)=>hq0.below hW);have HMW:=ħ (fun W (hW:Below w.heap.size w W)=>hm0.below hW);have HLQ:=ħ hL.q;have HLM:=ħ hL.m;have hnq0:=hL.nq;have hnm0:=hL.nm;have hnu0:=hL.nu;clear hV hq0 hm0 hu0 hL;generalize c.us=us at *;generalize us.length=nu at *;generalize hnq:c.qs.length=nq at *;generalize hnm:c.ms.length=nm at *;generalize c.qs=qs at *;generalize c.ms=ms at *;have HQE:=ħ hnq;have HME:=ħ hnm;clear hnq hnm;obtain⟨S,hS⟩:∃ S,Zeq nq nm nu=S:=⟨_,rfl⟩;rw[hS] at HV;have HS:=ħ hS;clear hS;obtain⟨NS,hNS⟩:∃ NS,(!S)=NS:=⟨_,rfl⟩;have HNS:=ħ hNS;clear hNS;have X1:Hid (Zaf (w.alloc (.cells #[.slice qo nq qc,.slice mo nm mc,.slice uo nu uc] 26)) w.heap.size 26 [.slice qo nq qc,.slice mo nm mc,.slice uo nu uc]):=ħ (heap_alloc_new w _);have B1:=ħ ((Below.refl w.heap.size w).alloc (Nat.le_refl _) (.cells #[.slice qo nq qc,.slice mo nm mc,.slice uo nu uc] 26))
 go_enter Tryz.func19,Tryz.ntmps19
 go_upto_region 1 with (fail)
 generalize w.alloc (.cells #[.slice qo nq qc,.slice mo nm mc,.slice uo nu uc] 26)=w1 at *;have c0:=X1.o.cell 0 _ rfl;have c1:=X1.o.cell 1 _ rfl;have c2:=X1.o.cell 2 _ rfl
 go_cut [56] from 5 to 55 (fun xv wx=>xv = .bool NS∧wx=w1)
 case first =>
  by_cases hq6:6<(nq:Int)
  ·by_cases hq129:(nq:Int)=129
   ·by_cases hm6:6<(nm:Int)
    ·by_cases hm65:(nm:Int)=65
     ·by_cases hu14:14<(nu:Int)
      ·first
       | exfalso;omega
       | (go_wp2;go_meet;case rel=>exact⟨by rw[← HNS.o,← HS.o];unfold Zeq;simp;omega,rfl⟩)
      ·by_cases hu8:8<(nu:Int)
       ·by_cases hm2:2<(nm:Int)
        ·first
         | exfalso;omega
         | (go_wp2;go_meet;case rel=>exact⟨by rw[← HNS.o,← HS.o];unfold Zeq;simp;omega,rfl⟩)
        ·by_cases hu6:6<(nu:Int)
         ·by_cases hm4:4<(nm:Int)
          ·first
           | exfalso;omega
           | (go_wp2;go_meet;case rel=>exact⟨by rw[← HNS.o,← HS.o];unfold Zeq;simp;omega,rfl⟩)
          ·first
           | exfalso;omega
           | (go_wp2;go_meet;case rel=>exact⟨by rw[← HNS.o,← HS.o];unfold Zeq;simp;omega,rfl⟩)
         ·first
          | exfalso;omega
          | (go_wp2;go_meet;case rel=>exact⟨by rw[← HNS.o,← HS.o];unfold Zeq;simp;omega,rfl⟩)
       ·by_cases hu6:6<(nu:Int)
        ·by_cases hm4:4<(nm:Int)
         ·first
          | exfalso;omega
          | (go_wp2;go_meet;case rel=>exact⟨by rw[← HNS.o,← HS.o];unfold Zeq;simp;omega,rfl⟩)
         ·first
          | exfalso;omega
          | (go_wp2;go_meet;case rel=>exact⟨by rw[← HNS.o,← HS.o];unfold Zeq;simp;omega,rfl⟩)
        ·first
         | exfalso;omega
         | (go_wp2;go_meet;case rel=>exact⟨by rw[← HNS.o,← HS.o];unfold Zeq;simp;omega,rfl⟩)
     ·first
      | exfalso;omega
      | (go_wp2;go_meet;case rel=>exact⟨by rw[← HNS.o,← HS.o];unfold Zeq;simp;omega,rfl⟩)
    ·by_cases hu14:14<(nu:Int)
     ·first
      | exfalso;omega
      | (go_wp2;go_meet;case rel=>exact⟨by rw[← HNS.o,← HS.o];unfold Zeq;simp;omega,rfl⟩)
     ·by_cases hu8:8<(nu:Int)
      ·by_cases hm2:2<(nm:Int)
       ·first
        | exfalso;omega
        | (go_wp2;go_meet;case rel=>exact⟨by rw[← HNS.o,← HS.o];unfold Zeq;simp;omega,rfl⟩)
       ·by_cases hu6:6<(nu:Int)
        ·by_cases hm4:4<(nm:Int)
         ·first
          | exfalso;omega
          | (go_wp2;go_meet;case rel=>exact⟨by rw[← HNS.o,← HS.o];unfold Zeq;simp;omega,rfl⟩)
         ·first
          | exfalso;omega
          | (go_wp2;go_meet;case rel=>exact⟨by rw[← HNS.o,← HS.o];unfold Zeq;simp;omega,rfl⟩)
        ·first
         | exfalso;omega
         | (go_wp2;go_meet;case rel=>exact⟨by rw[← HNS.o,← HS.o];unfold Zeq;simp;omega,rfl⟩)
      ·by_cases hu6:6<(nu:Int)
       ·by_cases hm4:4<(nm:Int)
        ·first
         | exfalso;omega
         | (go_wp2;go_meet;case rel=>exact⟨by rw[← HNS.o,← HS.o];unfold Zeq;simp;omega,rfl⟩)
        ·first
         | exfalso;omega
         | (go_wp2;go_meet;case rel=>exact⟨by rw[← HNS.o,← HS.o];unfold Zeq;simp;omega,rfl⟩)
       ·first
        | exfalso;omega
        | (go_wp2;go_meet;case rel=>exact⟨by rw[← HNS.o,← HS.o];unfold Zeq;simp;omega,rfl⟩)
   ·first
    | exfalso;omega
    | (go_wp2;go_meet;case rel=>exact⟨by rw[← HNS.o,← HS.o];unfold Zeq;simp;omega,rfl⟩)
  ·by_cases hm6:6<(nm:Int)
   ·by_cases hm65:(nm:Int)=65
    ·by_cases hu14:14<(nu:Int)
     ·first
      | exfalso;omega
      | (go_wp2;go_meet;case rel=>exact⟨by rw[← HNS.o,← HS.o];unfold Zeq;simp;omega,rfl⟩)
     ·by_cases hu8:8<(nu:Int)
      ·by_cases hm2:2<(nm:Int)
       ·first
        | exfalso;omega
        | (go_wp2;go_meet;case rel=>exact⟨by rw[← HNS.o,← HS.o];unfold Zeq;simp;omega,rfl⟩)
       ·by_cases hu6:6<(nu:Int)
        ·by_cases hm4:4<(nm:Int)
         ·first
          | exfalso;omega
          | (go_wp2;go_meet;case rel=>exact⟨by rw[← HNS.o,← HS.o];unfold Zeq;simp;omega,rfl⟩)
         ·first
          | exfalso;omega
          | (go_wp2;go_meet;case rel=>exact⟨by rw[← HNS.o,← HS.o];unfold Zeq;simp;omega,rfl⟩)
        ·first
         | exfalso;omega
         | (go_wp2;go_meet;case rel=>exact⟨by rw[← HNS.o,← HS.o];unfold Zeq;simp;omega,rfl⟩)
      ·by_cases hu6:6<(nu:Int)
       ·by_cases hm4:4<(nm:Int)
        ·first
         | exfalso;omega
         | (go_wp2;go_meet;case rel=>exact⟨by rw[← HNS.o,← HS.o];unfold Zeq;simp;omega,rfl⟩)
        ·first
         | exfalso;omega
         | (go_wp2;go_meet;case rel=>exact⟨by rw[← HNS.o,← HS.o];unfold Zeq;simp;omega,rfl⟩)
       ·first
        | exfalso;omega
        | (go_wp2;go_meet;case rel=>exact⟨by rw[← HNS.o,← HS.o];unfold Zeq;simp;omega,rfl⟩)
    ·first
     | exfalso;omega
     | (go_wp2;go_meet;case rel=>exact⟨by rw[← HNS.o,← HS.o];unfold Zeq;simp;omega,rfl⟩)
   ·by_cases hu14:14<(nu:Int)
    ·first
     | exfalso;omega
     | (go_wp2;go_meet;case rel=>exact⟨by rw[← HNS.o,← HS.o];unfold Zeq;simp;omega,rfl⟩)
    ·by_cases hu8:8<(nu:Int)
     ·by_cases hm2:2<(nm:Int)
      ·first
       | exfalso;omega
       | (go_wp2;go_meet;case rel=>exact⟨by rw[← HNS.o,← HS.o];unfold Zeq;simp;omega,rfl⟩)
      ·by_cases hu6:6<(nu:Int)
       ·by_cases hm4:4<(nm:Int)
        ·first
         | exfalso;omega
         | (go_wp2;go_meet;case rel=>exact⟨by rw[← HNS.o,← HS.o];unfold Zeq;simp;omega,rfl⟩)
        ·first
         | exfalso;omega
         | (go_wp2;go_meet;case rel=>exact⟨by rw[← HNS.o,← HS.o];unfold Zeq;simp;omega,rfl⟩)
       ·first
        | exfalso;omega
        | (go_wp2;go_meet;case rel=>exact⟨by rw[← HNS.o,← HS.o];unfold Zeq;simp;omega,rfl⟩)
     ·by_cases hu6:6<(nu:Int)
      ·by_cases hm4:4<(nm:Int)
       ·first
        | exfalso;omega
        | (go_wp2;go_meet;case rel=>exact⟨by rw[← HNS.o,← HS.o];unfold Zeq;simp;omega,rfl⟩)
       ·first
        | exfalso;omega
        | (go_wp2;go_meet;case rel=>exact⟨by rw[← HNS.o,← HS.o];unfold Zeq;simp;omega,rfl⟩)
      ·first
       | exfalso;omega
       | (go_wp2;go_meet;case rel=>exact⟨by rw[← HNS.o,← HS.o];unfold Zeq;simp;omega,rfl⟩)
 case rest =>
  obtain⟨rfl,rfl⟩:=hcut;clear c0 c1 c2
  cases NS with
  | true =>
   have HF:Hid (V=false):=ħ (by rw[HV.o,show S=false by simpa using HNS.o];rfl)
   go_wp2
   go_ret;exact⟨Zac HF.o.symm,B1.o⟩
  | false =>
   have HV:Hid (V=(qs.all (fun q=>Zs9 q 40 8)&&ms.all Zwi)):=ħ (by rw[HV.o,show S=true by simpa using HNS.o,Bool.true_and])
   go_wp2_with fail
   go_loopw [3] (fun cc wr=>∃ (i:Nat),cc = .int .i64 i∧i≤nq∧Hid (∀ q∈qs.take i,Zs9 q 40 8=true)∧Hid (Below w.heap.size w wr)∧Hid (Zaf wr w.heap.size 26 [.slice qo nq qc,.slice mo nm mc,.slice uo nu uc])) (fun c _=>(nq-intOf c).toNat)
   case atStart=>exact⟨0,rfl,by omega,ħ (by simp),B1,X1⟩
   case round =>
    clear B1 X1;obtain⟨i,rfl,hi,ha,hw,hx⟩:=hrel;have c0:=hx.o.cell 0 _ rfl;by_cases hlt:i<nq
    ·have e2:IntKind.i64.wrap ((i:Int)+1)=((i+1:Nat):Int):=IntWalk.i64_in _ (by omega)
     have ii:(i:Int)<nq:=by omega
     obtain⟨q,hq⟩:∃ q,qs[i]?=some q:=⟨_,List.getElem?_eq_getElem (by rw[HQE.o];exact hlt)⟩;obtain⟨g,off,vs,hao,hgl,hpc,hrd⟩:=(HQW.o wr hw.o).at i q hq;obtain⟨xa,xn,xc,hvf,-⟩:=hpc.form;subst hvf;have HSH:=ħ (Z0z q 40 8 (by omega) (by omega) wr _ _ (HLQ.o q (List.mem_of_getElem? hq)) hpc);have s0:=hrd 0 _ rfl;have s1:=hrd 1 _ rfl;have s2:=hrd 2 _ rfl;have s3:=hrd 3 _ rfl;have s4:=hrd 4 _ rfl;rw[Nat.add_zero] at s0;have HAO:=ħ hao;have HQI:=ħ hq;clear hq hpc hrd hgl;subst hao;obtain⟨sv,hsv⟩:∃ v,Zs9 q 40 8=v:=⟨_,rfl⟩;rw[hsv] at HSH;have HSV:=ħ hsv;clear hsv;generalize q.k=q0 at *;generalize Zag q.l=q1 at *;generalize Zag q.r=q2 at *;generalize q.c=q3 at *
     go_wp2_with fail
     refine HSH.o.mono ?_;rintro e w3 ⟨rfl,b3⟩;have hw3:=ħ (hw.o.trans (b3.mono hw.o.size));have hx3:=ħ (hx.o.step b3);clear b3 s0 s1 s2 s3 s4 HSH hw hx c0
     cases sv with
     | false =>
      have HF:Hid (V=false):=ħ (by
       rw[HV.o]
       have:qs.all (fun q=>Zs9 q 40 8)=false:=by
        rw[List.all_eq_false];exact⟨q,List.mem_of_getElem? HQI.o,by rw[HSV.o];simp⟩
       rw[this];rfl)
      go_wp2_with fail
      go_ret;exact⟨Zac HF.o.symm,hw3.o⟩
     | true =>
      have HA3:Hid (∀ b∈qs.take (i+1),Zs9 b 40 8=true):=ħ (by
       intro b hb;rw[List.take_add_one,HQI.o] at hb;rcases List.mem_append.1 hb with hb | hb
       ·exact ha.o b hb
       ·simp only[Option.toList_some,List.mem_singleton] at hb;rw[hb];exact HSV.o)
      go_wp2_with fail
      go_roundw
      case rel=>exact⟨i+1,by go_num,by omega,HA3,hw3,hx3⟩
      case measure=>simp only[intOf];omega
    ·have ii:¬ (i:Int)<nq:=by omega
     obtain rfl:nq=i:=by omega
     have HV:Hid (V=ms.all Zwi):=ħ (by
      rw[HV.o]
      have:qs.all (fun q=>Zs9 q 40 8)=true:=by
       rw[List.all_eq_true];intro q hq;exact ha.o q (by rw[← HQE.o,List.take_length];exact hq)
      rw[this,Bool.true_and])
     clear ha
     go_wp2_with fail
     clear c0
     go_loopw [4] (fun cc wr=>∃ (j:Nat),cc = .int .i64 j∧j≤nm∧Hid (∀ m∈ms.take j,Zwi m=true)∧Hid (Below w.heap.size w wr)∧Hid (Zaf wr w.heap.size 26 [.slice qo nq qc,.slice mo nm mc,.slice uo nu uc])) (fun c _=>(nm-intOf c).toNat)
     case atStart=>exact⟨0,rfl,by omega,ħ (by simp),hw,hx⟩
     case round =>
      clear hw hx;obtain⟨j,rfl,hj,ha,hw,hx⟩:=hrel;have c1:=hx.o.cell 1 _ rfl;by_cases hlt:j<nm
      ·have e2:IntKind.i64.wrap ((j:Int)+1)=((j+1:Nat):Int):=IntWalk.i64_in _ (by omega)
       have ii:(j:Int)<nm:=by omega
       obtain⟨m,hm⟩:∃ m,ms[j]?=some m:=⟨_,List.getElem?_eq_getElem (by rw[HME.o];exact hlt)⟩;obtain⟨g,off,vs,hao,hgl,hpc,hrd⟩:=(HMW.o wr hw.o).at j m hm;obtain⟨bo,bc,ta,tc,rfl,-,-⟩:=hpc;have s0:=hrd 0 _ rfl;have s1:=hrd 1 _ rfl;rw[Nat.add_zero] at s0;have hlm:=HLM.o m (List.mem_of_getElem? hm);have HMI:=ħ hm;clear hm hrd hgl;subst hao;obtain⟨nb,hnb⟩:∃ v,m.b.length=v:=⟨_,rfl⟩;obtain⟨nt,hnt⟩:∃ v,m.t.length=v:=⟨_,rfl⟩;rw[hnb] at s0 hlm;rw[hnt] at s1 hlm;have HFM:Hid (Zwi m=(decide (nb≤8)&&decide (nt≤18))):=ħ (by unfold Zwi;rw[hnb,hnt])
       have HFF:Hid (Zwi m=false→V=false):=ħ (fun hf=>by
        rw[HV.o,List.all_eq_false]
        exact⟨m,List.mem_of_getElem? HMI.o,by rw[hf];simp⟩)
       clear hnb hnt;by_cases h8:8<nb
       ·have h8i:(8:Int)<nb:=by omega
        have HF:Hid (V=false):=ħ (HFF.o (by rw[HFM.o,decide_eq_false (by omega),Bool.false_and]))
        go_wp2_with fail
        go_ret;exact⟨Zac HF.o.symm,hw.o⟩
       ·have h8i:¬ (8:Int)<nb:=by omega
        by_cases h18:18<nt
        ·have h18i:(18:Int)<nt:=by omega
         have HF:Hid (V=false):=ħ (HFF.o (by rw[HFM.o,decide_eq_false (show ¬ nt≤18 by omega),Bool.and_false]))
         go_wp2_with fail
         go_ret;exact⟨Zac HF.o.symm,hw.o⟩
        ·have h18i:¬ (18:Int)<nt:=by omega
         have HT:Hid (∀ b∈ms.take (j+1),Zwi b=true):=ħ (by
          intro b hb;rw[List.take_add_one,HMI.o] at hb;rcases List.mem_append.1 hb with hb | hb
          ·exact ha.o b hb
          ·simp only[Option.toList_some,List.mem_singleton] at hb
           rw[hb,HFM.o,decide_eq_true (by omega),decide_eq_true (by omega)];rfl)
         clear ha
         go_wp2_with fail
         go_roundw
         case rel=>exact⟨j+1,by go_num,by omega,HT,hw,hx⟩
         case measure=>simp only[intOf];omega
      ·have ii:¬ (j:Int)<nm:=by omega
       have HF:Hid (V=true):=ħ (by
        rw[HV.o,List.all_eq_true];intro m hm
        exact ha.o m (by rw[List.take_of_length_le (by rw[HME.o];omega)];exact hm))
       go_wp2_with fail
       go_ret;exact⟨Zac HF.o.symm,hw.o⟩
end Go.Proofs.YtbcgocpihobjnaaGreatDoor
