import Derived.Test.YtbcgocpihobjnaaGreatDoorCC48
import Derived.Test.YtbcgocpihobjnaaGreatDoorCC24
import Derived.Test.YtbcgocpihobjnaaGreatDoorCC31
set_option linter.all false
set_option maxHeartbeats 32000000
set_option maxRecDepth 100000
namespace Go.Proofs.YtbcgocpihobjnaaGreatDoor
section
open Go.RowKit Go.Sort Go.Maps
def Zfe(nq nm nu:Nat):Bool:=(decide (nq<=6)||decide (nq=129))&&(decide (nm<=6)||decide (nm=65))&&decide (nu<=14)&&(decide (nu<=8)||decide (nm<=2))&&(decide (nu<=6)||decide (nm<=4))
def Zuv(m:Mem):Bool:=decide (m.b.length<=8)&&decide (m.t.length<=18)
def Z2w(c:Crw):Bool:=Zfe c.qs.length c.ms.length c.us.length&&c.qs.all (fun q=>Zp1 q 40 8)&&c.ms.all Zuv
structure LenC (c:Crw):Prop where
 q:∀ p∈c.qs,Zp0 p
 m:∀ m∈c.ms,m.b.length<=9223372036854775807/\m.t.length<=9223372036854775807
 nq:c.qs.length<=9223372036854775807
 nm:c.ms.length<=9223372036854775807
 nu:c.us.length<=9223372036854775807
theorem Z02(w:World)(c:Crw)(cs:List Value)(hc:Zhs w c cs)(hL:LenC c) :
  Calls Tryz.prog 19 #[.agg cs.toArray] w fun e w'=>e = .returned (.bool (Z2w c))/\Below w.heap.size w w':=by
 obtain⟨V,hV⟩:∃ V,Z2w c=V:=⟨_,rfl⟩;have HV:Hid (V=(Zfe c.qs.length c.ms.length c.us.length&&c.qs.all (fun q=>Zp1 q 40 8)&&c.ms.all Zuv)):=ħ hV.symm;rw[hV];obtain⟨qo,qc,mo,mc,uo,uc,rfl,hq0,hm0,hu0,-⟩:=hc;have HQW:=ħ (fun W (hW:Below w.heap.size w W)=>hq0.below hW);have HMW:=ħ (fun W (hW:Below w.heap.size w W)=>hm0.below hW);have HLQ:=ħ hL.q;have HLM:=ħ hL.m;have hnq0:=hL.nq;have hnm0:=hL.nm;have hnu0:=hL.nu;clear hV hq0 hm0 hu0 hL;generalize c.us=us at *;generalize us.length=nu at *;generalize hnq:c.qs.length=nq at *;generalize hnm:c.ms.length=nm at *;generalize c.qs=qs at *;generalize c.ms=ms at *;have HQE:=ħ hnq;have HME:=ħ hnm;clear hnq hnm;obtain⟨S,hS⟩:∃ S,Zfe nq nm nu=S:=⟨_,rfl⟩;rw[hS] at HV;have HS:=ħ hS;clear hS;obtain⟨NS,hNS⟩:∃ NS,(!S)=NS:=⟨_,rfl⟩;have HNS:=ħ hNS;clear hNS;have X1:Hid (Zae (w.alloc (.cells #[.slice qo nq qc,.slice mo nm mc,.slice uo nu uc] 26)) w.heap.size 26 [.slice qo nq qc,.slice mo nm mc,.slice uo nu uc]):=ħ (heap_alloc_new w _);have B1:=ħ ((đc w.heap.size w).alloc (đd _) (.cells #[.slice qo nq qc,.slice mo nm mc,.slice uo nu uc] 26))
 go_enter Tryz.func19,Tryz.ntmps19
 go_upto_region 1 with(fail)
 generalize w.alloc (.cells #[.slice qo nq qc,.slice mo nm mc,.slice uo nu uc] 26)=w1 at *;have c0:=X1.o.cell 0 _ rfl;have c1:=X1.o.cell 1 _ rfl;have c2:=X1.o.cell 2 _ rfl
 go_cut [56] from 5 to 55 (fun xv wx=>xv = .bool NS/\wx=w1)
 case first =>
  by_cases hq6:6<(nq:Int)
  ·by_cases hq129:(nq:Int)=129
   ·by_cases hm6:6<(nm:Int)
    ·by_cases hm65:(nm:Int)=65
     ·by_cases hu14:14<(nu:Int)
      ·first
       | exfalso;omega
       | (go_wp2;go_meet;case rel=>exact⟨by rw[<- HNS.o,<- HS.o];unfold Zfe;simp;omega,rfl⟩)
      ·by_cases hu8:8<(nu:Int)
       ·by_cases hm2:2<(nm:Int)
        ·first
         | exfalso;omega
         | (go_wp2;go_meet;case rel=>exact⟨by rw[<- HNS.o,<- HS.o];unfold Zfe;simp;omega,rfl⟩)
        ·by_cases hu6:6<(nu:Int)
         ·by_cases hm4:4<(nm:Int)
          ·first
           | exfalso;omega
           | (go_wp2;go_meet;case rel=>exact⟨by rw[<- HNS.o,<- HS.o];unfold Zfe;simp;omega,rfl⟩)
          ·first
           | exfalso;omega
           | (go_wp2;go_meet;case rel=>exact⟨by rw[<- HNS.o,<- HS.o];unfold Zfe;simp;omega,rfl⟩)
         ·first
          | exfalso;omega
          | (go_wp2;go_meet;case rel=>exact⟨by rw[<- HNS.o,<- HS.o];unfold Zfe;simp;omega,rfl⟩)
       ·by_cases hu6:6<(nu:Int)
        ·by_cases hm4:4<(nm:Int)
         ·first
          | exfalso;omega
          | (go_wp2;go_meet;case rel=>exact⟨by rw[<- HNS.o,<- HS.o];unfold Zfe;simp;omega,rfl⟩)
         ·first
          | exfalso;omega
          | (go_wp2;go_meet;case rel=>exact⟨by rw[<- HNS.o,<- HS.o];unfold Zfe;simp;omega,rfl⟩)
        ·first
         | exfalso;omega
         | (go_wp2;go_meet;case rel=>exact⟨by rw[<- HNS.o,<- HS.o];unfold Zfe;simp;omega,rfl⟩)
     ·first
      | exfalso;omega
      | (go_wp2;go_meet;case rel=>exact⟨by rw[<- HNS.o,<- HS.o];unfold Zfe;simp;omega,rfl⟩)
    ·by_cases hu14:14<(nu:Int)
     ·first
      | exfalso;omega
      | (go_wp2;go_meet;case rel=>exact⟨by rw[<- HNS.o,<- HS.o];unfold Zfe;simp;omega,rfl⟩)
     ·by_cases hu8:8<(nu:Int)
      ·by_cases hm2:2<(nm:Int)
       ·first
        | exfalso;omega
        | (go_wp2;go_meet;case rel=>exact⟨by rw[<- HNS.o,<- HS.o];unfold Zfe;simp;omega,rfl⟩)
       ·by_cases hu6:6<(nu:Int)
        ·by_cases hm4:4<(nm:Int)
         ·first
          | exfalso;omega
          | (go_wp2;go_meet;case rel=>exact⟨by rw[<- HNS.o,<- HS.o];unfold Zfe;simp;omega,rfl⟩)
         ·first
          | exfalso;omega
          | (go_wp2;go_meet;case rel=>exact⟨by rw[<- HNS.o,<- HS.o];unfold Zfe;simp;omega,rfl⟩)
        ·first
         | exfalso;omega
         | (go_wp2;go_meet;case rel=>exact⟨by rw[<- HNS.o,<- HS.o];unfold Zfe;simp;omega,rfl⟩)
      ·by_cases hu6:6<(nu:Int)
       ·by_cases hm4:4<(nm:Int)
        ·first
         | exfalso;omega
         | (go_wp2;go_meet;case rel=>exact⟨by rw[<- HNS.o,<- HS.o];unfold Zfe;simp;omega,rfl⟩)
        ·first
         | exfalso;omega
         | (go_wp2;go_meet;case rel=>exact⟨by rw[<- HNS.o,<- HS.o];unfold Zfe;simp;omega,rfl⟩)
       ·first
        | exfalso;omega
        | (go_wp2;go_meet;case rel=>exact⟨by rw[<- HNS.o,<- HS.o];unfold Zfe;simp;omega,rfl⟩)
   ·first
    | exfalso;omega
    | (go_wp2;go_meet;case rel=>exact⟨by rw[<- HNS.o,<- HS.o];unfold Zfe;simp;omega,rfl⟩)
  ·by_cases hm6:6<(nm:Int)
   ·by_cases hm65:(nm:Int)=65
    ·by_cases hu14:14<(nu:Int)
     ·first
      | exfalso;omega
      | (go_wp2;go_meet;case rel=>exact⟨by rw[<- HNS.o,<- HS.o];unfold Zfe;simp;omega,rfl⟩)
     ·by_cases hu8:8<(nu:Int)
      ·by_cases hm2:2<(nm:Int)
       ·first
        | exfalso;omega
        | (go_wp2;go_meet;case rel=>exact⟨by rw[<- HNS.o,<- HS.o];unfold Zfe;simp;omega,rfl⟩)
       ·by_cases hu6:6<(nu:Int)
        ·by_cases hm4:4<(nm:Int)
         ·first
          | exfalso;omega
          | (go_wp2;go_meet;case rel=>exact⟨by rw[<- HNS.o,<- HS.o];unfold Zfe;simp;omega,rfl⟩)
         ·first
          | exfalso;omega
          | (go_wp2;go_meet;case rel=>exact⟨by rw[<- HNS.o,<- HS.o];unfold Zfe;simp;omega,rfl⟩)
        ·first
         | exfalso;omega
         | (go_wp2;go_meet;case rel=>exact⟨by rw[<- HNS.o,<- HS.o];unfold Zfe;simp;omega,rfl⟩)
      ·by_cases hu6:6<(nu:Int)
       ·by_cases hm4:4<(nm:Int)
        ·first
         | exfalso;omega
         | (go_wp2;go_meet;case rel=>exact⟨by rw[<- HNS.o,<- HS.o];unfold Zfe;simp;omega,rfl⟩)
        ·first
         | exfalso;omega
         | (go_wp2;go_meet;case rel=>exact⟨by rw[<- HNS.o,<- HS.o];unfold Zfe;simp;omega,rfl⟩)
       ·first
        | exfalso;omega
        | (go_wp2;go_meet;case rel=>exact⟨by rw[<- HNS.o,<- HS.o];unfold Zfe;simp;omega,rfl⟩)
    ·first
     | exfalso;omega
     | (go_wp2;go_meet;case rel=>exact⟨by rw[<- HNS.o,<- HS.o];unfold Zfe;simp;omega,rfl⟩)
   ·by_cases hu14:14<(nu:Int)
    ·first
     | exfalso;omega
     | (go_wp2;go_meet;case rel=>exact⟨by rw[<- HNS.o,<- HS.o];unfold Zfe;simp;omega,rfl⟩)
    ·by_cases hu8:8<(nu:Int)
     ·by_cases hm2:2<(nm:Int)
      ·first
       | exfalso;omega
       | (go_wp2;go_meet;case rel=>exact⟨by rw[<- HNS.o,<- HS.o];unfold Zfe;simp;omega,rfl⟩)
      ·by_cases hu6:6<(nu:Int)
       ·by_cases hm4:4<(nm:Int)
        ·first
         | exfalso;omega
         | (go_wp2;go_meet;case rel=>exact⟨by rw[<- HNS.o,<- HS.o];unfold Zfe;simp;omega,rfl⟩)
        ·first
         | exfalso;omega
         | (go_wp2;go_meet;case rel=>exact⟨by rw[<- HNS.o,<- HS.o];unfold Zfe;simp;omega,rfl⟩)
       ·first
        | exfalso;omega
        | (go_wp2;go_meet;case rel=>exact⟨by rw[<- HNS.o,<- HS.o];unfold Zfe;simp;omega,rfl⟩)
     ·by_cases hu6:6<(nu:Int)
      ·by_cases hm4:4<(nm:Int)
       ·first
        | exfalso;omega
        | (go_wp2;go_meet;case rel=>exact⟨by rw[<- HNS.o,<- HS.o];unfold Zfe;simp;omega,rfl⟩)
       ·first
        | exfalso;omega
        | (go_wp2;go_meet;case rel=>exact⟨by rw[<- HNS.o,<- HS.o];unfold Zfe;simp;omega,rfl⟩)
      ·first
       | exfalso;omega
       | (go_wp2;go_meet;case rel=>exact⟨by rw[<- HNS.o,<- HS.o];unfold Zfe;simp;omega,rfl⟩)
 case rest =>
  obtain⟨rfl,rfl⟩:=hcut;clear c0 c1 c2
  cases NS with
  | true =>
   have HF:Hid (V=false):=ħ (by rw[HV.o,show S=false by simpa using HNS.o];rfl)
   go_wp2
   go_ret;exact⟨Zac HF.o.symm,B1.o⟩
  | false =>
   have HV:Hid (V=(qs.all (fun q=>Zp1 q 40 8)&&ms.all Zuv)):=ħ (by rw[HV.o,show S=true by simpa using HNS.o,đk])
   go_wp2_with fail
   go_loopw [3] (fun cc wr=>∃ (i:Nat),cc = .int .i64 i/\i<=nq/\Hid (∀ q∈qs.take i,Zp1 q 40 8=true)/\Hid (Below w.heap.size w wr)/\Hid (Zae wr w.heap.size 26 [.slice qo nq qc,.slice mo nm mc,.slice uo nu uc])) (fun c _=>(nq-intOf c).toNat)
   case atStart=>exact⟨0,rfl,by omega,ħ (by simp),B1,X1⟩
   case round =>
    clear B1 X1;obtain⟨i,rfl,hi,ha,hw,hx⟩:=hrel;have c0:=hx.o.cell 0 _ rfl;by_cases hlt:i<nq
    ·have e2:IntKind.i64.wrap ((i:Int)+1)=((i+1:Nat):Int):=đh _ (by omega)
     have ii:(i:Int)<nq:=by omega
     obtain⟨q,hq⟩:∃ q,qs[i]?=some q:=⟨_,đb (by rw[HQE.o];exact hlt)⟩;obtain⟨g,off,vs,hao,hgl,hpc,hrd⟩:=(HQW.o wr hw.o).at i q hq;obtain⟨xa,xn,xc,hvf,-⟩:=hpc.form;subst hvf;have HSH:=ħ (Zp2 q 40 8 (by omega) (by omega) wr _ _ (HLQ.o q (đe hq)) hpc);have s0:=hrd 0 _ rfl;have s1:=hrd 1 _ rfl;have s2:=hrd 2 _ rfl;have s3:=hrd 3 _ rfl;have s4:=hrd 4 _ rfl;rw[Nat.add_zero] at s0;have HAO:=ħ hao;have HQI:=ħ hq;clear hq hpc hrd hgl;subst hao;obtain⟨sv,hsv⟩:∃ v,Zp1 q 40 8=v:=⟨_,rfl⟩;rw[hsv] at HSH;have HSV:=ħ hsv;clear hsv;generalize q.k=q0 at *;generalize Zad q.l=q1 at *;generalize Zad q.r=q2 at *;generalize q.c=q3 at *
     go_wp2_with fail
     refine HSH.o.mono ?_;rintro e w3 ⟨rfl,b3⟩;have hw3:=ħ (hw.o.trans (b3.mono hw.o.size));have hx3:=ħ (hx.o.step b3);clear b3 s0 s1 s2 s3 s4 HSH hw hx c0
     cases sv with
     | false =>
      have HF:Hid (V=false):=ħ (by
       rw[HV.o]
       have:qs.all (fun q=>Zp1 q 40 8)=false:=by
        rw[List.all_eq_false];exact⟨q,đe HQI.o,by rw[HSV.o];simp⟩
       rw[this];rfl)
      go_wp2_with fail
      go_ret;exact⟨Zac HF.o.symm,hw3.o⟩
     | true =>
      have HA3:Hid (∀ b∈qs.take (i+1),Zp1 b 40 8=true):=ħ (by
       intro b hb;rw[đv,HQI.o] at hb;rcases đt.1 hb with hb | hb
       ·exact ha.o b hb
       ·simp only[Option.toList_some,List.mem_singleton] at hb;rw[hb];exact HSV.o)
      go_wp2_with fail
      go_roundw
      case rel=>exact⟨i+1,by go_num,by omega,HA3,hw3,hx3⟩
      case measure=>simp only[intOf];omega
    ·have ii:¬ (i:Int)<nq:=by omega
     obtain rfl:nq=i:=by omega
     have HV:Hid (V=ms.all Zuv):=ħ (by
      rw[HV.o]
      have:qs.all (fun q=>Zp1 q 40 8)=true:=by
       rw[List.all_eq_true];intro q hq;exact ha.o q (by rw[<- HQE.o,List.take_length];exact hq)
      rw[this,đk])
     clear ha
     go_wp2_with fail
     clear c0
     go_loopw [4] (fun cc wr=>∃ (j:Nat),cc = .int .i64 j/\j<=nm/\Hid (∀ m∈ms.take j,Zuv m=true)/\Hid (Below w.heap.size w wr)/\Hid (Zae wr w.heap.size 26 [.slice qo nq qc,.slice mo nm mc,.slice uo nu uc])) (fun c _=>(nm-intOf c).toNat)
     case atStart=>exact⟨0,rfl,by omega,ħ (by simp),hw,hx⟩
     case round =>
      clear hw hx;obtain⟨j,rfl,hj,ha,hw,hx⟩:=hrel;have c1:=hx.o.cell 1 _ rfl;by_cases hlt:j<nm
      ·have e2:IntKind.i64.wrap ((j:Int)+1)=((j+1:Nat):Int):=đh _ (by omega)
       have ii:(j:Int)<nm:=by omega
       obtain⟨m,hm⟩:∃ m,ms[j]?=some m:=⟨_,đb (by rw[HME.o];exact hlt)⟩;obtain⟨g,off,vs,hao,hgl,hpc,hrd⟩:=(HMW.o wr hw.o).at j m hm;obtain⟨bo,bc,ta,tc,rfl,-,-⟩:=hpc;have s0:=hrd 0 _ rfl;have s1:=hrd 1 _ rfl;rw[Nat.add_zero] at s0;have hlm:=HLM.o m (đe hm);have HMI:=ħ hm;clear hm hrd hgl;subst hao;obtain⟨nb,hnb⟩:∃ v,m.b.length=v:=⟨_,rfl⟩;obtain⟨nt,hnt⟩:∃ v,m.t.length=v:=⟨_,rfl⟩;rw[hnb] at s0 hlm;rw[hnt] at s1 hlm;have HFM:Hid (Zuv m=(decide (nb<=8)&&decide (nt<=18))):=ħ (by unfold Zuv;rw[hnb,hnt])
       have HFF:Hid (Zuv m=false->V=false):=ħ (fun hf=>by
        rw[HV.o,List.all_eq_false]
        exact⟨m,đe HMI.o,by rw[hf];simp⟩)
       clear hnb hnt;by_cases h8:8<nb
       ·have h8i:(8:Int)<nb:=by omega
        have HF:Hid (V=false):=ħ (HFF.o (by rw[HFM.o,decide_eq_false (by omega),đq]))
        go_wp2_with fail
        go_ret;exact⟨Zac HF.o.symm,hw.o⟩
       ·have h8i:¬ (8:Int)<nb:=by omega
        by_cases h18:18<nt
        ·have h18i:(18:Int)<nt:=by omega
         have HF:Hid (V=false):=ħ (HFF.o (by rw[HFM.o,decide_eq_false (show ¬ nt<=18 by omega),Bool.and_false]))
         go_wp2_with fail
         go_ret;exact⟨Zac HF.o.symm,hw.o⟩
        ·have h18i:¬ (18:Int)<nt:=by omega
         have HT:Hid (∀ b∈ms.take (j+1),Zuv b=true):=ħ (by
          intro b hb;rw[đv,HMI.o] at hb;rcases đt.1 hb with hb | hb
          ·exact ha.o b hb
          ·simp only[Option.toList_some,List.mem_singleton] at hb
           rw[hb,HFM.o,decide_eq_true (by omega),decide_eq_true (by omega)];rfl)
         clear ha
         go_wp2_with fail
         go_roundw
         case rel=>exact⟨j+1,by go_num,by omega,HT,hw,hx⟩
         case measure=>simp only[intOf];omega
      ·have ii:¬ (j:Int)<nm:=by omega
       have HF:Hid (V=true):=ħ (by
        rw[HV.o,List.all_eq_true];intro m hm
        exact ha.o m (by rw[List.take_of_length_le (by rw[HME.o];omega)];exact hm))
       go_wp2_with fail
       go_ret;exact⟨Zac HF.o.symm,hw.o⟩
end
section
open Go.RowKit Go.Sort Go.Maps
mutual
theorem Zj9{Q:List Nat->Prop}:∀ p:Prd,Zay p=true->((∀ y∈Z22 p,y≠[]->Q y)↔∀ k∈Zdy p,(k.l≠[]->Q k.l)/\(k.r≠[]->Q k.r))
 | .mk k l r c ks,h=>by
  unfold Z22 Zdy;unfold Zay at h;by_cases hk:k=0
  ·rw[if_pos hk] at h ⊢
   simp only[đi,List.isEmpty_iff] at h;obtain⟨⟨⟨h1,-⟩,-⟩,-⟩:=h;subst h1
   have e1:Zwj []=[]:=by rw[Zwj]
   have e2:Zcc []=[]:=by rw[Zcc]
   rw[e1,e2];simp
  ·rw[if_neg hk] at h ⊢
   simp only[đi,beq_iff_eq] at h;obtain⟨⟨⟨-,h1⟩,h2⟩,h3⟩:=h;subst h1 h2;rw[List.nil_append,<- Zka ks h3];constructor
   ·intro h y hy
    exact h y (List.mem_cons_of_mem _ (List.mem_cons_of_mem _ hy))
   ·intro h y hy hne
    rcases List.mem_cons.1 hy with e | hy
    ·exact absurd e hne
    rcases List.mem_cons.1 hy with e | hy
    ·exact absurd e hne
    exact h y hy hne
theorem Zka{Q:List Nat->Prop}:∀ ks:List Prd,Zim ks=true->((∀ y∈Zwj ks,y≠[]->Q y)↔∀ k∈Zcc ks,(k.l≠[]->Q k.l)/\(k.r≠[]->Q k.r))
 | [],h=>by
  have e1:Zwj []=[]:=by rw[Zwj]
  have e2:Zcc []=[]:=by rw[Zcc]
  rw[e1,e2];simp
 | q::qs,h=>by
  unfold Zim at h;rw[đi] at h;unfold Zwj Zcc;have h1:=Zj9 (Q:=Q) q h.1;have h2:=Zka (Q:=Q) qs h.2;constructor
  ·intro h k hk
   rcases đt.1 hk with hk | hk
   ·exact h1.1 (fun y hy=>h y (List.mem_append_left _ hy)) k hk
   ·exact h2.1 (fun y hy=>h y (List.mem_append_right _ hy)) k hk
  ·intro h y hy
   rcases đt.1 hy with hy | hy
   ·exact h1.2 (fun k hk=>h k (List.mem_append_left _ hk)) y hy
   ·exact h2.2 (fun k hk=>h k (List.mem_append_right _ hk)) y hy
end
theorem Zx5(l:List Bnd):(rvP l []).2=true:=by
 unfold rvP;split<;>rfl
theorem Z03{p:Prd}{l:List Bnd}(hp:Zay p=true)(hv:vbP l=true):(Zcr [] p).all (fun x=>(rvP l x).2)=(Zc7 p).all (bdV (Zfh l)):=by
 have hB:∀ x,(rvP l x).2=(Zf7 (Zfh l) x).isSome:=fun x=>by rw[Zrv l x hv]
 rw[Bool.eq_iff_iff,List.all_eq_true,List.all_eq_true]
 have h1:(∀ x∈Zcr [] p,(rvP l x).2=true)↔∀ y∈Z22 p,y≠[]->(rvP l y).2=true:=by
  constructor
  ·intro h y hy hne
   exact h y ((Zjw hne p []).2 (.inr hy))
  ·intro h x hx
   by_cases e:x=[]
   ·subst e;exact Zx5 l
   ·rcases (Zjw e p []).1 hx with h2 | h2
    ·cases h2
    ·exact h x h2 e
 rw[h1,Zj9 p hp]
 have h2:∀ k:Ky,k∈Zc7 p↔k∈Zdy p:=fun k=>by
  unfold Zc7;rw[Zi7];simp
 have h3:∀ x,(x≠[]->(rvP l x).2=true)↔(Zf7 (Zfh l) x).isSome=true:=fun x=>by
  rw[<- hB];by_cases e:x=[]
  ·subst e
   exact⟨fun _=>Zx5 l,fun _ h=>absurd rfl h⟩
  ·exact⟨fun h=>h e,fun h _=>h⟩
 constructor
 ·intro h k hk
  obtain⟨a,b⟩:=h k ((h2 k).1 hk);unfold bdV;rw[đi];exact⟨(h3 _).1 a,(h3 _).1 b⟩
 ·intro h k hk
  have:=h k ((h2 k).2 hk);unfold bdV at this;rw[đi] at this;exact⟨(h3 _).2 this.1,(h3 _).2 this.2⟩
theorem Z04{p:Prd}{l:List Bnd}(hv:vbP l=true):Zbs (fR l) p=Zbs (fV (Zfh l)) p:=by
 rw[show fR l=fV (Zfh l) from funext (fun k=>Z4g hv k)]
theorem Zt4(p:Prd)(w:World)(P Pb:Nat->Prop)(vs:List Value)(l:List Bnd)(bo:Option Addr)(m bc:Nat)(hp:Zba p=true)(hlen:Zp0 p)(h:Zao w P p vs)(hm:m=l.length)(hmb:m<=1000000)(hv:vbP l=true)(hk:Zoq w Pb l bo) :
  Calls Tryz.prog 166 #[.agg vs.toArray,.slice bo m bc] w fun e w'=>e = .returned (.tuple #[.bool (Ze8 p l).1,.int .i64 (Ze8 p l).2])/\Below w.heap.size w w':=by
 have hsm:=Zzs hp;have hby:=Zm5 p (Zho hp);have hok:=Z3i hv;have HVP:=ħ (fun W (hW:Below w.heap.size w W)=>Ztg p W P vs (by omega) hby hlen (h.below hW));have HVB:=ħ (fun W (hW:Below w.heap.size w W)=>Zp7 W Pb l bo m bc hm hmb hok (hk.below hW));have HJO:=ħ (fun W (hW:Below w.heap.size w W)=>Zo1 (Zb0 p) p W P vs [] none 0 0 (đd _) hby (h.below hW) rfl (by omega) (.inl rfl) (fun x hx=>by cases hx));have hlj:=Zez p [];have HBJ:=ħ (BtS.join p [] hby (fun x hx=>by cases hx));have HBO:=ħ (fun W lo k lc (hW:Below w.heap.size w W) (hk2:k=(Zcr [] p).length) (hL:Zey W lo (Zcr [] p))=>Ztk W Pb (Zcr [] p) lo k lc l bo m bc hk2 (by rw[hk2];simp at hlj;omega) hL HBJ.o hm hmb hok (hk.below hW));have HTR:=ħ (fun W (hW:Below w.heap.size w W)=>Zl5 (Zb0 p) p W P Pb vs l bo m bc (đd _) (by omega) hby (h.below hW) hm hmb hok hv (hk.below hW))
 have HE:Hid (Ze8 p l=if (Zc7 p).all (bdV (Zfh l))=false then(false,4) else(Zbs (fV (Zfh l)) p,0)):=ħ (by
  unfold Ze8;rw[hp,hv]
  simp)
 rw[hp] at HVP;rw[hv] at HVB;rw[Z03 (Zho hp) hv] at HBO;rw[Z04 hv] at HTR;unfold Zyz at HJO;obtain⟨RR,hRR⟩:∃ r,Ze8 p l=r:=⟨_,rfl⟩;rw[hRR] at HE ⊢;obtain⟨xa,xn,xc,rfl,-⟩:=h.form;have B1:=ħ ((đc w.heap.size w).alloc (đd _) (.cells #[.int .i64 p.k,.string (Zad p.l),.string (Zad p.r),.int .i64 p.c,.slice xa xn xc] 54));have X1:Hid (Zae (w.alloc (.cells #[.int .i64 p.k,.string (Zad p.l),.string (Zad p.r),.int .i64 p.c,.slice xa xn xc] 54)) w.heap.size 54 [.int .i64 p.k,.string (Zad p.l),.string (Zad p.r),.int .i64 p.c,.slice xa xn xc]):=ħ (heap_alloc_new w _);clear hsm hby hok hlen h hm hv hk hp hlj HBJ hRR;generalize (Zc7 p).all (bdV (Zfh l))=bd at *;generalize Zbs (fV (Zfh l)) p=tr at *;generalize Zcr [] p=L at *;generalize p.k=q0 at *;generalize Zad p.l=q1 at *;generalize Zad p.r=q2 at *;generalize p.c=q3 at *
 go_enter Tryz.func166,Tryz.ntmps166
 go_upto_region 1 with(fail)
 generalize w.alloc (.cells #[.int .i64 q0,.string q1,.string q2,.int .i64 q3,.slice xa xn xc] 54)=w1 at *
 go_wp2_with (refine wpList_load_row rfl 54 (.tmp 2) rfl w.heap.size ?a1 54 #[.int .i64 q0,.string q1,.string q2,.int .i64 q3,.slice xa xn xc] (0,0) _ X1.o Tryz.underlying54 rfl (Za4 _ rfl) ?_;(case a1=>rfl))
 refine(HVP.o w1 B1.o).mono ?_;rintro e w2 ⟨rfl,b2⟩;have B2:=ħ (B1.o.trans (b2.mono B1.o.size));have X2:=ħ (X1.o.step b2);clear b2 X1 B1
 go_wp2_with fail
 refine(HVB.o w2 B2.o).mono ?_;rintro e w3 ⟨rfl,b3⟩;have B3:=ħ (B2.o.trans (b3.mono B2.o.size));have X3:=ħ (X2.o.step b3);clear b3 X2 B2
 go_upto_region 3 with(fail)
 go_wp2_with (refine wpList_load_row rfl 54 (.tmp 2) rfl w.heap.size ?a3 54 #[.int .i64 q0,.string q1,.string q2,.int .i64 q3,.slice xa xn xc] (0,0) _ X3.o Tryz.underlying54 rfl (Za4 _ rfl) ?_;(case a3=>rfl))
 refine(HJO.o w3 B3.o).mono ?_;intro e w4 hq;obtain⟨⟨o4,c4,rfl,hs4⟩,b4⟩:=hq;have B4:=ħ (B3.o.trans (b4.mono B3.o.size));have X4:=ħ (X3.o.step b4);have S4:=ħ hs4;obtain⟨k4,hk4⟩:∃ x,L.length=x:=⟨_,rfl⟩;have HK4:=ħ hk4.symm;rw[hk4];clear b4 hs4 X3 B3 hk4
 go_wp2_with fail
 refine(HBO.o w4 o4 k4 c4 B4.o HK4.o S4.o).mono ?_;rintro e w5 ⟨rfl,rfl⟩
 cases bd with
 | false =>
  have HE2:Hid (RR=(false,4)):=ħ (by rw[HE.o,if_pos rfl])
  go_wp2_with fail
  go_ret2
  exact⟨by rw[HE2.o];rfl,B4.o⟩
 | true =>
  have HE2:Hid (RR=(tr,0)):=ħ (by rw[HE.o,if_neg (by decide)])
  go_upto_region 5 with(fail)
  go_wp2_with (refine wpList_load_row rfl 54 (.tmp 2) rfl w.heap.size ?a5 54 #[.int .i64 q0,.string q1,.string q2,.int .i64 q3,.slice xa xn xc] (0,0) _ X4.o Tryz.underlying54 rfl (Za4 _ rfl) ?_;(case a5=>rfl))
  refine(HTR.o w4 B4.o).mono ?_;rintro e w6 ⟨rfl,b6⟩;have B6:=ħ (B4.o.trans (b6.mono B4.o.size));clear b6
  go_wp2_with fail
  go_ret2
  exact⟨by rw[HE2.o];rfl,B6.o⟩
end
end Go.Proofs.YtbcgocpihobjnaaGreatDoor
