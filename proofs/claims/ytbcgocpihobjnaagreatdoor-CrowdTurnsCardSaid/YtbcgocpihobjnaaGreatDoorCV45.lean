import Derived.Test.YtbcgocpihobjnaaGreatDoorCV44
set_option linter.all false
set_option maxHeartbeats 16000000
set_option maxRecDepth 100000
namespace Go.Proofs.YtbcgocpihobjnaaGreatDoor
open Go.RowKit Go.Sort Go.Maps
def Z1g (w w':World) (c:Crw) (e:Ending):Prop:=(∃ o cap,e = .returned (.slice o (Zbb c).length cap)∧Zer w' (Zbb c) o∧(Zbb c).length≤cap)∧Below w.heap.size w w'
theorem Zwm (w:World) (c:Crw) (cs:List Value) (B:Nat) (ha:ArgC w c cs B) :
  Calls Tryz.prog 24 #[.agg cs.toArray] w fun e w'=>Z1g w w' c e:=by
 have HOP:=ħ (fun W (hW:Below w.heap.size w W)=>Zdl W c cs (ha.below hW).crw B (ha.below hW).tab ha.ok);have HNU:=ha.nu;have HRK:=ħ (fun (h:Zam c=true)=>Zan h (by omega));have HVP:=ħ (fun (h:Zam c=true)=>Zar h);have HAC:=ħ ha;have hnq0:=ha.ok.nq;have hnm0:=ha.ok.nm;have HPA:Hid (Zbb c=if Zam c=true then (List.range c.us.length).map (fun u=>(Ze3 c (Zay c) u).map Int.ofNat) else []):=ħ rfl;have HFIN:Hid (∀ w' o cap,Below w.heap.size w w'→Zer w' (Zbb c) o→(Zbb c).length≤cap→Z1g w w' c (.returned (.slice o (Zbb c).length cap))):=ħ (fun w' o cap hb h h2=>⟨⟨o,cap,rfl,h,h2⟩,hb⟩);generalize Zbb c=PA at *;obtain⟨qo,qc,mo,mc,uo,uc,rfl,hq0,hm0,hu0,-⟩:=ha.crw;have HMW:=ħ (fun W (hW:Below w.heap.size w W)=>hm0.below hW);have HUW:=ħ (fun W (hW:Below w.heap.size w W)=>hu0.below hW);unfold Zyj at HOP;clear ha hq0 hm0 hu0;generalize hnq:c.qs.length=nq at *;generalize hnm:c.ms.length=nm at *;generalize hnu:c.us.length=nu at *;have HQE:=ħ hnq;have HME:=ħ hnm;have HUE:=ħ hnu;clear hnq hnm hnu;generalize hvc:Zam c=vc at *;have HVC:=ħ hvc;clear hvc;have X1:Hid (Zaf (w.alloc (.cells #[.slice qo nq qc,.slice mo nm mc,.slice uo nu uc] 26)) w.heap.size 26 [.slice qo nq qc,.slice mo nm mc,.slice uo nu uc]):=ħ (heap_alloc_new w _);have B1:=ħ ((Below.refl w.heap.size w).alloc (Nat.le_refl _) (.cells #[.slice qo nq qc,.slice mo nm mc,.slice uo nu uc] 26))
 go_enter Tryz.func24,Tryz.ntmps24
 go_upto_region 1 with (fail)
 generalize w.alloc (.cells #[.slice qo nq qc,.slice mo nm mc,.slice uo nu uc] 26)=w1 at *;have c0:=X1.o.cell 0 _ rfl;have c1:=X1.o.cell 1 _ rfl;have c2:=X1.o.cell 2 _ rfl;have HCL:=ħ (HOP.o w1 B1.o);clear HOP
 go_wp2_with fail
 refine HCL.o.mono ?_;intro e w2 hq;obtain⟨hres,b2⟩:=hq;have B2:=ħ (B1.o.trans (b2.mono B1.o.size));have X2:=ħ (X1.o.step b2);have HSZ:Hid (w.heap.size<w2.heap.size):=ħ X2.o.lt;clear b2 c0 c1 c2 B1 X1 HCL
 cases vc with
 | false =>
  rw[if_neg (by decide)] at hres;subst hres;have HPN:Hid (PA=[]):=ħ (by rw[HPA.o];rfl);clear HPA
  go_wp2_with fail
  go_ret;rw[HPN.o] at HFIN;exact HFIN.o _ none 0 B2.o (.inl rfl) (Nat.le_refl _)
 | true =>
  rw[if_pos rfl] at hres;obtain⟨A,rfl,hR,-⟩:=hres;have HR:=ħ hR;have HOK:=ħ (HRK.o rfl);clear hR HRK;have HPN:Hid (PA=(List.range nu).map (fun u=>(Ze3 c (Zay c) u).map Int.ofNat)):=ħ (by rw[HPA.o,if_pos rfl]);have HPO:=ħ (fun W (hW:Below w2.heap.size w2 W) k (hk:k<nu)=>Zl0 W A c (Zal c) (Zay c) k (HR.o.below hW) HOK.o (by rw[HUE.o];exact hk));have c2:=X2.o.cell 2 _ rfl;clear HPA HR
  go_wp2_with fail
  clear c2;have HWZ:=ħ (Below.refl w2.heap.size w2);obtain⟨wz,hwz⟩:∃ y,w2=y:=⟨_,rfl⟩;rw[hwz] at HPO B2 HWZ ⊢;clear hwz HSZ X2;have R2:Hid (RowM IlE 1 wz.heap.size wz wz.heap.size (fun _=>False) none 0 0 (PA.take 0) []):=ħ (by rw[List.take_zero];exact RowM.nil _ _ _)
  go_loopw [16,2] (fun kv ov wr=>∃ (k:Nat) (o:Option Addr) (cap:Nat) (vss:List (List Value)),kv = .int .i64 k∧ov = .slice o k cap∧k≤nu∧Hid (RowM IlE 1 wz.heap.size wr wz.heap.size (fun _=>False) o k cap (PA.take k) vss)∧Hid (Below wz.heap.size wz wr)) (fun k _ _=>(nu-intOf k).toNat)
  case atStart=>exact⟨0,none,0,[],rfl,rfl,by omega,R2,HWZ⟩
  case round =>
   clear R2 HWZ;obtain⟨k,o,cap,vss,rfl,rfl,hk,R3,B3⟩:=hrel;have e2:IntKind.i64.wrap ((k:Int)+1)=((k+1:Nat):Int):=IntWalk.i64_in _ (by omega);by_cases hkn:k<nu
   ·have kk:(k:Int)<nu:=by omega
    have HPC:=ħ (HPO.o wr B3.o k hkn);have HTK:Hid (PA.take (k+1)=PA.take k++[(Ze3 c (Zay c) k).map Int.ofNat]):=ħ (by rw[List.take_add_one,HPN.o,List.getElem?_map,List.getElem?_range hkn];rfl);have HKL:Hid (∀ g,blk o=some g→g<wr.heap.size):=ħ (fun g hg=>(R3.o.own.blk_lt hg).2);generalize Ze3 c (Zay c) k=PK at *
    go_wp2_with fail
    refine HPC.o.mono ?_;rintro e w3 ⟨⟨po,pc,rfl,ho⟩,b3⟩;have E4:Hid (IlE w3 (fun g=>wr.heap.size≤g) (PK.map Int.ofNat) [.slice po PK.length pc]):=ħ (Zu4 ho _ (fun g hg=>hg));have R4:=ħ (R3.o.step IlE.keeps b3);have B4:=ħ (B3.o.trans (b3.mono B3.o.size));have HB3:=ħ B3.o.size;clear ho b3 HPC R3 B3
    go_upto_region 8 with (at_builtin;refine Zdz 36 33 (.slice none 0 0) 1 24 Tryz.underlying36 Zgg rfl (by omega) (by omega) w3 wz.heap.size rfl (.tmp 19) (.tmp 23) rfl o cap k vss.flatten ?q1 R4.o.own B4.o.size 1 1 #[.slice po PK.length pc] 33 ?q2 rfl (by omega) ?q3 ?q4 ?_;(case q1=>rfl);(case q2=>rfl);(case q3=>intro u hu;simp at hu;subst hu;rfl);(case q4=>omega);intro g5 off5 c5 wa o8 gr8 b8 or8;have R8:=ħ (RowM.add IlE.keeps R4.o HKL.o HB3.o (fun g hg=>hg.elim) E4.o rfl o8 gr8 or8);have B8:=ħ (B4.o.trans b8);clear o8 gr8 b8 or8)
    go_wp2_with fail
    go_roundw
    case rel=>exact⟨k+1,_,_,_,by go_num,rfl,by omega,ħ (by rw[HTK.o];exact R8.o),B8⟩
    case measure=>simp only[intOf];omega
   ·have kk:¬ (k:Int)<nu:=by omega
    obtain rfl:nu=k:=by omega
    have HPL:Hid (PA.length=nu):=ħ (by rw[HPN.o,List.length_map,List.length_range]);have HTK:Hid (PA.take nu=PA):=ħ (List.take_of_length_le (by rw[HPL.o];exact Nat.le_refl _))
    go_wp2_with fail
    go_ret;have key:=HFIN.o wr o cap (B2.o.trans (B3.o.mono B2.o.size)) (by have:=R3.o.rowsI;rwa [HTK.o] at this) (by rw[HPL.o];exact R3.o.own.len_le.1);rw[HPL.o] at key;exact key
theorem Z2f {w:World} {c:Crw} {qo mo uo:Option Addr} {qn mn un qc mc uc:Nat} (h:Zg2 w c [.slice qo qn qc,.slice mo mn mc,.slice uo un uc]):Zfu w c.ms mo:=by
 obtain⟨qo',qc',mo',mc',uo',uc',he,h1,h2,h3,h4⟩:=h;simp only[List.cons.injEq,Value.slice.injEq,and_true] at he;obtain⟨⟨rfl,rfl,rfl⟩,⟨rfl,rfl,rfl⟩,rfl,rfl,rfl⟩:=he;exact h2
theorem Zsl (w:World) (c:Crw) (cs:List Value) (B:Nat) (ha:ArgC w c cs B) :
  Calls Tryz.prog 24 #[.agg cs.toArray] w fun e w'=>Below w.heap.size w w'∧∃ o cap,e = .returned (.slice o (Zbb c).length cap)∧Zer w' (Zbb c) o∧(Zbb c).length≤cap:=by
 refine (Zwm w c cs B ha).mono ?_;intro e w' h;unfold Z1g at h;obtain⟨h1,hb⟩:=h;exact⟨hb,h1⟩
end Go.Proofs.YtbcgocpihobjnaaGreatDoor
