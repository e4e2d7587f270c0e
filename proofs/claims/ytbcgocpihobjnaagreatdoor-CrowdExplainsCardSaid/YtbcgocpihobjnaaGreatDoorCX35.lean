import Derived.Test.YtbcgocpihobjnaaGreatDoorCX34
set_option linter.all false
set_option maxHeartbeats 16000000
set_option maxRecDepth 100000
namespace Go.Proofs.YtbcgocpihobjnaaGreatDoor
section
open Go.RowKit Go.Sort Go.Maps
def Zoh (l:List Int):Int:=if l.length=1 then l.getD 0 0 else -1
def Zpu (c:Crw):List Int:=(Zc7 c).map Zoh
def Zzf (w w':World) (l:List Int) (e:Ending):Prop:=(∃ o cap,e = .returned (.slice o l.length cap)∧OwnK w' w.heap.size 1 l.length cap (l.flatMap Zbd) o)∧Below w.heap.size w w'
theorem Ztv (w:World) (c:Crw) (cs:List Value) (B:Nat) (ha:ArgC w c cs B) :
  Calls Tryz.prog 62 #[.agg cs.toArray] w fun e w'=>Zzf w w' (Zpu c) e:=by
 have HSE:=ħ (fun W (hW:Below w.heap.size w W)=>Zpt W c cs B (ha.below hW))
 have HSL:Hid ((Zc7 c).length≤999):=ħ (by
  unfold Zc7;split
  ·rw[List.length_map,List.length_range];exact ha.nu
  ·exact Nat.zero_le _)
 have HRL:Hid (∀ l∈Zc7 c,l.length≤1000000):=ħ (fun l hl=>by
  unfold Zc7 at hl
  split at hl
  ·obtain⟨u,-,rfl⟩:=List.mem_map.1 hl
   rw[Zle];have h1:=Zbn (Zly c (Zbb c) u) c.ms.length;have:=ha.ok.nm;unfold Zht;omega
  ·cases hl)
 unfold Zw0 at HSE;have HNF:Hid (Zpu c=(Zc7 c).map Zoh):=ħ rfl;obtain⟨qo,qc,mo,mc,uo,uc,rfl⟩:=ha.form;clear ha;generalize Zpu c=NF at *;generalize Zc7 c=SF at *;have X1:Hid (Zaf (w.alloc (.cells #[.slice qo c.qs.length qc,.slice mo c.ms.length mc,.slice uo c.us.length uc] 26)) w.heap.size 26 [.slice qo c.qs.length qc,.slice mo c.ms.length mc,.slice uo c.us.length uc]):=ħ (heap_alloc_new w _);have B1:=ħ ((Below.refl w.heap.size w).alloc (Nat.le_refl _) (.cells #[.slice qo c.qs.length qc,.slice mo c.ms.length mc,.slice uo c.us.length uc] 26));generalize c.qs.length=nq at *;generalize c.ms.length=nm at *;generalize c.us.length=nu at *;have HFIN:Hid (∀ w' o cap n,NF.length=n→Below w.heap.size w w'→OwnK w' w.heap.size 1 n cap (NF.flatMap Zbd) o→Zzf w w' NF (.returned (.slice o n cap))):=ħ (fun w' o cap n hn hb h=>by subst hn;exact⟨⟨o,cap,rfl,h⟩,hb⟩);generalize hsl:SF.length=ns at *;have HSN:=ħ hsl;clear hsl
 go_enter Tryz.func62,Tryz.ntmps62
 go_upto_region 1 with (fail)
 generalize w.alloc (.cells #[.slice qo nq qc,.slice mo nm mc,.slice uo nu uc] 26)=w1 at *;have c0:=X1.o.cell 0 _ rfl;have c1:=X1.o.cell 1 _ rfl;have c2:=X1.o.cell 2 _ rfl;have HCL:=ħ (HSE.o w1 B1.o);clear HSE
 go_wp2_with fail
 refine HCL.o.mono ?_;rintro e w2 ⟨⟨so,sc,rfl,hs⟩,b2⟩;have B2:=ħ (B1.o.trans (b2.mono B1.o.size));have HSW:=ħ (fun W (hW:Below w2.heap.size w2 W)=>hs.below hW);have HLN:=HSL.o;clear b2 c0 c1 c2 B1 X1 HCL hs
 go_wp2_with fail
 go_loopw [8,2] (fun kv ov wr=>∃ (k:Nat) (o:Option Addr) (cap:Nat),kv = .int .i64 k∧ov = .slice o k cap∧k≤ns∧Hid (OwnK wr w2.heap.size 1 k cap ((NF.take k).flatMap Zbd) o)∧Hid (Below w2.heap.size w2 wr)) (fun k _ _=>(ns-intOf k).toNat)
 case atStart=>exact⟨0,none,0,rfl,rfl,by omega,ħ (.nil rfl rfl rfl),ħ (Below.refl _ _)⟩
 case round =>
  obtain⟨k,o,cap,rfl,rfl,hk,O3,B3⟩:=hrel;have e2:IntKind.i64.wrap ((k:Int)+1)=((k+1:Nat):Int):=IntWalk.i64_in _ (by omega);by_cases hkn:k<ns
  ·have kk:(k:Int)<ns:=by omega
   obtain⟨row,hrow⟩:∃ y,SF[k]?=some y:=⟨_,List.getElem?_eq_getElem (by rw[HSN.o];exact hkn)⟩;obtain⟨g,off,bo,bc,hso,hg,hcell,hfl⟩:=(HSW.o wr B3.o).at k row hrow;have HTK:Hid (NF.take (k+1)=NF.take k++[Zoh row]):=ħ (by rw[List.take_add_one,HNF.o,List.getElem?_map,hrow];rfl);have hrl:=HRL.o row (List.mem_of_getElem? hrow);subst hso;by_cases h1:row.length=1
   ·have HON:Hid ([Zoh row].flatMap Zbd=[.int .i64 (row.getD 0 0)]):=ħ (by unfold Zoh;rw[if_pos h1];rfl)
    obtain⟨g2,off2,hbo,hg2,hrd⟩:∃ g off,bo=some ⟨g,off,none⟩∧g<wr.heap.size∧Zas wr g off (row.flatMap Zbd):=by
     rcases hfl with h | h
     ·rw[h] at h1;simp at h1
     ·exact h
    subst hbo
    have hr0:wr.cell? ⟨g2,off2,none⟩=some (.int .i64 (row.getD 0 0)):=by
     have:=hrd 0 (.int .i64 (row.getD 0 0)) (by
      obtain⟨x,hx⟩:=List.length_eq_one_iff.1 h1
      rw[hx];rfl)
     rwa [Nat.add_zero] at this
    rw[h1] at hcell;generalize row.getD 0 0=x0 at *;clear hrow hfl h1 hrd hrl;have ee:(1:Int)=1:=rfl
    go_upto_region 7 with (at_builtin;refine Zdm 33 3 (.int .i64 0) 1 8 Tryz.underlying33 Zbl rfl (by omega) (by omega) wr w2.heap.size rfl (.tmp 15) (.tmp 19) rfl o cap k ((NF.take k).flatMap Zbd) ?q1 O3.o B3.o.size 1 1 #[.int .i64 x0] 3 ?q2 rfl (by omega) ?q3 ?q4 ?_;(case q1=>rfl);(case q2=>rfl);(case q3=>simp[Value.oneCell']);(case q4=>omega);intro g5 off5 c5 wa o8 gr8 b8 or8;have O8:=ħ o8;have B8:=ħ (B3.o.trans b8);clear o8 gr8 b8 or8)
    go_wp2_with fail
    go_roundw
    case rel=>exact⟨k+1,_,_,by go_num,rfl,by omega,ħ (by rw[HTK.o,List.flatMap_append,HON.o];exact O8.o),B8⟩
    case measure=>simp only[intOf];omega
   ·have HON:Hid ([Zoh row].flatMap Zbd=[.int .i64 (-1)]):=ħ (by unfold Zoh;rw[if_neg h1];rfl)
    have ne:¬ ((row.length:Nat):Int)=1:=by omega
    generalize row.length=rl at *;clear hrow hfl
    go_upto_region 7 with (at_builtin;refine Zdm 33 3 (.int .i64 0) 1 8 Tryz.underlying33 Zbl rfl (by omega) (by omega) wr w2.heap.size rfl (.tmp 21) (.tmp 22) rfl o cap k ((NF.take k).flatMap Zbd) ?q1 O3.o B3.o.size 1 1 #[.int .i64 (-1)] 3 ?q2 rfl (by omega) ?q3 ?q4 ?_;(case q1=>rfl);(case q2=>rfl);(case q3=>simp[Value.oneCell']);(case q4=>omega);intro g5 off5 c5 wa o8 gr8 b8 or8;have O8:=ħ o8;have B8:=ħ (B3.o.trans b8);clear o8 gr8 b8 or8)
    go_wp2_with fail
    go_roundw
    case rel=>exact⟨k+1,_,_,by go_num,rfl,by omega,ħ (by rw[HTK.o,List.flatMap_append,HON.o];exact O8.o),B8⟩
    case measure=>simp only[intOf];omega
  ·have kk:¬ (k:Int)<ns:=by omega
   obtain rfl:ns=k:=by omega
   have HNL:Hid (NF.length=ns):=ħ (by rw[HNF.o,List.length_map,HSN.o]);have HTK:Hid (NF.take ns=NF):=ħ (List.take_of_length_le (by rw[HNL.o];exact Nat.le_refl _))
   go_wp2_with fail
   go_ret;have ho:=O3.o.low (B':=w.heap.size) B2.o.size;rw[HTK.o] at ho;exact HFIN.o wr o cap ns HNL.o (B2.o.trans (B3.o.mono B2.o.size)) ho
end
section
open Go.RowKit Go.Sort Go.Maps
theorem Zda {c:Crw}:(Zaj c).length=c.qs.length:=by unfold Zaj;rw[List.length_map]
theorem Zd7 {c:Crw}:∀ r∈Zaj c,r.length=c.ms.length:=fun r hr=>by
 unfold Zaj at hr;obtain⟨p,-,rfl⟩:=List.mem_map.1 hr;rw[List.length_map]
theorem Zdb (w:World) (t t':TypeId) (a b:List Value):Zaf ((w.alloc (.cells a.toArray t)).alloc (.cells b.toArray t')) w.heap.size t a∧Zaf ((w.alloc (.cells a.toArray t)).alloc (.cells b.toArray t')) (w.heap.size+1) t' b∧Below w.heap.size w ((w.alloc (.cells a.toArray t)).alloc (.cells b.toArray t')) :=
 ⟨(Zaf.new w t a).step ((Below.refl _ _).alloc (Nat.le_refl _) _),Zaf.newAt _ _ _ _ (by rw[World.size_alloc]),((Below.refl _ _).alloc (Nat.le_refl _) _).alloc (by rw[World.size_alloc];omega) _⟩
def Zw1 (c:Crw):Nat→List Int→List (List Bool)→Option (List (List Bool))
 | _,[],C=>some C
 | i,m::l,C=>if inB m (-1) ((c.ms.length:Int)-1)=true then Zw1 c (i+1) l (if m = -1 then C else Zc1 c C i m.toNat) else none
def Zzg (c:Crw) (l:List Int):Option (List (List Bool)):=if (Zam c&&decide (l.length=c.us.length))=true then Zw1 c 0 l (Zbb c) else none
def Z0e (w w':World) (c:Crw) (l:List Int) (e:Ending):Prop:=Below w.heap.size w w'∧match Zzg c l with
 | none=>e = .returned (.tuple #[.slice none 0 0,.bool false])
 | some C=>if Zed (Zbg c C)=true then ∃ o cap,e = .returned (.tuple #[.slice o (Zb3 c c.us.length 0 C []).length cap,.bool true])∧OwnK w' w.heap.size 1 (Zb3 c c.us.length 0 C []).length cap (Za3 (Zb3 c c.us.length 0 C [])) o
  else e = .returned (.tuple #[.slice none 0 0,.bool false])
theorem Zzh (w:World) (c:Crw) (cs:List Value) (B:Nat) (l:List Int) (lo:Option Addr) (lc:Nat) (ha:ArgC w c cs B) (hl:Zak Zbd w lo l) :
  Calls Tryz.prog 23 #[.agg cs.toArray,.slice lo l.length lc] w fun e w'=>Z0e w w' c l e:=by
 have HOP:=ħ (fun W (hW:Below w.heap.size w W)=>Zd6 W c cs (ha.below hW).crw B (ha.below hW).tab ha.ok);have HNU:=ha.nu;have HRK:=ħ (fun (h:Zam c=true)=>Zar h (by omega));have HVP:=ħ (fun (h:Zam c=true)=>Zao h);have HAC:=ħ ha;have hnq0:=ha.ok.nq;have hnm0:=ha.ok.nm;have HPA:Hid (Zzg c l=if (Zam c&&decide (l.length=c.us.length))=true then Zw1 c 0 l (Zbb c) else none):=ħ rfl;have HNO:Hid (∀ w' e,Zzg c l=none→Below w.heap.size w w'→e = .returned (.tuple #[.slice none 0 0,.bool false])→Z0e w w' c l e):=ħ (fun w' e h hb he=>by unfold Z0e;rw[h];exact⟨hb,he⟩)
 have HYE:Hid (∀ w2 w' e C,Zzg c l=some C→Below w.heap.size w w2→Zkg w2 c C e w'→Z0e w w' c l e):=ħ (fun w2 w' e C h hb he=>by
  obtain⟨h1,h2⟩:=he;refine⟨hb.trans (h1.mono hb.size),?_⟩;rw[h]
  show if _ then _ else _
  by_cases hf:Zed (Zbg c C)=true
  ·rw[if_pos hf] at h2 ⊢
   obtain⟨o,cap,h3,h4⟩:=h2;exact⟨o,cap,h3,h4.low hb.size⟩
  ·rw[if_neg hf] at h2 ⊢
   exact h2)
 have HFT:Hid (∀ e w2 w' C,Zkg w2 c C e w'→(∃ a b,e = .returned (.tuple #[a,b])) ):=ħ (fun e w2 w' C he=>by
  obtain⟨h1,h2⟩:=he;by_cases hf:Zed (Zbg c C)=true
  ·rw[if_pos hf] at h2
   obtain⟨o,cap,h3,h4⟩:=h2;exact⟨_,_,h3⟩
  ·rw[if_neg hf] at h2
   exact⟨_,_,h2⟩)
 have HLW:=ħ (fun W (hW:Below w.heap.size w W)=>hl.below hW);clear hl;generalize Zzg c l=PA at *;generalize hll:l.length=nl at *;have HLL:=ħ hll;clear hll;obtain⟨qo,qc,mo,mc,uo,uc,rfl,hq0,hm0,hu0,-⟩:=ha.crw;have HMW:=ħ (fun W (hW:Below w.heap.size w W)=>hm0.below hW);have HUW:=ħ (fun W (hW:Below w.heap.size w W)=>hu0.below hW);unfold Zx7 at HOP;clear ha hq0 hm0 hu0;generalize hnq:c.qs.length=nq at *;generalize hnm:c.ms.length=nm at *;generalize hnu:c.us.length=nu at *;have HQE:=ħ hnq;have HME:=ħ hnm;have HUE:=ħ hnu;clear hnq hnm hnu;generalize hvc:Zam c=vc at *;have HVC:=ħ hvc;clear hvc;have X1:Hid (Zaf (w.alloc (.cells #[.slice qo nq qc,.slice mo nm mc,.slice uo nu uc] 26)) w.heap.size 26 [.slice qo nq qc,.slice mo nm mc,.slice uo nu uc]):=ħ (heap_alloc_new w _);have B1:=ħ ((Below.refl w.heap.size w).alloc (Nat.le_refl _) (.cells #[.slice qo nq qc,.slice mo nm mc,.slice uo nu uc] 26))
 go_enter Tryz.func23,Tryz.ntmps23
 go_upto_region 1 with (fail)
 generalize w.alloc (.cells #[.slice qo nq qc,.slice mo nm mc,.slice uo nu uc] 26)=w1 at *;have c0:=X1.o.cell 0 _ rfl;have c1:=X1.o.cell 1 _ rfl;have c2:=X1.o.cell 2 _ rfl;have HCL:=ħ (HOP.o w1 B1.o);clear HOP
 go_wp2_with fail
 refine HCL.o.mono ?_;intro e w2 hq;obtain⟨hres,b2⟩:=hq;have B2:=ħ (B1.o.trans (b2.mono B1.o.size));have X2:=ħ (X1.o.step b2);have HSZ:Hid (w.heap.size<w2.heap.size):=ħ X2.o.lt;clear b2 c0 c1 c2 B1 X1 HCL
 cases vc with
 | false =>
  rw[if_neg (by decide)] at hres;subst hres;have HPN:Hid (PA=none):=ħ (by rw[HPA.o];rfl);clear HPA
  go_wp2_with fail
  go_ret2
  exact HNO.o _ _ HPN.o B2.o rfl
 | true =>
  rw[if_pos rfl] at hres;obtain⟨A,rfl,hR,-⟩:=hres;have HR:=ħ hR;have HOK:=ħ (HRK.o rfl);clear hR HRK;have c2:=X2.o.cell 2 _ rfl;by_cases hlu:nl=nu
  ·subst hlu
   have HPN:Hid (PA=Zw1 c 0 l (Zbb c)):=ħ (by rw[HPA.o,decide_eq_true rfl];rfl);clear HPA
   go_wp2_with fail
   clear c2;have HWZ:=ħ (Below.refl w2.heap.size w2);have HD0:Hid (Zw1 c 0 (l.drop 0) (Zbb c)=PA):=ħ (by rw[List.drop_zero,HPN.o])
   go_loopw [27,6] (fun kv rv wr=>∃ (k X:Nat) (C:List (List Bool)),kv = .int .i64 k∧rv = .pointer (some ⟨X,0,none⟩)∧k≤nl∧Hid (Zw1 c k (l.drop k) C=PA)∧Hid (Za9 wr X c (Zaj c) C)∧Hid (ReckOk c C)∧Hid (Zaf wr w.heap.size 26 [.slice qo nq qc,.slice mo nm mc,.slice uo nl uc])∧Hid (Below w.heap.size w wr)) (fun k _ _=>(nl-intOf k).toNat)
   case atStart=>exact⟨0,A,Zbb c,rfl,rfl,by omega,HD0,HR,HOK,X2,B2⟩
   case round =>
    clear HD0 HR HOK X2 B2 HWZ HPN HSZ;obtain⟨k,X,C,rfl,rfl,hk,HD,HR,HOK,X2,B2⟩:=hrel;have e2:IntKind.i64.wrap ((k:Int)+1)=((k+1:Nat):Int):=IntWalk.i64_in _ (by omega);by_cases hkn:k<nl
    ·have kk:(k:Int)<nl:=by omega
     obtain⟨m,hm⟩:∃ m,l[k]?=some m:=⟨_,List.getElem?_eq_getElem (by rw[HLL.o];exact hkn)⟩;obtain⟨gl,ol,hlo,hgl,hlc⟩:=(HLW.o wr B2.o).at Zbe k m hm;have l0:=hlc 0 _ rfl;rw[Nat.mul_one,Nat.add_zero] at l0;subst hlo
     have HDD:Hid (PA=if inB m (-1) ((nm:Int)-1)=true then Zw1 c (k+1) (l.drop (k+1)) (if m = -1 then C else Zc1 c C k m.toNat) else none):=ħ (by
      rw[← HD.o,List.drop_eq_getElem_cons (by rw[HLL.o];exact hkn),← HME.o];have:l[k]'(by rw[HLL.o];exact hkn)=m:=(List.getElem?_eq_some_iff.1 hm).2;rw[this]
      rfl)
     have c1:=X2.o.cell 1 _ rfl;have ew:IntKind.i64.wrap ((nm:Int)-1)=(nm:Int)-1:=IntWalk.i64_in _ (by omega);have HWI:=ħ (Zba m (-1) ((nm:Int)-1) wr)
     have HIN:Hid (inB m (-1) ((nm:Int)-1)=true→-1≤m∧m≤(nm:Int)-1):=ħ (fun h=>by
      unfold inB at h
      simpa using h)
     clear hm hlc hgl HD;generalize inB m (-1) ((nm:Int)-1)=ib at *
     go_wp2_with fail
     refine HWI.o.mono ?_;rintro e w4 ⟨rfl,rfl⟩;clear HWI c1 l0
     cases ib with
     | false =>
      have HPN:Hid (PA=none):=ħ (by rw[HDD.o];rfl);clear HDD
      go_wp2_with fail
      go_ret2
      exact HNO.o _ _ HPN.o B2.o rfl
     | true =>
      obtain⟨hm1,hm2⟩:=HIN.o (by first | rfl | trivial);by_cases h1:m = -1
      ·subst h1
       have HD3:Hid (Zw1 c (k+1) (l.drop (k+1)) C=PA):=ħ (by rw[HDD.o];rfl);clear HDD HIN
       go_wp2_with fail
       go_roundw
       case rel=>exact⟨k+1,X,C,by go_num,rfl,by omega,HD3,HR,HOK,X2,B2⟩
       case measure=>simp only[intOf];omega
      ·obtain⟨j,rfl⟩:∃ j:Nat,m=(j:Int):=⟨m.toNat,by omega⟩
       have hj:j<nm:=by omega
       have HD3:Hid (Zw1 c (k+1) (l.drop (k+1)) (Zc1 c C k j)=PA):=ħ (by rw[HDD.o,if_pos rfl,if_neg h1];rfl);have HFC:=ħ (Zoa wr X c (Zaj c) C k j HR.o (by rw[HOK.o.len,HUE.o];exact hkn) (by rw[HME.o];exact hj) HOK.o.row (by rw[HOK.o.len,HUE.o];omega) (by rw[HME.o];omega));have HOK3:=ħ (HOK.o.fix k j);clear HDD HIN HR
       have hne:¬ ((j:Nat):Int) = -1:=by omega
       go_wp2_with fail
       refine HFC.o.mono ?_;rintro e w5 ⟨X',rfl,hX,-,b5⟩;have HX:=ħ hX;have X5:=ħ (X2.o.step b5);have B5:=ħ (B2.o.trans (b5.mono B2.o.size));clear hX b5 HFC X2 B2 HOK
       go_wp2_with fail
       go_roundw
       case rel=>exact⟨k+1,X',Zc1 c C k j,by go_num,rfl,by omega,HD3,HX,HOK3,X5,B5⟩
       case measure=>simp only[intOf];omega
    ·have kk:¬ (k:Int)<nl:=by omega
     obtain rfl:nl=k:=by omega
     have HPN:Hid (PA=some C):=ħ (by rw[← HD.o,List.drop_of_length_le (by rw[HLL.o];exact Nat.le_refl _)];rfl);have HFI:=ħ (Zto wr X c (Zaj c) C HR.o HOK.o);clear HD HR
     go_wp2_with fail
     refine HFI.o.mono ?_;intro e w3 hq;have HQ:=ħ (HYE.o wr w3 e C HPN.o B2.o hq);obtain⟨a,b,rfl⟩:=HFT.o e wr w3 C hq;clear hq HFI HYE HNO HFT
     go_wp2_with fail
     go_ret2
     exact HQ.o
  ·have HPN:Hid (PA=none):=ħ (by rw[HPA.o,decide_eq_false hlu];rfl)
   have hne:¬ ((nl:Nat):Int)=nu:=by omega
   clear HPA
   go_wp2_with fail
   go_ret2
   exact HNO.o _ _ HPN.o B2.o rfl
end
section
open Go.RowKit Go.Sort Go.Maps
def Zw2 (c:Crw) (x:Int):Int:=(c.us.getD x.toNat ⟨0,0,0,0⟩).w
def Zlf (c:Crw) (set:List Int) (i:Nat):Bool:=Zc2 (set.getD i 0) c.us.length&&(decide (i=0)||decide (set.getD (i-1) 0<set.getD i 0))&&decide (Zw2 c (set.getD i 0)=Zw2 c (set.getD 0 0))
def Zdu (C:List (List Bool)) (set:List Int) (k:Nat):Bool:=set.any (fun x=>(C.getD x.toNat []).getD k false)
def Zfd (c:Crw) (C:List (List Bool)) (set:List Int):Nat→Int
 | 0=>0
 | k+1=>Zfd c C set k+(if Zdu C set k=true then Zcy (c.ms.getD k ⟨[],[],0⟩).t (Zw2 c (set.getD 0 0)).toNat else 0)
def Zgy (c:Crw) (u m:Int) (set:List Int):Bool:=Zqz c u m&&decide (0<set.length)&&(List.range set.length).all (Zlf c set)&&decide (Zfd c (Zc1 c (Zbb c) u.toNat m.toNat) set c.ms.length<(set.length:Int))
theorem Ztw {C:List (List Bool)} {set:List Int} {i:Nat} {x:Int} (h:set[i]?=some x) (k:Nat):Zdu C (set.take (i+1)) k=(Zdu C (set.take i) k||(C.getD x.toNat []).getD k false):=by
 unfold Zdu;rw[List.take_add_one,h,List.any_append];simp
theorem Zf5 {f g:Nat→Bool} {n k:Nat} (hk:k<n):(((List.range n).map (fun j=>if j<k then g j else f j)).set k (g k))=(List.range n).map (fun j=>if j<k+1 then g j else f j):=by
 rw[Zf2]
 congr 1
 funext j
 by_cases e:j=k
 ·subst e;rw[Zad,if_pos (by omega)]
 ·rw[Zae _ _ _ e]
  by_cases e2:j<k
  ·rw[if_pos e2,if_pos (by omega)]
  ·rw[if_neg e2,if_neg (by omega)]
theorem Zq0 (w:World) (c:Crw) (cs:List Value) (B:Nat) (u m:Int) (set:List Int) (so:Option Addr) (sc:Nat) (ha:ArgC w c cs B) (hs:Zak Zbd w so set) (hsl:set.length≤1000000) :
  Calls Tryz.prog 58 #[.agg cs.toArray,.int .i64 u,.int .i64 m,.slice so set.length sc] w fun e w'=>e = .returned (.bool (Zgy c u m set))∧Below w.heap.size w w':=by
 have HFX:=ħ (fun W (hW:Below w.heap.size w W)=>Ztt W c cs B u m (ha.below hW));unfold Zkh at HFX;have HVA:=ħ (fun (h:Zqz c u m=true)=>(Zki h).1);have HRK:=ħ (fun (h:Zqz c u m=true)=>Zzd h ha.nu);have HNU:=ha.nu;have HSW:=ħ (fun W (hW:Below w.heap.size w W)=>hs.below hW);have HPA:Hid (Zgy c u m set=(Zqz c u m&&decide (0<set.length)&&(List.range set.length).all (Zlf c set)&&decide (Zfd c (Zc1 c (Zbb c) u.toNat m.toNat) set c.ms.length<(set.length:Int)))):=ħ rfl
 have HBAD:Hid (∀ i,i<set.length→Zlf c set i=false→Zgy c u m set=false):=ħ (fun i hi h=>by
  unfold Zgy
  have:(List.range set.length).all (Zlf c set)=false:=by
   rw[List.all_eq_false];exact⟨i,List.mem_range.2 hi,by rw[h];decide⟩
  rw[this,Bool.and_false,Bool.false_and])
 generalize Zgy c u m set=PA at *;obtain⟨qo,qc,mo,mc,uo,uc,rfl,hq0,hm0,hu0,-⟩:=ha.crw;have HMW:=ħ (fun W (hW:Below w.heap.size w W)=>hm0.below hW);have HUW:=ħ (fun W (hW:Below w.heap.size w W)=>hu0.below hW);clear ha hs hq0 hm0 hu0;generalize Zqz c u m=FA at *;generalize hCF:Zc1 c (Zbb c) u.toNat m.toNat=CF at *;clear hCF;generalize hnq:c.qs.length=nq at *;generalize hnm:c.ms.length=nm at *;generalize hnu:c.us.length=nu at *;generalize hns:set.length=ns at *;have HME:=ħ hnm;have HUE:=ħ hnu;have HSE:=ħ hns;clear hnq hnm hnu hns;have X1:Hid (Zaf (w.alloc (.cells #[.slice qo nq qc,.slice mo nm mc,.slice uo nu uc] 26)) w.heap.size 26 [.slice qo nq qc,.slice mo nm mc,.slice uo nu uc]):=ħ (heap_alloc_new w _);have B1:=ħ ((Below.refl w.heap.size w).alloc (Nat.le_refl _) (.cells #[.slice qo nq qc,.slice mo nm mc,.slice uo nu uc] 26))
 go_enter Tryz.func58,Tryz.ntmps58
 go_upto_region 1 with (fail)
 generalize w.alloc (.cells #[.slice qo nq qc,.slice mo nm mc,.slice uo nu uc] 26)=w1 at *;have c0:=X1.o.cell 0 _ rfl;have c1:=X1.o.cell 1 _ rfl;have c2:=X1.o.cell 2 _ rfl;have HCL:=ħ (HFX.o w1 B1.o);clear HFX
 go_wp2_with fail
 refine HCL.o.mono ?_;intro e w2 hq;obtain⟨b2,hres⟩:=hq;have B2:=ħ (B1.o.trans (b2.mono B1.o.size));have X2:=ħ (X1.o.step b2);clear b2 c0 c1 c2 B1 X1 HCL
 cases FA with
 | false =>
  rw[if_neg (by decide)] at hres;subst hres;have HPN:Hid (PA=false):=ħ (by rw[HPA.o];rfl);clear HPA HBAD
  go_wp2_with fail
  go_ret;exact⟨by rw[HPN.o];rfl,B2.o⟩
 | true =>
  rw[if_pos rfl] at hres;obtain⟨R,rfl,hR⟩:=hres;have HOK:=ħ (HRK.o (by first | rfl | trivial));have HVC:=ħ (HVA.o (by first | rfl | trivial));have HR:=ħ hR;clear hR HRK HVA;by_cases hn0:ns=0
  ·subst hn0
   have HPN:Hid (PA=false):=ħ (by rw[HPA.o];rfl);clear HPA HBAD
   go_wp2_with fail
   go_ret;exact⟨by rw[HPN.o];rfl,B2.o⟩
  ·have HPN:Hid ((List.range ns).all (Zlf c set)=true→PA=decide (Zfd c CF set nm<(ns:Int))):=ħ (fun h=>by rw[HPA.o,h,decide_eq_true (by omega:0<ns)];rfl)
   clear HPA;have hnm1:=HOK.o.nm;have hnmE:=HME.o;rw[hnmE] at hnm1;have c1:=X2.o.cell 1 _ rfl;have hmk:=run_make_row' (P:=Tryz.prog) 87 4 (.bool false) 1 Tryz.underlying87 Zdh rfl .i64 .i64 nm (by omega) (by omega);rw[Ze0] at hmk
   have hne:¬ ((ns:Nat):Int)=0:=by omega
   go_upto_region 5 with (fail)
   clear hmk c1;obtain⟨V,hV⟩:∃ y,w2.heap.size=y:=⟨_,rfl⟩;have bx:=(Below.refl w2.heap.size w2).alloc (Nat.le_refl _) (.cells (bvs (List.replicate nm false)).toArray 4)
   have V3:Hid (Zaf (w2.alloc (.cells (bvs (List.replicate nm false)).toArray 4)) V 4 (bvs ((List.range nm).map (Zdu CF (set.take 0))))):=ħ (by
    have e:(List.range nm).map (Zdu CF (set.take 0))=List.replicate nm false:=by
     rw[List.take_zero];show (List.range nm).map (fun _=>false)=_;rw[List.map_const',List.length_range]
    rw[e]
    exact Zaf.newAt _ _ _ _ hV.symm)
   have B3:=ħ bx;rw[hV] at B3 ⊢;have HVW:Hid (w.heap.size<V):=ħ (by rw[← hV];exact X2.o.lt);have X3:=ħ (X2.o.step bx);have B23:Hid (Below w2.heap.size w2 (w2.alloc (.cells (bvs (List.replicate nm false)).toArray 4))):=ħ bx;have HVS:=ħ hV;clear bx hV X2;generalize w2.alloc (.cells (bvs (List.replicate nm false)).toArray 4)=w3 at *
   go_wp2_with fail
   have HZ:Hid (∀ j,j<0→Zlf c set j=true):=ħ (fun j hj=>absurd hj (Nat.not_lt_zero j))
   go_loopw [39] (fun iv wr=>∃ (i:Nat),iv = .int .i64 i∧i≤ns∧Hid (∀ j,j<i→Zlf c set j=true)∧Hid (Zaf wr V 4 (bvs ((List.range nm).map (Zdu CF (set.take i)))))∧Hid (Only w3 wr (· = V))) (fun k _=>(ns-intOf k).toNat)
   case atStart=>exact⟨0,rfl,by omega,HZ,V3,ħ (Only.refl _ _)⟩
   case round =>
    clear HZ V3;obtain⟨i,rfl,hi,HJ,V4,ON⟩:=hrel;have e2:IntKind.i64.wrap ((i:Int)+1)=((i+1:Nat):Int):=IntWalk.i64_in _ (by omega);have B24:Hid (Below w2.heap.size w2 wr):=ħ (B23.o.trans (ON.o.below B23.o.size (fun g hg=>by rw[hg,HVS.o];exact Nat.le_refl _)));have B4:Hid (Below w.heap.size w wr):=ħ (B2.o.trans (B24.o.mono B2.o.size));by_cases hin:i<ns
    ·have ii:(i:Int)<ns:=by omega
     obtain⟨x,hx⟩:∃ x,set[i]?=some x:=⟨_,List.getElem?_eq_getElem (by rw[HSE.o];exact hin)⟩;have HX:=ħ hx;have HXG:Hid (set.getD i 0=x):=ħ (by rw[List.getD_eq_getElem?_getD,hx];rfl);obtain⟨gs,os,hso,hgs,hsc⟩:=(HSW.o wr B4.o).at Zbe i x hx;have si:=hsc 0 _ rfl;rw[Nat.mul_one,Nat.add_zero] at si;subst hso;have X4:=ħ (X3.o.only ON.o (by have:=HVW.o;omega));have c2:=X4.o.cell 2 _ rfl;have ew:IntKind.i64.wrap ((nu:Int)-1)=(nu:Int)-1:=IntWalk.i64_in _ (by omega);have HIN:=ħ (fun h=>Zch (u:=x) (n:=nu) h);have HWI:Hid (∀ W:World,Below wr.heap.size wr W→Calls Tryz.prog 83 #[.int .i64 x,.int .i64 0,.int .i64 ((nu:Int)-1)] W fun e w'=>e = .returned (.bool (Zc2 x nu))∧Below W.heap.size W w'):=ħ (fun W _=>(Zba x 0 ((nu:Int)-1) W).mono (fun e w' h=>⟨h.1,by rw[← h.2];exact Below.refl _ _⟩));have HOA:Hid (Zlf c set i=(Zc2 x nu&&(decide (i=0)||decide (set.getD (i-1) 0<x))&&decide (Zw2 c x=Zw2 c (set.getD 0 0)))):=ħ (by unfold Zlf;rw[HXG.o,HUE.o]);clear hx hsc hgs;generalize hib:Zc2 x nu=ib at *;have HIB:=ħ hib;clear hib;have r1:=Z1b wr (fun W hW=>HWI.o W hW);have c2':=cell_regrown c2
     cases ib with
     | false =>
      have HOF:Hid (Zlf c set i=false):=ħ (by rw[HOA.o];rfl);clear HOA
      go_upto_region 8 with (fail)
      refine wp_region_quiet_below (by kernel_rfl) (by kernel_rfl) ?_
      repeat (go_big_quiet_step (with_reducible (exact r1 _ _)))
      refine wpQuiet_nil ?_;intro _ hw';obtain⟨⟨dq,osq⟩,hw''⟩:=hw';subst hw'';have BQ:=ħ (below_regrown wr dq osq);clear r1 c2' c2 si HWI;generalize grow (redrawn wr dq) osq=wy at *
      go_wp2_with fail
      go_ret;exact⟨by rw[HBAD.o i hin HOF.o];rfl,B4.o.trans (BQ.o.mono B4.o.size)⟩
     | true =>
      obtain⟨k,hxk,hk⟩:=HIN.o (by first | rfl | trivial);subst hxk
      have kk:(k:Int)<nu:=by omega
      obtain⟨xu,hxu⟩:∃ y,c.us[k]?=some y:=⟨_,List.getElem?_eq_getElem (by rw[HUE.o];exact hk)⟩
      have HWK:Hid (Zw2 c (k:Int)=xu.w):=ħ (by
       show (c.us.getD k ⟨0,0,0,0⟩).w=xu.w
       rw[List.getD_eq_getElem?_getD,hxu];rfl)
      obtain⟨gu,ou,huo,hgu,hcu⟩:=(HUW.o wr B4.o).at Za7 k xu hxu;have uk:=hcu 1 _ rfl;have HUO:=ħ huo;have uk':=cell_regrown uk;have si':=cell_regrown si;clear hgu hcu hxu;have HSO:Hid (wr.cell? ⟨gs,os+i,none⟩=some (.int .i64 (k:Int))):=ħ si;obtain⟨ru,hru⟩:∃ y,CF[k]?=some y:=⟨_,List.getElem?_eq_getElem (by rw[HOK.o.len,HUE.o];exact hk)⟩;have HRL:Hid (ru.length=nm):=ħ (by rw[HOK.o.row _ (List.mem_of_getElem? hru),HME.o])
      have HAN:Hid (∀ j,Zdu CF (set.take (i+1)) j=(Zdu CF (set.take i) j||ru.getD j false)):=ħ (fun j=>by
       rw[Ztw HX.o,Int.toNat_natCast,List.getD_eq_getElem?_getD (l:=CF),hru];rfl)
      obtain⟨qo',mo',uo',ho',co',qc',mc',uc',hc',cc',hA,hRC,-⟩:=HR.o;have h4:=hA.cell 4 _ rfl;rw[HOK.o.len,HUE.o] at h4;obtain⟨gc,oc,bo,bc,hco,hgc,hrc,hrb⟩:=hRC.c.at k ru hru;rw[hco] at h4;rw[HRL.o] at hrc
      have HRC:=ħ (fun W (hW:Below w2.heap.size w2 W)=>(show W.cell? ⟨R,4,none⟩=some (.slice (some ⟨gc,oc,none⟩) nu cc')∧W.cell? ⟨gc,oc+k,none⟩=some (.slice bo nm bc) by
       rw[World.cell?_of_block (w:=w2) (a:=⟨R,4,none⟩) (hW.block R hA.lt),World.cell?_of_block (w:=w2) (a:=⟨gc,oc+k,none⟩) (hW.block gc hgc)]
       exact⟨h4,hrc⟩))
      have HRB:=ħ (fun W (hW:Below w2.heap.size w2 W)=>hrb.below hW);clear hA hRC h4 hco hgc hrc hrb hru;by_cases hi0:i=0
      ·subst hi0
       have i0:¬ (0:Int)<((0:Nat):Int):=by omega
       have di:decide ((0:Int)<((0:Nat):Int))=false:=decide_eq_false (by omega);have di2:decide (0<0)=false:=rfl;have s0:=si;rw[Nat.add_zero] at s0;have s0':=cell_regrown s0
       have zz:(0:Int)<ns:=by omega
       have HOF:Hid (Zlf c set 0=true):=ħ (by rw[HOA.o,HXG.o];simp);generalize xu.w=xw at *;subst huo
       go_upto_region 8 with (fail)
       refine wp_region_quiet_below (by kernel_rfl) (by kernel_rfl) ?_
       repeat (go_big_quiet_step (with_reducible (exact r1 _ _)))
       refine wpQuiet_nil ?_;intro _ hw';obtain⟨⟨dq,osq⟩,hw''⟩:=hw';subst hw'';have BQ:=ħ (below_regrown wr dq osq);clear r1 c2' c2 si HWI s0 s0' uk uk' si' di di2;generalize grow (redrawn wr dq) osq=wy at *;have V5:=ħ (V4.o.step BQ.o);have ON5:=ħ (ON.o.step BQ.o);have B25:=ħ (B24.o.trans (BQ.o.mono B24.o.size));obtain⟨x4,xr⟩:=HRC.o wy B25.o;clear V4 ON BQ B24 B4 X4
       go_wp2_with fail
       clear x4 xr;have V6:Hid (Zaf wy V 4 (bvs ((List.range nm).map (fun l=>if l<0 then Zdu CF (set.take (0+1)) l else Zdu CF (set.take 0) l)))):=V5
       go_loopw [89] (fun jv ws=>∃ (j:Nat),jv = .int .i64 j∧j≤nm∧Hid (Zaf ws V 4 (bvs ((List.range nm).map (fun l=>if l<j then Zdu CF (set.take (0+1)) l else Zdu CF (set.take 0) l))))∧Hid (Only w3 ws (· = V))) (fun k _=>(nm-intOf k).toNat)
       case atStart=>exact⟨0,rfl,by omega,V6,ON5⟩
       case round =>
        clear V6 V5 ON5 B25;obtain⟨j,rfl,hj,V7,ON7⟩:=hrel;have e5:IntKind.i64.wrap ((j:Int)+1)=((j+1:Nat):Int):=IntWalk.i64_in _ (by omega);have B27:Hid (Below w2.heap.size w2 wr):=ħ (B23.o.trans (ON7.o.below B23.o.size (fun g hg=>by rw[hg,HVS.o];exact Nat.le_refl _)));by_cases hjn:j<nm
        ·have jj:(j:Int)<nm:=by omega
         obtain⟨gb,ob,hbo,hbc⟩:=(HRB.o wr B27.o).bool j (by rw[HRL.o];exact hjn);have HBO:=ħ hbo;subst hbo
         have vc:=V7.o.cell j (.bool (Zdu CF (set.take 0) j)) (by
          unfold bvs;rw[List.getElem?_map,List.getElem?_map,List.getElem?_range hjn];show some (Value.bool (if j<j then _ else _))=_
          rw[if_neg (Nat.lt_irrefl j)])
         have vf:=V7.o.warm j;have HAJ:=ħ (HAN.o j);obtain⟨bt,hbt⟩:∃ y,ru.getD j false=y:=⟨_,rfl⟩;obtain⟨od,hod⟩:∃ y,Zdu CF (set.take 0) j=y:=⟨_,rfl⟩;rw[hbt] at hbc HAJ;rw[hod] at vc HAJ
         have HV8:Hid (Zaf (wr.setCell ⟨V,j,none⟩ (.bool (od||bt))) V 4 (bvs ((List.range nm).map (fun l=>if l<j+1 then Zdu CF (set.take (0+1)) l else Zdu CF (set.take 0) l)))):=ħ (by
          have:=V7.o.set j (.bool (od||bt));have e:=Zf5 (f:=Zdu CF (set.take 0)) (g:=Zdu CF (set.take (0+1))) hjn;rw[HAJ.o] at e
          rwa [← Zcx,e] at this)
         have ON8:=ħ (ON7.o.setCell (a:=⟨V,j,none⟩) (.bool (od||bt)) rfl);clear hbt hod V7 ON7
         cases od with
         | true =>
          go_upto_region 14 with (fail)
          clear vc vf hbc;simp only[Bool.true_or] at HV8 ON8;generalize wr.setCell ⟨V,j,none⟩ (.bool true)=w8 at *
          go_wp2_with fail
          go_roundw
          case rel=>exact⟨j+1,by go_num,by omega,HV8,ON8⟩
          case measure=>simp only[intOf];omega
         | false =>
          go_upto_region 14 with (fail)
          clear vc vf hbc;simp only[Bool.false_or] at HV8 ON8;generalize wr.setCell ⟨V,j,none⟩ (.bool bt)=w8 at *
          go_wp2_with fail
          go_roundw
          case rel=>exact⟨j+1,by go_num,by omega,HV8,ON8⟩
          case measure=>simp only[intOf];omega
        ·have jj:¬ (j:Int)<nm:=by omega
         obtain rfl:nm=j:=by omega
         have V9:Hid (Zaf wr V 4 (bvs ((List.range nm).map (Zdu CF (set.take (0+1)))))):=ħ (by
          have:=V7.o;have e:(List.range nm).map (fun l=>if l<nm then Zdu CF (set.take (0+1)) l else Zdu CF (set.take 0) l)=(List.range nm).map (Zdu CF (set.take (0+1))):=List.map_congr_left (fun l hl=>if_pos (List.mem_range.1 hl))
          rwa [e] at this)
         have HJ2:Hid (∀ j,j<0+1→Zlf c set j=true):=ħ (fun j hj=>by
          rcases Nat.lt_or_ge j 0 with h | h
          ·exact HJ.o j h
          ·obtain rfl:j=0:=by omega
           exact HOF.o)
         go_wp2_with fail
         go_roundw
         case rel=>first | exact⟨_,_,_,_,_,_,⟨0+1,by go_num,by omega,HJ2,V9⟩,rfl,rfl,rfl,rfl,rfl,rfl⟩ | exact⟨_,_,_,_,_,_,⟨0+1,by go_num,by omega,HJ2,V9,ON7⟩,rfl,rfl,rfl,rfl,rfl,rfl⟩
         case measure=>simp only[intOf];omega
      ·have i0:(0:Int)<(i:Int):=by omega
       have HI1:=ħ (HJ.o 0 (by omega));obtain⟨x0,hx0⟩:∃ x,set[0]?=some x:=⟨_,List.getElem?_eq_getElem (by rw[HSE.o];omega)⟩;obtain⟨y,hy⟩:∃ x,set[i-1]?=some x:=⟨_,List.getElem?_eq_getElem (by rw[HSE.o];omega)⟩;have HX0:Hid (set.getD 0 0=x0):=ħ (by rw[List.getD_eq_getElem?_getD,hx0];rfl);have HY0:Hid (set.getD (i-1) 0=y):=ħ (by rw[List.getD_eq_getElem?_getD,hy];rfl)
       have hidx0:Zc2 x0 nu=true:=by
        have:=HI1.o;unfold Zlf at this;rw[HX0.o,HUE.o] at this;simp only[Bool.and_eq_true] at this;exact this.1.1
       obtain⟨k0,hk0,hk0n⟩:=Zch hidx0;subst hk0;obtain⟨xu0,hxu0⟩:∃ y,c.us[k0]?=some y:=⟨_,List.getElem?_eq_getElem (by rw[HUE.o];exact hk0n)⟩
       have HW0:Hid (Zw2 c (k0:Int)=xu0.w):=ħ (by
        show (c.us.getD k0 ⟨0,0,0,0⟩).w=xu0.w
        rw[List.getD_eq_getElem?_getD,hxu0];rfl)
       obtain⟨gs1,os1,hso1,hgs1,hsc1⟩:=(HSW.o wr B4.o).at Zbe 0 (k0:Int) hx0;obtain⟨gs2,os2,hso2,hgs2,hsc2⟩:=(HSW.o wr B4.o).at Zbe (i-1) y hy;have s0:=hsc1 0 _ rfl;have sp:=hsc2 0 _ rfl;rw[Nat.mul_one,Nat.add_zero] at s0 sp;cases hso1;cases hso2;obtain⟨gu2,ou2,huo2,hgu2,hcu2⟩:=(HUW.o wr B4.o).at Za7 k0 xu0 hxu0;have u0:=hcu2 1 _ rfl;rw[huo] at huo2;cases huo2
       have HOA2:Hid (Zlf c set i=(decide (y<(k:Int))&&decide (xu.w=xu0.w))):=ħ (by
        rw[HOA.o,HX0.o,HY0.o,HWK.o,HW0.o,decide_eq_false hi0,Bool.false_or,Bool.true_and])
       try rw[Nat.add_zero] at s0
       obtain⟨i',rfl⟩:∃ i',i=i'+1:=⟨i-1,by omega⟩;rw[Nat.add_sub_cancel] at sp
       have ew2:IntKind.i64.wrap (((i'+1:Nat):Int)-1)=(i':Int):=by rw[show ((i'+1:Nat):Int)-1=(i':Int) by omega];exact IntWalk.i64_in _ (by omega)
       have ii':(i':Int)<ns:=by omega
       have zz:(0:Int)<ns:=by omega
       have kk0:(k0:Int)<nu:=by omega
       have s0':=cell_regrown s0;have sp':=cell_regrown sp;have u0':=cell_regrown u0;clear hx0 hy hsc1 hsc2 hgs1 hgs2 hgu2 hcu2 hxu0 hidx0 HOA;generalize xu.w=xw at *;generalize xu0.w=xw0 at *;subst huo;by_cases hyk:y<(k:Int)
       ·have hyk2:¬ (k:Int)≤y:=by omega
        by_cases hww:xw=xw0
        ·have HOF:Hid (Zlf c set (i'+1)=true):=ħ (by rw[HOA2.o,decide_eq_true hyk,decide_eq_true hww];rfl)
         clear HOA2
         go_upto_region 8 with (fail)
         refine wp_region_quiet_below (by kernel_rfl) (by kernel_rfl) ?_
         repeat (go_big_quiet_step (with_reducible (exact r1 _ _)))
         refine wpQuiet_nil ?_;intro _ hw';obtain⟨⟨dq,osq⟩,hw''⟩:=hw';subst hw'';have BQ:=ħ (below_regrown wr dq osq);clear r1 c2' c2 si HWI s0 s0' uk uk' si' sp sp' u0 u0';generalize grow (redrawn wr dq) osq=wy at *;have V5:=ħ (V4.o.step BQ.o);have ON5:=ħ (ON.o.step BQ.o);have B25:=ħ (B24.o.trans (BQ.o.mono B24.o.size));obtain⟨x4,xr⟩:=HRC.o wy B25.o;clear V4 ON BQ B24 B4 X4
         go_wp2_with fail
         clear x4 xr;have V6:Hid (Zaf wy V 4 (bvs ((List.range nm).map (fun l=>if l<0 then Zdu CF (set.take ((i'+1)+1)) l else Zdu CF (set.take (i'+1)) l)))):=V5
         go_loopw [89] (fun jv ws=>∃ (j:Nat),jv = .int .i64 j∧j≤nm∧Hid (Zaf ws V 4 (bvs ((List.range nm).map (fun l=>if l<j then Zdu CF (set.take ((i'+1)+1)) l else Zdu CF (set.take (i'+1)) l))))∧Hid (Only w3 ws (· = V))) (fun k _=>(nm-intOf k).toNat)
         case atStart=>exact⟨0,rfl,by omega,V6,ON5⟩
         case round =>
          clear V6 V5 ON5 B25;obtain⟨j,rfl,hj,V7,ON7⟩:=hrel;have e5:IntKind.i64.wrap ((j:Int)+1)=((j+1:Nat):Int):=IntWalk.i64_in _ (by omega);have B27:Hid (Below w2.heap.size w2 wr):=ħ (B23.o.trans (ON7.o.below B23.o.size (fun g hg=>by rw[hg,HVS.o];exact Nat.le_refl _)));by_cases hjn:j<nm
          ·have jj:(j:Int)<nm:=by omega
           obtain⟨gb,ob,hbo,hbc⟩:=(HRB.o wr B27.o).bool j (by rw[HRL.o];exact hjn);have HBO:=ħ hbo;subst hbo
           have vc:=V7.o.cell j (.bool (Zdu CF (set.take (i'+1)) j)) (by
            unfold bvs;rw[List.getElem?_map,List.getElem?_map,List.getElem?_range hjn];show some (Value.bool (if j<j then _ else _))=_
            rw[if_neg (Nat.lt_irrefl j)])
           have vf:=V7.o.warm j;have HAJ:=ħ (HAN.o j);obtain⟨bt,hbt⟩:∃ y,ru.getD j false=y:=⟨_,rfl⟩;obtain⟨od,hod⟩:∃ y,Zdu CF (set.take (i'+1)) j=y:=⟨_,rfl⟩;rw[hbt] at hbc HAJ;rw[hod] at vc HAJ
           have HV8:Hid (Zaf (wr.setCell ⟨V,j,none⟩ (.bool (od||bt))) V 4 (bvs ((List.range nm).map (fun l=>if l<j+1 then Zdu CF (set.take ((i'+1)+1)) l else Zdu CF (set.take (i'+1)) l)))):=ħ (by
            have:=V7.o.set j (.bool (od||bt));have e:=Zf5 (f:=Zdu CF (set.take (i'+1))) (g:=Zdu CF (set.take ((i'+1)+1))) hjn;rw[HAJ.o] at e
            rwa [← Zcx,e] at this)
           have ON8:=ħ (ON7.o.setCell (a:=⟨V,j,none⟩) (.bool (od||bt)) rfl);clear hbt hod V7 ON7
           cases od with
           | true =>
            go_upto_region 14 with (fail)
            clear vc vf hbc;simp only[Bool.true_or] at HV8 ON8;generalize wr.setCell ⟨V,j,none⟩ (.bool true)=w8 at *
            go_wp2_with fail
            go_roundw
            case rel=>exact⟨j+1,by go_num,by omega,HV8,ON8⟩
            case measure=>simp only[intOf];omega
           | false =>
            go_upto_region 14 with (fail)
            clear vc vf hbc;simp only[Bool.false_or] at HV8 ON8;generalize wr.setCell ⟨V,j,none⟩ (.bool bt)=w8 at *
            go_wp2_with fail
            go_roundw
            case rel=>exact⟨j+1,by go_num,by omega,HV8,ON8⟩
            case measure=>simp only[intOf];omega
          ·have jj:¬ (j:Int)<nm:=by omega
           obtain rfl:nm=j:=by omega
           have V9:Hid (Zaf wr V 4 (bvs ((List.range nm).map (Zdu CF (set.take ((i'+1)+1)))))):=ħ (by
            have:=V7.o;have e:(List.range nm).map (fun l=>if l<nm then Zdu CF (set.take ((i'+1)+1)) l else Zdu CF (set.take (i'+1)) l)=(List.range nm).map (Zdu CF (set.take ((i'+1)+1))):=List.map_congr_left (fun l hl=>if_pos (List.mem_range.1 hl))
            rwa [e] at this)
           have HJ2:Hid (∀ j,j<(i'+1)+1→Zlf c set j=true):=ħ (fun j hj=>by
            rcases Nat.lt_or_ge j (i'+1) with h | h
            ·exact HJ.o j h
            ·obtain rfl:j=(i'+1):=by omega
             exact HOF.o)
           go_wp2_with fail
           go_roundw
           case rel=>first | exact⟨_,_,_,_,_,_,⟨(i'+1)+1,by go_num,by omega,HJ2,V9⟩,rfl,rfl,rfl,rfl,rfl,rfl⟩ | exact⟨_,_,_,_,_,_,⟨(i'+1)+1,by go_num,by omega,HJ2,V9,ON7⟩,rfl,rfl,rfl,rfl,rfl,rfl⟩
           case measure=>simp only[intOf];omega
        ·have HOF:Hid (Zlf c set (i'+1)=false):=ħ (by rw[HOA2.o,decide_eq_false hww,Bool.and_false])
         clear HOA2
         go_upto_region 8 with (fail)
         refine wp_region_quiet_below (by kernel_rfl) (by kernel_rfl) ?_
         repeat (go_big_quiet_step (with_reducible (exact r1 _ _)))
         refine wpQuiet_nil ?_;intro _ hw';obtain⟨⟨dq,osq⟩,hw''⟩:=hw';subst hw'';have BQ:=ħ (below_regrown wr dq osq);clear r1 c2' c2 si HWI s0 s0' uk uk' si' sp sp' u0 u0';generalize grow (redrawn wr dq) osq=wy at *
         go_wp2_with fail
         go_ret;exact⟨by rw[HBAD.o (i'+1) hin HOF.o];rfl,B4.o.trans (BQ.o.mono B4.o.size)⟩
       ·have hyk2:(k:Int)≤y:=by omega
        have HOF:Hid (Zlf c set (i'+1)=false):=ħ (by rw[HOA2.o,decide_eq_false hyk];rfl);clear HOA2
        go_upto_region 8 with (fail)
        refine wp_region_quiet_below (by kernel_rfl) (by kernel_rfl) ?_
        repeat (go_big_quiet_step (with_reducible (exact r1 _ _)))
        refine wpQuiet_nil ?_;intro _ hw';obtain⟨⟨dq,osq⟩,hw''⟩:=hw';subst hw'';have BQ:=ħ (below_regrown wr dq osq);clear r1 c2' c2 si HWI s0 s0' uk uk' si' sp sp' u0 u0';generalize grow (redrawn wr dq) osq=wy at *
        go_wp2_with fail
        go_ret;exact⟨by rw[HBAD.o (i'+1) hin HOF.o];rfl,B4.o.trans (BQ.o.mono B4.o.size)⟩
    ·have ii:¬ (i:Int)<ns:=by omega
     obtain rfl:ns=i:=by omega
     have HTA:Hid (set.take ns=set):=ħ (List.take_of_length_le (by rw[HSE.o];exact Nat.le_refl _));have V5:Hid (Zaf wr V 4 (bvs ((List.range nm).map (Zdu CF set)))):=ħ (by have:=V4.o;rwa [HTA.o] at this);have HPD:=ħ (HPN.o (by rw[List.all_eq_true];exact fun j hj=>HJ.o j (List.mem_range.1 hj)));have HI1:=ħ (HJ.o 0 (by omega));obtain⟨x0,hx0⟩:∃ x,set[0]?=some x:=⟨_,List.getElem?_eq_getElem (by rw[HSE.o];omega)⟩;have HX0:Hid (set.getD 0 0=x0):=ħ (by rw[List.getD_eq_getElem?_getD,hx0];rfl)
     have hidx0:Zc2 x0 nu=true:=by
      have:=HI1.o;unfold Zlf at this;rw[HX0.o,HUE.o] at this;simp only[Bool.and_eq_true] at this;exact this.1.1
     obtain⟨k0,hk0,hk0n⟩:=Zch hidx0;subst hk0;obtain⟨xu0,hxu0⟩:∃ y,c.us[k0]?=some y:=⟨_,List.getElem?_eq_getElem (by rw[HUE.o];exact hk0n)⟩;have hv0:=Ze1 ((Zao HVC.o).2.2.2.2.2 xu0 (List.mem_of_getElem? hxu0));obtain⟨n0,hn0w⟩:∃ n:Nat,xu0.w=(n:Int):=⟨xu0.w.toNat,by omega⟩
     have HW0:Hid ((Zw2 c (set.getD 0 0)).toNat=n0):=ħ (by
      rw[HX0.o];show (c.us.getD k0 ⟨0,0,0,0⟩).w.toNat=n0;rw[List.getD_eq_getElem?_getD,hxu0];show xu0.w.toNat=n0
      omega)
     have hn0b:n0≤15:=by omega
     obtain⟨gs,os,hso,hgs,hsc⟩:=(HSW.o wr B4.o).at Zbe 0 (k0:Int) hx0;have s0:=hsc 0 _ rfl;obtain⟨gu,ou,huo,hgu,hcu⟩:=(HUW.o wr B4.o).at Za7 k0 xu0 hxu0;have u0:=hcu 1 _ rfl;rw[hn0w] at u0;rw[Nat.mul_one,Nat.add_zero] at s0;subst hso;subst huo;have X5:=ħ (X3.o.only ON.o (by have:=HVW.o;omega))
     have zz:(0:Int)<ns:=by omega
     have kk0:(k0:Int)<nu:=by omega
     have S0:=ħ (fun W (hW:Below wr.heap.size wr W)=>(show W.cell? ⟨gs,os,none⟩=some (.int .i64 (k0:Int)) by rw[World.cell?_of_block (w:=wr) (a:=⟨gs,os,none⟩) (hW.block gs hgs)];exact s0));have U0:=ħ (fun W (hW:Below wr.heap.size wr W)=>(show W.cell? ⟨gu,ou+k0*4+1,none⟩=some (.int .i64 (n0:Int)) by rw[World.cell?_of_block (w:=wr) (a:=⟨gu,ou+k0*4+1,none⟩) (hW.block gu hgu)];exact u0))
     have HMT:Hid (∀ (k:Nat) (m:Mem),c.ms[k]?=some m→0≤Zcy m.t n0∧Zcy m.t n0≤4096∧m.t.length≤16):=ħ (fun k m hm=>by
      have h1:=Zps ((Zao HVC.o).2.2.2.2.1 m (List.mem_of_getElem? hm));unfold Zcy;rw[List.getD_eq_getElem?_getD];by_cases h2:n0<m.t.length
      ·rw[List.getElem?_eq_getElem h2]
       have:=h1.1 _ (List.getElem_mem h2);exact⟨this.1,this.2,h1.2⟩
      ·rw[List.getElem?_eq_none (by omega)]
       exact⟨Int.le_refl _,by show (0:Int)≤4096;omega,h1.2⟩)
     clear hsc hcu hx0 hxu0 hidx0 hv0 hn0w hgs hgu s0 u0 V4 HI1;obtain⟨wq,hwq⟩:∃ y,wr=y:=⟨_,rfl⟩;have HWQ:Hid (Below wr.heap.size wr wr):=ħ (Below.refl _ _);rw[hwq] at V5 X5 S0 U0 B4 HWQ ⊢;clear hwq B24 ON
     go_wp2_with fail
     have HR0:Hid (Zfd c CF set 0=0):=ħ rfl
     go_loopw [108,16] (fun kv rv ws=>∃ (k:Nat) (r:Int),kv = .int .i64 k∧rv = .int .i64 r∧k≤nm∧0≤r∧r≤4096*(k:Int)∧Hid (Zfd c CF set k=r)∧Hid (Below wq.heap.size wq ws)) (fun k _ _=>(nm-intOf k).toNat)
     case atStart=>exact⟨0,0,rfl,rfl,by omega,by omega,by omega,HR0,HWQ⟩
     case round =>
      clear HR0 HWQ;obtain⟨k,r,rfl,rfl,hk,hr0,hr1,HRO,BW⟩:=hrel;have e5:IntKind.i64.wrap ((k:Int)+1)=((k+1:Nat):Int):=IntWalk.i64_in _ (by omega);by_cases hkn:k<nm
      ·have kk:(k:Int)<nm:=by omega
       have vc:=(V5.o.step BW.o).cell k (.bool (Zdu CF set k)) (by
        unfold bvs
        rw[List.getElem?_map,List.getElem?_map,List.getElem?_range hkn];rfl)
       obtain⟨m2,hm2⟩:∃ y,c.ms[k]?=some y:=⟨_,List.getElem?_eq_getElem (by rw[HME.o];exact hkn)⟩
       have HRN:Hid (Zfd c CF set (k+1)=r+(if Zdu CF set k=true then Zcy m2.t n0 else 0)):=ħ (by
        show Zfd c CF set k+(if Zdu CF set k=true then Zcy (c.ms.getD k ⟨[],[],0⟩).t (Zw2 c (set.getD 0 0)).toNat else 0)=_
        rw[HRO.o,HW0.o,List.getD_eq_getElem?_getD (l:=c.ms),hm2];rfl)
       obtain⟨ab,hab⟩:∃ y,Zdu CF set k=y:=⟨_,rfl⟩;rw[hab] at vc HRN;clear hab
       cases ab with
       | false =>
        have HRN2:Hid (Zfd c CF set (k+1)=r):=ħ (by rw[HRN.o];simp);clear HRN HRO
        go_wp2_with fail
        clear vc;go_roundw
        case rel=>exact⟨k+1,r,by go_num,rfl,by omega,hr0,by omega,HRN2,BW⟩
        case measure=>simp only[intOf];omega
       | true =>
        obtain⟨ht0,ht1,htl⟩:=HMT.o k m2 hm2;have HRN2:Hid (Zfd c CF set (k+1)=r+Zcy m2.t n0):=ħ (by rw[HRN.o,if_pos rfl]);obtain⟨gm,om,cs2,hmo,hgm,hmc,hrd⟩:=(HMW.o wr (B4.o.trans (BW.o.mono B4.o.size))).at k m2 hm2;have HTI:=ħ (fun W (hW:Below wr.heap.size wr W)=>Zfh W m2 _ (hmc.below hW) n0 (by omega) (by omega));have HMC:=ħ hmc;obtain⟨mbo,mbc,mto,mtc,rfl,-,-⟩:=hmc;have r1:=Z1b wr (fun W hW=>HTI.o W hW);have m0c:=hrd 0 _ rfl;have m1c:=hrd 1 _ rfl;have m2c:=hrd 2 _ rfl;rw[Nat.add_zero] at m0c;subst hmo;have c1:=(X5.o.step BW.o).cell 1 _ rfl;have c2:=(X5.o.step BW.o).cell 2 _ rfl;have s0:=S0.o wr BW.o;have u0:=U0.o wr BW.o;have c1':=cell_regrown c1;have c2':=cell_regrown c2;have s0':=cell_regrown s0;have u0':=cell_regrown u0;have m0c':=cell_regrown m0c;have m1c':=cell_regrown m1c;have m2c':=cell_regrown m2c;clear HRN HRO hrd hgm hm2 HTI HMC;generalize Zcy m2.t n0=tk at *;generalize m2.b.length=nb at *;generalize m2.t.length=nt at *;generalize m2.r=mr at *;have e6:IntKind.i64.wrap (r+tk)=r+tk:=IntWalk.i64_in _ (by omega)
        go_upto_region 21 with (fail)
        refine wp_region_quiet_below (by kernel_rfl) (by kernel_rfl) ?_
        repeat (go_big_quiet_step (with_reducible (exact r1 _ _)))
        refine wpQuiet_nil ?_;intro _ hw';obtain⟨⟨dq,osq⟩,hw''⟩:=hw';subst hw'';have BQ:=ħ (below_regrown wr dq osq);clear r1 c1' c2' c1 c2 s0 u0 s0' u0' m0c m1c m2c m0c' m1c' m2c' vc;have BW2:=ħ (BW.o.trans (BQ.o.mono BW.o.size));clear BQ BW;generalize grow (redrawn wr dq) osq=wy at *
        go_wp2_with fail
        go_roundw
        case rel=>exact⟨k+1,r+tk,by go_num,rfl,by omega,by omega,by omega,HRN2,BW2⟩
        case measure=>simp only[intOf];omega
      ·have kk:¬ (k:Int)<nm:=by omega
       obtain rfl:nm=k:=by omega
       have HFI:=ħ (B4.o.trans (BW.o.mono B4.o.size));rw[HRO.o] at HPD;by_cases hrn:r<(ns:Int)
       ·rw[decide_eq_true hrn] at HPD
        go_wp2_with fail
        go_ret;exact⟨by rw[HPD.o];rfl,HFI.o⟩
       ·rw[decide_eq_false hrn] at HPD
        have hrn2:(ns:Int)≤r:=by omega
        go_wp2_with fail
        go_ret;exact⟨by rw[HPD.o];rfl,HFI.o⟩
end
end Go.Proofs.YtbcgocpihobjnaaGreatDoor
