import Derived.Test.YtbcgocpihobjnaaGreatDoorCM47
import Derived.Test.YtbcgocpihobjnaaGreatDoorCM45
set_option linter.all false
set_option maxHeartbeats 32000000
set_option maxRecDepth 100000
namespace Go.Proofs.YtbcgocpihobjnaaGreatDoor
open Go.RowKit Go.Sort Go.Maps
theorem Zv3 (w:World) (c:Crw) (cs:List Value) (B:Nat) (x:Use) (m:Mem) (ms:List Value) (who wdw:Int) (hi0:0≤who) (hi1:who≤255) (hk0:0≤wdw) (hk1:wdw≤255) (hcw:Zgs w c cs) (hG:Tab w B) (hL:LenC c) (hby:∀ p∈c.qs,ByL p) (hnm:∀ m∈c.ms,∀ b∈m.b,NmL b.n) (hmc:Zjw w m ms) (hmo:Zos m) :
  Calls Tryz.prog 4 #[.agg cs.toArray,.agg (Zbv x).toArray,.agg ms.toArray,.int .u8 who,.int .u8 wdw] w fun e w'=>e = .returned (.bool true)∧Below w.heap.size w w':=by
 have HVC:=ħ (fun W (hc:Zgs W c cs) (hT:Tab W B) (hok:CrwOk c)=>Zgt W c cs hc B hT hok);have HTB:=ħ (fun W (hW:Below w.heap.size w W)=>Zbm.step (w:=w) hG hW);have HCW:=ħ (fun W (hW:Below w.heap.size w W)=>hcw.below hW);have HMC:=ħ (fun W (hW:Below w.heap.size w W)=>hmc.below hW);have HFK:=ħ (fun hf=>Z0s (c:=c) hf hL hby hnm);have HFW:=ħ (fun W (hW:Below w.heap.size w W)=>Zyj W c cs (hcw.below hW) hL);have HMO:=ħ hmo;have hun:=hL.nu;have hmn:=hL.nm;have hqn:=hL.nq;have hmb1:=hmo.2.1;obtain⟨qo,qc,mo,mc,uo,uc,rfl,-⟩:=hcw;obtain⟨bo,bc,to',tc,rfl,-,-⟩:=hmc;clear hL hby hnm hG hmo;generalize hqe:c.qs.length=qn at *;generalize hme:c.ms.length=mn at *;generalize hue:c.us.length=un at *;generalize m.b.length=nb at *;generalize m.t.length=nt at *;generalize m.r=mr at *;have HUE:=ħ hue;have HME:=ħ hme;have HQE:=ħ hqe;clear hue hme hqe;obtain⟨x0,x1,x2,x3⟩:=x;have X1:=ħ (Zaf.new w 26 [.slice qo qn qc,.slice mo mn mc,.slice uo un uc]);have Y1:=ħ (Zaf.new (w.alloc (.cells #[.slice qo qn qc,.slice mo mn mc,.slice uo un uc] 26)) 39 [.int .i64 x0,.int .i64 x1,.int .i64 x2,.int .i64 x3]);have M1:=ħ (Zaf.new ((w.alloc (.cells #[.slice qo qn qc,.slice mo mn mc,.slice uo un uc] 26)).alloc (.cells #[.int .i64 x0,.int .i64 x1,.int .i64 x2,.int .i64 x3] 39)) 44 [.slice bo nb bc,.slice to' nt tc,.int .i64 mr]);have b1:=(Below.refl w.heap.size w).alloc (Nat.le_refl _) (.cells #[.slice qo qn qc,.slice mo mn mc,.slice uo un uc] 26);have b2:=b1.alloc b1.size (.cells #[.int .i64 x0,.int .i64 x1,.int .i64 x2,.int .i64 x3] 39);have b3:=b2.alloc b2.size (.cells #[.slice bo nb bc,.slice to' nt tc,.int .i64 mr] 44)
 have e1:(w.alloc (.cells #[.slice qo qn qc,.slice mo mn mc,.slice uo un uc] 26)).heap.size=w.heap.size+1:=by rw[World.size_alloc]
 have e2:((w.alloc (.cells #[.slice qo qn qc,.slice mo mn mc,.slice uo un uc] 26)).alloc (.cells #[.int .i64 x0,.int .i64 x1,.int .i64 x2,.int .i64 x3] 39)).heap.size=w.heap.size+2:=by rw[World.size_alloc,e1]
 have Y1:Hid (Zaf (((w.alloc (.cells #[.slice qo qn qc,.slice mo mn mc,.slice uo un uc] 26)).alloc (.cells #[.int .i64 x0,.int .i64 x1,.int .i64 x2,.int .i64 x3] 39)).alloc (.cells #[.slice bo nb bc,.slice to' nt tc,.int .i64 mr] 44)) (w.heap.size+1) 39 [.int .i64 x0,.int .i64 x1,.int .i64 x2,.int .i64 x3]):=ħ (by
  have:=Y1.o.step ((Below.refl _ _).alloc (Nat.le_refl _) (.cells #[.slice bo nb bc,.slice to' nt tc,.int .i64 mr] 44))
  rw[e1] at this;exact this)
 have M1:Hid (Zaf (((w.alloc (.cells #[.slice qo qn qc,.slice mo mn mc,.slice uo un uc] 26)).alloc (.cells #[.int .i64 x0,.int .i64 x1,.int .i64 x2,.int .i64 x3] 39)).alloc (.cells #[.slice bo nb bc,.slice to' nt tc,.int .i64 mr] 44)) (w.heap.size+2) 44 [.slice bo nb bc,.slice to' nt tc,.int .i64 mr]):=ħ (by
  have:=M1.o
  rw[e2] at this;exact this)
 have X1:Hid (Zaf (((w.alloc (.cells #[.slice qo qn qc,.slice mo mn mc,.slice uo un uc] 26)).alloc (.cells #[.int .i64 x0,.int .i64 x1,.int .i64 x2,.int .i64 x3] 39)).alloc (.cells #[.slice bo nb bc,.slice to' nt tc,.int .i64 mr] 44)) w.heap.size 26 [.slice qo qn qc,.slice mo mn mc,.slice uo un uc]):=ħ ((X1.o.step ((Below.refl _ _).alloc (Nat.le_refl _) (.cells #[.int .i64 x0,.int .i64 x1,.int .i64 x2,.int .i64 x3] 39))).step ((Below.refl _ _).alloc (Nat.le_refl _) (.cells #[.slice bo nb bc,.slice to' nt tc,.int .i64 mr] 44)));have B1:=ħ b3;clear b1 b2 b3 e1 e2;change Calls Tryz.prog 4 #[.agg #[.slice qo qn qc,.slice mo mn mc,.slice uo un uc],.agg #[.int .i64 x0,.int .i64 x1,.int .i64 x2,.int .i64 x3],.agg #[.slice bo nb bc,.slice to' nt tc,.int .i64 mr],.int .u8 who,.int .u8 wdw] w _
 go_enter Tryz.func4,Tryz.ntmps4
 go_upto_region 1 with (fail)
 generalize ((w.alloc (.cells #[.slice qo qn qc,.slice mo mn mc,.slice uo un uc] 26)).alloc (.cells #[.int .i64 x0,.int .i64 x1,.int .i64 x2,.int .i64 x3] 39)).alloc (.cells #[.slice bo nb bc,.slice to' nt tc,.int .i64 mr] 44)=w1 at *
 go_wp2_with fail
 refine (Zvh w1 B (HTB.o w1 B1.o)).mono ?_;rintro e w2 ⟨rfl,b2⟩;have X2:=ħ (X1.o.step b2);have Y2:=ħ (Y1.o.step b2);have M2:=ħ (M1.o.step b2);have B2:=ħ (B1.o.trans (b2.mono B1.o.size));clear b2 X1 B1 Y1 M1
 go_upto_region 2 with (fail)
 go_wp2_with (refine wpList_load_row rfl 26 (.tmp 5) rfl (w.heap.size) ?x1 26 #[.slice qo qn qc,.slice mo mn mc,.slice uo un uc] (0,0) _ X2.o Tryz.underlying26 rfl (Zba _ _ _) ?_;(case x1=>rfl))
 refine (HFW.o w2 B2.o).mono ?_;rintro e w3 ⟨rfl,b3⟩;have X3:=ħ (X2.o.step b3);have Y3:=ħ (Y2.o.step b3);have M3:=ħ (M2.o.step b3);have B3:=ħ (B2.o.trans (b3.mono B2.o.size));clear b3 X2 B2 HFW Y2 M2;obtain⟨V,hV⟩:∃ V,Z1q c=V:=⟨_,rfl⟩;rw[hV];have HV:=ħ hV;clear hV
 cases V with
 | false =>
  go_wp2_with fail
  go_ret;exact⟨rfl,B3.o⟩
 | true =>
  obtain⟨hok,h999,h65,h129⟩:=HFK.o HV.o;have HOK:=ħ hok;clear hok;have HAG:=ħ (fun W (hW:Below w.heap.size w W)=>(⟨HCW.o W hW,HTB.o W hW,HOK.o,by rw[HUE.o];exact h999⟩:ArgC W c [.slice qo qn qc,.slice mo mn mc,.slice uo un uc] B));clear HFK HTB HCW HOK;have HVC:=ħ (fun W (hW:Below w.heap.size w W)=>HVC.o W (HAG.o W hW).crw (HAG.o W hW).tab (HAG.o W hW).ok)
  go_wp2_with (refine Zbt (by rfl) 26 (.tmp 5) rfl (w.heap.size) ?x2 26 #[.slice qo qn qc,.slice mo mn mc,.slice uo un uc] (0,0) _ X3.o Tryz.underlying26 rfl (Zba _ _ _) ?_;(case x2=>rfl))
  refine (HVC.o w3 B3.o).mono ?_;rintro e w4 ⟨rfl,b4⟩;have X4:=ħ (X3.o.step b4);have Y4:=ħ (Y3.o.step b4);have M4:=ħ (M3.o.step b4);have B4:=ħ (B3.o.trans (b4.mono B3.o.size));clear b4 X3 B3 HVC Y3 M3;obtain⟨vv,hvv⟩:∃ x,Zak c=x:=⟨_,rfl⟩;rw[hvv]
  cases vv with
  | false =>
   go_wp2_with fail
   go_ret;exact⟨rfl,B4.o⟩
  | true =>
  have HVV:=ħ hvv;clear hvv;have c2:=X4.o.cell 2 _ rfl;have c1:=X4.o.cell 1 _ rfl;by_cases h1:(5:Int)<(un:Int)
  ·go_wp2_with fail
   go_ret;exact⟨rfl,B4.o⟩
  by_cases h2:(5:Int)<(mn:Int)
  ·go_wp2_with fail
   go_ret;exact⟨rfl,B4.o⟩
  by_cases hm0:mn=0
  ·have hy:(((mn:Nat):Int)==0)=true:=by simpa using hm0
   go_wp2_with fail
   go_ret;exact⟨rfl,B4.o⟩
  have hy:(((mn:Nat):Int)==0)=false:=by simpa using hm0
  have hyj:¬ ((mn:Nat):Int)=0:=by omega
  obtain⟨yk,rfl⟩:∃ y:Nat,who=(y:Int):=⟨who.toNat,by omega⟩;obtain⟨wd,rfl⟩:∃ y:Nat,wdw=(y:Int):=⟨wdw.toNat,by omega⟩;obtain⟨k,hme2⟩:∃ m:Nat,yk%mn=m:=⟨_,rfl⟩
  have hkl:k<mn:=by rw[← hme2];exact Nat.mod_lt _ (by omega)
  have hmm:((yk:Int)%((mn:Nat):Int))=((k:Nat):Int):=by rw[← hme2];rfl
  have hmm2:Int.tmod (yk:Int) ((mn:Nat):Int)=((k:Nat):Int):=by rw[← hme2];rfl
  have ecv:IntKind.i64.wrap ((yk:Nat):Int)=((yk:Nat):Int):=IntWalk.i64_in _ (by omega);have ecm:IntKind.i64.wrap ((k:Nat):Int)=((k:Nat):Int):=IntWalk.i64_in _ (by omega);have HEW:Hid (IntKind.i64.wrap ((wd:Nat):Int)=((wd:Nat):Int)):=ħ (IntWalk.i64_in _ (by omega));have HEC:Hid (((yk:Int)%((mn:Nat):Int))=((k:Nat):Int)∧Int.tmod (yk:Int) ((mn:Nat):Int)=((k:Nat):Int)∧IntKind.i64.wrap ((yk:Nat):Int)=((yk:Nat):Int)∧IntKind.i64.wrap ((k:Nat):Int)=((k:Nat):Int)):=ħ ⟨hmm,hmm2,ecv,ecm⟩
  have hvk:k<c.ms.length:=by rw[HME.o];exact hkl
  have HP0:Hid (MorP c (Zaw c (⟨x0,x1,x2,x3⟩:Use)) (Zr3 c k wd) (Zn9 c m) un):=ħ (by
   have:=Z0x (c:=c) HVV.o (by rw[HUE.o];omega) (by rw[HME.o];omega) (⟨x0,x1,x2,x3⟩:Use) m hvk wd
   rwa [HUE.o] at this)
  have HKM:Hid (∃ x,c.ms[k]?=some x):=ħ ⟨_,List.getElem?_eq_getElem hvk⟩;have HCW:=ħ (fun W (hW:Below w.heap.size w W)=>Z1r (HAG.o W hW).crw);have HMF:=ħ (fun W (hW:Below w.heap.size w W)=>Z1v (HAG.o W hW).crw);have HST:=ħ (fun W c' cs' (ha:ArgC W c' cs' B)=>Zr4 W c' cs' B ha);have HCT:=ħ (fun W c' cs' (ha:ArgC W c' cs' B)=>Zqd W c' cs' B ha);have HVW:=ħ (fun W c' cs' (ha:ArgC W c' cs' B)=>Zgt W c' cs' ha.crw B ha.tab ha.ok);clear hme2 hvk hmm hmm2 ecv ecm
  go_upto_region 4 with (fail)
  clear hy c1 c2 hyj;have L4:=ħ (Below.refl w4.heap.size w4);have O1:Hid (Zaf (w4.alloc (.cells #[.slice none 0 0,.slice none 0 0,.slice none 0 0] 26)) w4.heap.size 26 [.slice none 0 0,.slice none 0 0,.slice none 0 0]):=ħ (heap_alloc_new w4 _);have BO:=ħ ((Below.refl w4.heap.size w4).alloc (Nat.le_refl _) (.cells #[.slice none 0 0,.slice none 0 0,.slice none 0 0] 26))
  go_upto_region 5 with (first | (refine wpList_load_row rfl 26 (.tmp 5) rfl (w.heap.size) ?xl9 26 #[.slice qo qn qc,.slice mo mn mc,.slice uo un uc] (0,0) _ X4.o Tryz.underlying26 rfl (Zba _ _ _) ?_;(case xl9=>rfl)) | (refine Zau rfl 26 (.tmp 12) (.tmp 58) rfl w4.heap.size #[.slice qo qn qc,.slice mo mn mc,.slice uo un uc] (by rfl) (by rfl) 26 _ O1.o (Zba _ _ _) rfl (by simp[Value.oneCell']) ?_;intro w9 s9 u9;have S9:=ħ s9;have U9:=ħ u9;clear s9 u9))
  have A9:=ħ (U9.o.below BO.o (Nat.le_refl _));have S9:Hid (Zaf w9 w4.heap.size 26 [.slice qo qn qc,.slice mo mn mc,.slice uo un uc]):=ħ S9.o;have X9:=ħ (X4.o.step A9.o);have L9:=ħ (L4.o.trans (A9.o.mono L4.o.size));have Z9:Hid (w4.heap.size<w9.heap.size):=ħ S9.o.lt;clear O1 BO U9;have Y9:=ħ (Y4.o.step A9.o);have M9:=ħ (M4.o.step A9.o);have HCB:=ħ (fun W (hW:Below w9.heap.size w9 W)=>X9.o.step hW);have HXB:=ħ (fun W (hW:Below w9.heap.size w9 W)=>Y9.o.step hW);have HUF:=ħ (fun W (hW:Below w9.heap.size w9 W)=>(HCW.o W (B4.o.trans ((A9.o.trans (hW.mono A9.o.size)).mono B4.o.size))).1);obtain⟨us,hus⟩:∃ l,c.us=l:=⟨_,rfl⟩;have HUS:=ħ hus;have HUL:=ħ HUE.o.symm;obtain⟨ob,hob⟩:∃ n,w4.heap.size=n:=⟨_,rfl⟩;have HOB:=ħ hob;rw[hus] at HUF HUL;rw[hob] at S9 Z9 ⊢;clear hus hob;simp only[Act.put]
  go_cut [] from 59 to 66 (fun wx=>∃ g6 off6 c6,Hid (Zaf wx ob 26 [.slice qo qn qc,.slice mo mn mc,.slice (some ⟨g6,off6,none⟩) (un+1) c6])∧Hid (OwnK wx w9.heap.size 4 (un+1) c6 ((us++[(⟨x0,x1,x2,x3⟩:Use)]).flatMap Zbv) (some ⟨g6,off6,none⟩))∧Hid (Below w4.heap.size w4 wx))
  case first =>
   refine Zfc 6 (t5F (w.heap.size) (w.heap.size+1) ob w9.heap.size uo un uc us x0 x1 x2 x3) (by kernel_rfl) rfl (Zyy (w.heap.size) (w.heap.size+1) ob w9.heap.size uo un uc us x0 x1 x2 x3) (Zpl (by kernel_rfl)) (Zsv (by kernel_rfl)) (Zbg (by kernel_rfl)) (Zhm (by kernel_rfl)) (Zhm (by kernel_rfl)) ?hs ?hA ?hB
   case hs =>
    intro i o hin hi listed a' w' H hsn hl2;have hl3:=Zat hl2;have hb:=ħ H.below;have s5:=hsn 5 (Zd5 (by kernel_rfl));have s6:=hsn 6 (Zd5 (by kernel_rfl));have s12:=hsn 12 (Zd5 (by kernel_rfl));have hdn:=H.done;have hdf:=H.defers;have hts:=H.tsize;clear hl2 H hsn;obtain⟨t',df⟩:=a';obtain⟨f',rfl⟩:=Zv1 t' hts;have hdf':df=[]:=hdf;subst hdf';have gs5:f' 5 = .pointer (some ⟨w.heap.size,0,none⟩):=s5;have gs6:f' 6 = .pointer (some ⟨w.heap.size+1,0,none⟩):=s6;have gs12:f' 12 = .pointer (some ⟨ob,0,none⟩):=s12;clear s5 s6 s12;clear hdf hts;have hcases:=Ziv i hin;clear hin;rcases hcases with rfl | rfl | rfl | rfl | rfl | rfl | rfl
    ·obtain rfl:=Option.some.inj hi
     clear hdn hl3;clear gs5 gs6 gs12;have bx:=(Below.refl w'.heap.size w').alloc (Nat.le_refl _) (.cells #[] 39);have HV:=ħ ((OwnK.made w' 39 4).lower hb.o.size);have BX:=ħ bx;clear bx;refine Zab rfl ?_
     go_wp2_with fail
     exact Zaa ⟨_,rfl,BX.o,w'.heap.size,rfl,HV.o⟩
    ·obtain rfl:=Option.some.inj hi
     clear hdn hl3;rw[gs5];clear gs5 gs6 gs12;refine Zab rfl ?_
     go_wp2_with fail
     exact Zaa ⟨_,rfl,Below.refl _ _,rfl⟩
    ·obtain rfl:=Option.some.inj hi
     have dv1:f' 60 = .pointer (some ⟨w.heap.size,2,none⟩):=hdn 1 _ 60 rfl (hl3 1 (by rfl)) rfl;clear hdn hl3;rw[dv1];clear dv1 gs5 gs6 gs12;have c2:=(HCB.o w' hb.o).cell 2 _ rfl;refine Zab rfl ?_
     go_wp2_with fail
     exact Zaa ⟨_,rfl,Below.refl _ _,rfl⟩
    ·obtain rfl:=Option.some.inj hi
     have dv0:t5F (w.heap.size) (w.heap.size+1) ob w9.heap.size uo un uc us x0 x1 x2 x3 0 w' (f' 59):=hdn 0 _ 59 rfl (hl3 0 (by rfl)) rfl;obtain⟨V,dv0,hV⟩:=dv0;have dv2:f' 61 = .slice uo un uc:=hdn 2 _ 61 rfl (hl3 2 (by rfl)) rfl;clear hdn hl3;rw[dv0,dv2];clear dv0 dv2 gs5 gs6 gs12;have HV:=ħ hV;clear hV;have HUW:=ħ (HUF.o w' hb.o);refine Zab rfl ?_;refine Zzh Zbv 24 39 (.agg #[.int .i64 0,.int .i64 0,.int .i64 0,.int .i64 0]) 4 32 Tryz.underlying24 Zd9 rfl (by omega) (by omega) Zbh Zyn w' w9.heap.size rfl (.tmp 59) (.tmp 61) rfl ⟨V,0,none⟩ ?q1 HV.o hb.o.size uo un uc us ?q2 HUL.o HUW.o (by omega) ?_
     case q1=>rfl
     case q2=>rfl
     intro g5 off5 c5 wa o8 b8;have O8:=ħ o8;have B8:=ħ b8;clear o8 b8
     go_wp2_with fail
     exact Zaa ⟨_,rfl,B8.o,g5,off5,c5,rfl,O8.o⟩
    ·obtain rfl:=Option.some.inj hi
     clear hdn hl3;rw[gs6];clear gs5 gs6 gs12;have hx:=HXB.o w' hb.o;have p0:=hx.cell 0 _ rfl;have p1:=hx.cell 1 _ rfl;have p2:=hx.cell 2 _ rfl;have p3:=hx.cell 3 _ rfl;clear hx;refine Zab rfl ?_
     go_wp2_with fail
     exact Zaa ⟨_,rfl,Below.refl _ _,rfl⟩
    ·obtain rfl:=Option.some.inj hi
     have dv4:f' 63 = .agg #[.int .i64 x0,.int .i64 x1,.int .i64 x2,.int .i64 x3]:=hdn 4 _ 63 rfl (hl3 4 (by rfl)) rfl;clear hdn hl3;rw[dv4];clear dv4 gs5 gs6 gs12;have bx:=(Below.refl w'.heap.size w').alloc (Nat.le_refl _) (.cells #[.int .i64 x0,.int .i64 x1,.int .i64 x2,.int .i64 x3] 39);have HV:Hid (Zaf (w'.alloc (.cells #[.int .i64 x0,.int .i64 x1,.int .i64 x2,.int .i64 x3] 39)) w'.heap.size 39 [.int .i64 x0,.int .i64 x1,.int .i64 x2,.int .i64 x3]):=ħ (heap_alloc_new _ _);have BX:=ħ bx;clear bx;refine Zab rfl ?_
     go_wp2_with fail
     exact Zaa ⟨_,rfl,BX.o,w'.heap.size,rfl,HV.o⟩
    ·obtain rfl:=Option.some.inj hi
     clear hdn hl3;rw[gs12];clear gs5 gs6 gs12;refine Zab rfl ?_
     go_wp2_with fail
     exact Zaa ⟨_,rfl,Below.refl _ _,rfl⟩
   case hA =>
    intro listed a' w4 H hsn hall hstr;have hd3:t5F (w.heap.size) (w.heap.size+1) ob w9.heap.size uo un uc us x0 x1 x2 x3 3 w4 (a'.tmps.getD 62 undef):=H.done 3 _ 62 rfl (hall 3 (by decide)) rfl;have hd5:t5F (w.heap.size) (w.heap.size+1) ob w9.heap.size uo un uc us x0 x1 x2 x3 5 w4 (a'.tmps.getD 64 undef):=H.done 5 _ 64 rfl (hall 5 (by decide)) rfl;have hd7:t5F (w.heap.size) (w.heap.size+1) ob w9.heap.size uo un uc us x0 x1 x2 x3 7 w4 (a'.tmps.getD 66 undef):=H.done 7 _ 66 rfl hstr rfl;have hb4:=ħ H.below;have hact:=H.actX hsn [59,60,61,62,63,64,66] (Zko (by kernel_rfl));clear H hall hsn hstr;simp only[List.foldl_cons,List.foldl_nil] at hact;generalize a'.tmps.getD 59 undef=z59 at *;generalize a'.tmps.getD 60 undef=z60 at *;generalize a'.tmps.getD 61 undef=z61 at *;generalize a'.tmps.getD 62 undef=z62 at *;generalize a'.tmps.getD 63 undef=z63 at *;generalize a'.tmps.getD 64 undef=z64 at *;generalize a'.tmps.getD 66 undef=z66 at *;subst hact;obtain⟨g5,off5,c5,e3,hO5⟩:=hd3;subst e3;obtain⟨V,e5,hV⟩:=hd5;subst e5;have e7:z66 = .pointer (some ⟨ob,2,none⟩):=hd7;subst e7;clear hd7;simp only[Act.put,List.setIfInBounds_toArray,List.set_cons_succ,List.set_cons_zero];have HO5:=ħ hO5;have HV:=ħ hV;have S4:=ħ (S9.o.step hb4.o);have A4:=ħ (A9.o.trans (hb4.o.mono A9.o.size));have K4:=ħ hb4.o.size;clear hO5 hV hb4;refine (Zab rfl ?_);refine Zkx 24 39 (.agg #[.int .i64 0,.int .i64 0,.int .i64 0,.int .i64 0]) 4 32 Tryz.underlying24 Zd9 rfl (by omega) (by omega) w4 w9.heap.size rfl (.tmp 62) (.tmp 64) rfl (some ⟨g5,off5,none⟩) c5 un (us.flatMap Zbv) ?r1A HO5.o K4.o V 1 1 [.int .i64 x0,.int .i64 x1,.int .i64 x2,.int .i64 x3] 39 ?r2A HV.o rfl (by omega) ?r3A (by omega) ?_
    case r1A=>rfl
    case r2A=>rfl
    case r3A=>simp[Value.oneCell']
    intro g6 off6 c6 wq o6 b6;have O6:Hid (OwnK wq w9.heap.size 4 (un+1) c6 ((us++[(⟨x0,x1,x2,x3⟩:Use)]).flatMap Zbv) (some ⟨g6,off6,none⟩)):=ħ (by rw[List.flatMap_append];exact o6);have S6:=ħ (S4.o.below b6 Z9.o);have A6:=ħ (A4.o.trans (b6.mono A9.o.size));have HG6:Hid (w9.heap.size≤g6):=ħ (O6.o.blk_lt rfl).1;clear o6 b6 S4 A4 HO5 HV K4;have c8:=S6.o.cell 2 _ rfl;have f8:=S6.o.warm 2;have SZ:Hid (Zaf (wq.setCell ⟨ob,2,none⟩ (.slice (some ⟨g6,off6,none⟩) (un+1) c6)) ob 26 [.slice qo qn qc,.slice mo mn mc,.slice (some ⟨g6,off6,none⟩) (un+1) c6]):=ħ (S6.o.set 2 _)
    have OZ:=ħ (O6.o.setCell (p:=⟨ob,2,none⟩) (.slice (some ⟨g6,off6,none⟩) (un+1) c6) (fun e=>by
     have e:g6=ob:=Option.some.inj e;have:=HG6.o;have:=Z9.o
     omega))
    have AZ:=ħ (A6.o.setCell (p:=⟨ob,2,none⟩) (Nat.le_of_eq HOB.o) (.slice (some ⟨g6,off6,none⟩) (un+1) c6));clear S6 O6 A6
    go_wp2_with fail
    refine Zaa (Zap (Zab rfl ?_))
    go_wp2_with fail
    refine Zaa (Zbp ?_);clear c8 f8;generalize wq.setCell ⟨ob,2,none⟩ (.slice (some ⟨g6,off6,none⟩) (un+1) c6)=wz at *
    go_wp2_with fail
    go_meet
    case rel=>exact⟨g6,off6,c6,SZ,OZ,AZ⟩
   case hB =>
    intro listed a' w4 H hsn hall;have hd3:t5F (w.heap.size) (w.heap.size+1) ob w9.heap.size uo un uc us x0 x1 x2 x3 3 w4 (a'.tmps.getD 62 undef):=H.done 3 _ 62 rfl (hall 3 (by decide)) rfl;have hd5:t5F (w.heap.size) (w.heap.size+1) ob w9.heap.size uo un uc us x0 x1 x2 x3 5 w4 (a'.tmps.getD 64 undef):=H.done 5 _ 64 rfl (hall 5 (by decide)) rfl;have hb4:=ħ H.below;have hact:=H.actX hsn [59,60,61,62,63,64,66] (Zko (by kernel_rfl));clear H hall hsn;simp only[List.foldl_cons,List.foldl_nil] at hact;generalize a'.tmps.getD 59 undef=z59 at *;generalize a'.tmps.getD 60 undef=z60 at *;generalize a'.tmps.getD 61 undef=z61 at *;generalize a'.tmps.getD 62 undef=z62 at *;generalize a'.tmps.getD 63 undef=z63 at *;generalize a'.tmps.getD 64 undef=z64 at *;generalize a'.tmps.getD 66 undef=z66 at *;subst hact;obtain⟨g5,off5,c5,e3,hO5⟩:=hd3;subst e3;obtain⟨V,e5,hV⟩:=hd5;subst e5;simp only[Act.put,List.setIfInBounds_toArray,List.set_cons_succ,List.set_cons_zero];have HO5:=ħ hO5;have HV:=ħ hV;have S4:=ħ (S9.o.step hb4.o);have A4:=ħ (A9.o.trans (hb4.o.mono A9.o.size));have K4:=ħ hb4.o.size;clear hO5 hV hb4;refine Zap (Zab rfl ?_);refine Zkx 24 39 (.agg #[.int .i64 0,.int .i64 0,.int .i64 0,.int .i64 0]) 4 32 Tryz.underlying24 Zd9 rfl (by omega) (by omega) w4 w9.heap.size rfl (.tmp 62) (.tmp 64) rfl (some ⟨g5,off5,none⟩) c5 un (us.flatMap Zbv) ?r1B HO5.o K4.o V 1 1 [.int .i64 x0,.int .i64 x1,.int .i64 x2,.int .i64 x3] 39 ?r2B HV.o rfl (by omega) ?r3B (by omega) ?_
    case r1B=>rfl
    case r2B=>rfl
    case r3B=>simp[Value.oneCell']
    intro g6 off6 c6 wq o6 b6;have O6:Hid (OwnK wq w9.heap.size 4 (un+1) c6 ((us++[(⟨x0,x1,x2,x3⟩:Use)]).flatMap Zbv) (some ⟨g6,off6,none⟩)):=ħ (by rw[List.flatMap_append];exact o6);have S6:=ħ (S4.o.below b6 Z9.o);have A6:=ħ (A4.o.trans (b6.mono A9.o.size));have HG6:Hid (w9.heap.size≤g6):=ħ (O6.o.blk_lt rfl).1;clear o6 b6 S4 A4 HO5 HV K4;have c8:=S6.o.cell 2 _ rfl;have f8:=S6.o.warm 2;have SZ:Hid (Zaf (wq.setCell ⟨ob,2,none⟩ (.slice (some ⟨g6,off6,none⟩) (un+1) c6)) ob 26 [.slice qo qn qc,.slice mo mn mc,.slice (some ⟨g6,off6,none⟩) (un+1) c6]):=ħ (S6.o.set 2 _)
    have OZ:=ħ (O6.o.setCell (p:=⟨ob,2,none⟩) (.slice (some ⟨g6,off6,none⟩) (un+1) c6) (fun e=>by
     have e:g6=ob:=Option.some.inj e;have:=HG6.o;have:=Z9.o
     omega))
    have AZ:=ħ (A6.o.setCell (p:=⟨ob,2,none⟩) (Nat.le_of_eq HOB.o) (.slice (some ⟨g6,off6,none⟩) (un+1) c6));clear S6 O6 A6
    go_wp2_with fail
    refine Zaa (Zap (Zab rfl ?_))
    go_wp2_with fail
    refine Zaa (Zap (Zab rfl ?_))
    go_wp2_with fail
    refine Zaa (Zbp ?_);clear c8 f8;generalize wq.setCell ⟨ob,2,none⟩ (.slice (some ⟨g6,off6,none⟩) (un+1) c6)=wz at *
    go_wp2_with fail
    go_meet
    case rel=>exact⟨g6,off6,c6,SZ,OZ,AZ⟩
  case rest =>
   obtain⟨g6,off6,c6,SZ,OZ,AZ⟩:=hcut;generalize wc=wz at *;have BZ:=ħ (B4.o.trans (AZ.o.mono B4.o.size));have XZ:=ħ (X4.o.step AZ.o);have MZ:=ħ (M4.o.step AZ.o);have LZ:=ħ (Below.refl wz.heap.size wz);rw[← HUS.o] at OZ;have S5:=SZ;have HA1:=ħ (fun W (hW:Below wz.heap.size wz W)=>Zvq (HAG.o W (BZ.o.trans (hW.mono BZ.o.size))) (⟨x0,x1,x2,x3⟩:Use) (OZ.o.below hW) HUE.o.symm (by rw[HUE.o];omega));clear S9 A9 Z9 X9 L9 HCB HXB HUF OZ HOB SZ Y9 M9 HUL HUS X4 Y4 M4 L4;have O1:Hid (Zaf (wz.alloc (.cells #[.slice none 0 0,.slice none 0 0,.slice none 0 0] 26)) wz.heap.size 26 [.slice none 0 0,.slice none 0 0,.slice none 0 0]):=ħ (heap_alloc_new wz _);have BO:=ħ ((Below.refl wz.heap.size wz).alloc (Nat.le_refl _) (.cells #[.slice none 0 0,.slice none 0 0,.slice none 0 0] 26))
   go_upto_region 7 with (first | (refine wpList_load_row rfl 26 (.tmp 5) rfl (w.heap.size) ?xl9 26 #[.slice qo qn qc,.slice mo mn mc,.slice uo un uc] (0,0) _ XZ.o Tryz.underlying26 rfl (Zba _ _ _) ?_;(case xl9=>rfl)) | (refine Zau rfl 26 (.tmp 13) (.tmp 67) rfl wz.heap.size #[.slice qo qn qc,.slice mo mn mc,.slice uo un uc] (by rfl) (by rfl) 26 _ O1.o (Zba _ _ _) rfl (by simp[Value.oneCell']) ?_;intro w9 s9 u9;have S9:=ħ s9;have U9:=ħ u9;clear s9 u9))
   have A9:=ħ (U9.o.below BO.o (Nat.le_refl _));have S9:Hid (Zaf w9 wz.heap.size 26 [.slice qo qn qc,.slice mo mn mc,.slice uo un uc]):=ħ S9.o;have X9:=ħ (XZ.o.step A9.o);have L9:=ħ (LZ.o.trans (A9.o.mono LZ.o.size));have Z9:Hid (wz.heap.size<w9.heap.size):=ħ S9.o.lt;clear O1 BO U9;have M9:=ħ (MZ.o.step A9.o);have HCB:=ħ (fun W (hW:Below w9.heap.size w9 W)=>X9.o.step hW);have HXB:=ħ (fun W (hW:Below w9.heap.size w9 W)=>M9.o.step hW);obtain⟨hs,hfl,hhd⟩:=Zvu (HMF.o wz BZ.o);have HUF:=ħ (fun W (hW:Below w9.heap.size w9 W)=>hfl.below (A9.o.trans (hW.mono A9.o.size)));have HHY:=ħ hhd;have HFL:=ħ hfl;have HUL:Hid (mn=hs.length):=ħ (by rw[hhd.1];exact HME.o.symm);obtain⟨ob2,hob⟩:∃ n,wz.heap.size=n:=⟨_,rfl⟩;have HOB:=ħ hob;rw[hob] at S9 Z9 ⊢;clear hob hfl hhd;simp only[Act.put]
   go_cut [] from 68 to 75 (fun wx=>∃ g6 off6 c6,Hid (Zaf wx ob2 26 [.slice qo qn qc,.slice (some ⟨g6,off6,none⟩) (mn+1) c6,.slice uo un uc])∧Hid (OwnK wx w9.heap.size 3 (mn+1) c6 ((hs++[Zqq bo nb bc to' nt tc mr]).flatMap Zlg) (some ⟨g6,off6,none⟩))∧Hid (Below wz.heap.size wz wx))
   case first =>
    refine Zfc 6 (t7F (w.heap.size) (w.heap.size+2) ob2 w9.heap.size mo mn mc hs bo nb bc to' nt tc mr) (by kernel_rfl) rfl (Zyz (w.heap.size) (w.heap.size+2) ob2 w9.heap.size mo mn mc hs bo nb bc to' nt tc mr) (Zpl (by kernel_rfl)) (Zsv (by kernel_rfl)) (Zbg (by kernel_rfl)) (Zhm (by kernel_rfl)) (Zhm (by kernel_rfl)) ?hs ?hA ?hB
    case hs =>
     intro i o hin hi listed a' w' H hsn hl2;have hl3:=Zat hl2;have hb:=ħ H.below;have s5:=hsn 5 (Zd5 (by kernel_rfl));have s7:=hsn 7 (Zd5 (by kernel_rfl));have s13:=hsn 13 (Zd5 (by kernel_rfl));have hdn:=H.done;have hdf:=H.defers;have hts:=H.tsize;clear hl2 H hsn;obtain⟨t',df⟩:=a';obtain⟨f',rfl⟩:=Zv1 t' hts;have hdf':df=[]:=hdf;subst hdf';have gs5:f' 5 = .pointer (some ⟨w.heap.size,0,none⟩):=s5;have gs7:f' 7 = .pointer (some ⟨w.heap.size+2,0,none⟩):=s7;have gs13:f' 13 = .pointer (some ⟨ob2,0,none⟩):=s13;clear s5 s7 s13;clear hdf hts;have hcases:=Ziv i hin;clear hin;rcases hcases with rfl | rfl | rfl | rfl | rfl | rfl | rfl
     ·obtain rfl:=Option.some.inj hi
      clear hdn hl3;clear gs5 gs7 gs13;have bx:=(Below.refl w'.heap.size w').alloc (Nat.le_refl _) (.cells #[] 44);have HV:=ħ ((OwnK.made w' 44 3).lower hb.o.size);have BX:=ħ bx;clear bx;refine Zab rfl ?_
      go_wp2_with fail
      exact Zaa ⟨_,rfl,BX.o,w'.heap.size,rfl,HV.o⟩
     ·obtain rfl:=Option.some.inj hi
      clear hdn hl3;rw[gs5];clear gs5 gs7 gs13;refine Zab rfl ?_
      go_wp2_with fail
      exact Zaa ⟨_,rfl,Below.refl _ _,rfl⟩
     ·obtain rfl:=Option.some.inj hi
      have dv1:f' 69 = .pointer (some ⟨w.heap.size,1,none⟩):=hdn 1 _ 69 rfl (hl3 1 (by rfl)) rfl;clear hdn hl3;rw[dv1];clear dv1 gs5 gs7 gs13;have c1:=(HCB.o w' hb.o).cell 1 _ rfl;refine Zab rfl ?_
      go_wp2_with fail
      exact Zaa ⟨_,rfl,Below.refl _ _,rfl⟩
     ·obtain rfl:=Option.some.inj hi
      have dv0:t7F (w.heap.size) (w.heap.size+2) ob2 w9.heap.size mo mn mc hs bo nb bc to' nt tc mr 0 w' (f' 68):=hdn 0 _ 68 rfl (hl3 0 (by rfl)) rfl;obtain⟨V,dv0,hV⟩:=dv0;have dv2:f' 70 = .slice mo mn mc:=hdn 2 _ 70 rfl (hl3 2 (by rfl)) rfl;clear hdn hl3;rw[dv0,dv2];clear dv0 dv2 gs5 gs7 gs13;have HV:=ħ hV;clear hV;have HUW:=ħ (HUF.o w' hb.o);refine Zab rfl ?_;refine Zzh Zlg 23 44 (.agg #[.slice none 0 0,.slice none 0 0,.int .i64 0]) 3 56 Tryz.underlying23 Zgf rfl (by omega) (by omega) Zb7 Zqp w' w9.heap.size rfl (.tmp 68) (.tmp 70) rfl ⟨V,0,none⟩ ?q1 HV.o hb.o.size mo mn mc hs ?q2 HUL.o HUW.o (by omega) ?_
      case q1=>rfl
      case q2=>rfl
      intro g5 off5 c5 wa o8 b8;have O8:=ħ o8;have B8:=ħ b8;clear o8 b8
      go_wp2_with fail
      exact Zaa ⟨_,rfl,B8.o,g5,off5,c5,rfl,O8.o⟩
     ·obtain rfl:=Option.some.inj hi
      clear hdn hl3;rw[gs7];clear gs5 gs7 gs13;have hx:=HXB.o w' hb.o;have p0:=hx.cell 0 _ rfl;have p1:=hx.cell 1 _ rfl;have p2:=hx.cell 2 _ rfl;clear hx;refine Zab rfl ?_
      go_wp2_with fail
      exact Zaa ⟨_,rfl,Below.refl _ _,rfl⟩
     ·obtain rfl:=Option.some.inj hi
      have dv4:f' 72 = .agg #[.slice bo nb bc,.slice to' nt tc,.int .i64 mr]:=hdn 4 _ 72 rfl (hl3 4 (by rfl)) rfl;clear hdn hl3;rw[dv4];clear dv4 gs5 gs7 gs13;have bx:=(Below.refl w'.heap.size w').alloc (Nat.le_refl _) (.cells #[.slice bo nb bc,.slice to' nt tc,.int .i64 mr] 44);have HV:Hid (Zaf (w'.alloc (.cells #[.slice bo nb bc,.slice to' nt tc,.int .i64 mr] 44)) w'.heap.size 44 [.slice bo nb bc,.slice to' nt tc,.int .i64 mr]):=ħ (heap_alloc_new _ _);have BX:=ħ bx;clear bx;refine Zab rfl ?_
      go_wp2_with fail
      exact Zaa ⟨_,rfl,BX.o,w'.heap.size,rfl,HV.o⟩
     ·obtain rfl:=Option.some.inj hi
      clear hdn hl3;rw[gs13];clear gs5 gs7 gs13;refine Zab rfl ?_
      go_wp2_with fail
      exact Zaa ⟨_,rfl,Below.refl _ _,rfl⟩
    case hA =>
     intro listed a' w4 H hsn hall hstr;have hd3:t7F (w.heap.size) (w.heap.size+2) ob2 w9.heap.size mo mn mc hs bo nb bc to' nt tc mr 3 w4 (a'.tmps.getD 71 undef):=H.done 3 _ 71 rfl (hall 3 (by decide)) rfl;have hd5:t7F (w.heap.size) (w.heap.size+2) ob2 w9.heap.size mo mn mc hs bo nb bc to' nt tc mr 5 w4 (a'.tmps.getD 73 undef):=H.done 5 _ 73 rfl (hall 5 (by decide)) rfl;have hd7:t7F (w.heap.size) (w.heap.size+2) ob2 w9.heap.size mo mn mc hs bo nb bc to' nt tc mr 7 w4 (a'.tmps.getD 75 undef):=H.done 7 _ 75 rfl hstr rfl;have hb4:=ħ H.below;have hact:=H.actX hsn [68,69,70,71,72,73,75] (Zko (by kernel_rfl));clear H hall hsn hstr;simp only[List.foldl_cons,List.foldl_nil] at hact;generalize a'.tmps.getD 68 undef=z68 at *;generalize a'.tmps.getD 69 undef=z69 at *;generalize a'.tmps.getD 70 undef=z70 at *;generalize a'.tmps.getD 71 undef=z71 at *;generalize a'.tmps.getD 72 undef=z72 at *;generalize a'.tmps.getD 73 undef=z73 at *;generalize a'.tmps.getD 75 undef=z75 at *;subst hact;obtain⟨g5,off5,c5,e3,hO5⟩:=hd3;subst e3;obtain⟨V,e5,hV⟩:=hd5;subst e5;have e7:z75 = .pointer (some ⟨ob2,1,none⟩):=hd7;subst e7;clear hd7;simp only[Act.put,List.setIfInBounds_toArray,List.set_cons_succ,List.set_cons_zero];have HO5:=ħ hO5;have HV:=ħ hV;have S4:=ħ (S9.o.step hb4.o);have A4:=ħ (A9.o.trans (hb4.o.mono A9.o.size));have K4:=ħ hb4.o.size;clear hO5 hV hb4;refine (Zab rfl ?_);refine Zkx 23 44 (.agg #[.slice none 0 0,.slice none 0 0,.int .i64 0]) 3 56 Tryz.underlying23 Zgf rfl (by omega) (by omega) w4 w9.heap.size rfl (.tmp 71) (.tmp 73) rfl (some ⟨g5,off5,none⟩) c5 mn (hs.flatMap Zlg) ?r1A HO5.o K4.o V 1 1 [.slice bo nb bc,.slice to' nt tc,.int .i64 mr] 44 ?r2A HV.o rfl (by omega) ?r3A (by omega) ?_
     case r1A=>rfl
     case r2A=>rfl
     case r3A=>simp[Value.oneCell']
     intro g6 off6 c6 wq o6 b6;have O6:Hid (OwnK wq w9.heap.size 3 (mn+1) c6 ((hs++[Zqq bo nb bc to' nt tc mr]).flatMap Zlg) (some ⟨g6,off6,none⟩)):=ħ (by rw[List.flatMap_append];exact o6);have S6:=ħ (S4.o.below b6 Z9.o);have A6:=ħ (A4.o.trans (b6.mono A9.o.size));have HG6:Hid (w9.heap.size≤g6):=ħ (O6.o.blk_lt rfl).1;clear o6 b6 S4 A4 HO5 HV K4;have c8:=S6.o.cell 1 _ rfl;have f8:=S6.o.warm 1;have SZ:Hid (Zaf (wq.setCell ⟨ob2,1,none⟩ (.slice (some ⟨g6,off6,none⟩) (mn+1) c6)) ob2 26 [.slice qo qn qc,.slice (some ⟨g6,off6,none⟩) (mn+1) c6,.slice uo un uc]):=ħ (S6.o.set 1 _)
     have OZ:=ħ (O6.o.setCell (p:=⟨ob2,1,none⟩) (.slice (some ⟨g6,off6,none⟩) (mn+1) c6) (fun e=>by
      have e:g6=ob2:=Option.some.inj e;have:=HG6.o;have:=Z9.o
      omega))
     have AZ:=ħ (A6.o.setCell (p:=⟨ob2,1,none⟩) (Nat.le_of_eq HOB.o) (.slice (some ⟨g6,off6,none⟩) (mn+1) c6));clear S6 O6 A6
     go_wp2_with fail
     refine Zaa (Zap (Zab rfl ?_))
     go_wp2_with fail
     refine Zaa (Zbp ?_);clear c8 f8;generalize wq.setCell ⟨ob2,1,none⟩ (.slice (some ⟨g6,off6,none⟩) (mn+1) c6)=wz at *
     go_wp2_with fail
     go_meet
     case rel=>exact⟨g6,off6,c6,SZ,OZ,AZ⟩
    case hB =>
     intro listed a' w4 H hsn hall;have hd3:t7F (w.heap.size) (w.heap.size+2) ob2 w9.heap.size mo mn mc hs bo nb bc to' nt tc mr 3 w4 (a'.tmps.getD 71 undef):=H.done 3 _ 71 rfl (hall 3 (by decide)) rfl;have hd5:t7F (w.heap.size) (w.heap.size+2) ob2 w9.heap.size mo mn mc hs bo nb bc to' nt tc mr 5 w4 (a'.tmps.getD 73 undef):=H.done 5 _ 73 rfl (hall 5 (by decide)) rfl;have hb4:=ħ H.below;have hact:=H.actX hsn [68,69,70,71,72,73,75] (Zko (by kernel_rfl));clear H hall hsn;simp only[List.foldl_cons,List.foldl_nil] at hact;generalize a'.tmps.getD 68 undef=z68 at *;generalize a'.tmps.getD 69 undef=z69 at *;generalize a'.tmps.getD 70 undef=z70 at *;generalize a'.tmps.getD 71 undef=z71 at *;generalize a'.tmps.getD 72 undef=z72 at *;generalize a'.tmps.getD 73 undef=z73 at *;generalize a'.tmps.getD 75 undef=z75 at *;subst hact;obtain⟨g5,off5,c5,e3,hO5⟩:=hd3;subst e3;obtain⟨V,e5,hV⟩:=hd5;subst e5;simp only[Act.put,List.setIfInBounds_toArray,List.set_cons_succ,List.set_cons_zero];have HO5:=ħ hO5;have HV:=ħ hV;have S4:=ħ (S9.o.step hb4.o);have A4:=ħ (A9.o.trans (hb4.o.mono A9.o.size));have K4:=ħ hb4.o.size;clear hO5 hV hb4;refine Zap (Zab rfl ?_);refine Zkx 23 44 (.agg #[.slice none 0 0,.slice none 0 0,.int .i64 0]) 3 56 Tryz.underlying23 Zgf rfl (by omega) (by omega) w4 w9.heap.size rfl (.tmp 71) (.tmp 73) rfl (some ⟨g5,off5,none⟩) c5 mn (hs.flatMap Zlg) ?r1B HO5.o K4.o V 1 1 [.slice bo nb bc,.slice to' nt tc,.int .i64 mr] 44 ?r2B HV.o rfl (by omega) ?r3B (by omega) ?_
     case r1B=>rfl
     case r2B=>rfl
     case r3B=>simp[Value.oneCell']
     intro g6 off6 c6 wq o6 b6;have O6:Hid (OwnK wq w9.heap.size 3 (mn+1) c6 ((hs++[Zqq bo nb bc to' nt tc mr]).flatMap Zlg) (some ⟨g6,off6,none⟩)):=ħ (by rw[List.flatMap_append];exact o6);have S6:=ħ (S4.o.below b6 Z9.o);have A6:=ħ (A4.o.trans (b6.mono A9.o.size));have HG6:Hid (w9.heap.size≤g6):=ħ (O6.o.blk_lt rfl).1;clear o6 b6 S4 A4 HO5 HV K4;have c8:=S6.o.cell 1 _ rfl;have f8:=S6.o.warm 1;have SZ:Hid (Zaf (wq.setCell ⟨ob2,1,none⟩ (.slice (some ⟨g6,off6,none⟩) (mn+1) c6)) ob2 26 [.slice qo qn qc,.slice (some ⟨g6,off6,none⟩) (mn+1) c6,.slice uo un uc]):=ħ (S6.o.set 1 _)
     have OZ:=ħ (O6.o.setCell (p:=⟨ob2,1,none⟩) (.slice (some ⟨g6,off6,none⟩) (mn+1) c6) (fun e=>by
      have e:g6=ob2:=Option.some.inj e;have:=HG6.o;have:=Z9.o
      omega))
     have AZ:=ħ (A6.o.setCell (p:=⟨ob2,1,none⟩) (Nat.le_of_eq HOB.o) (.slice (some ⟨g6,off6,none⟩) (mn+1) c6));clear S6 O6 A6
     go_wp2_with fail
     refine Zaa (Zap (Zab rfl ?_))
     go_wp2_with fail
     refine Zaa (Zap (Zab rfl ?_))
     go_wp2_with fail
     refine Zaa (Zbp ?_);clear c8 f8;generalize wq.setCell ⟨ob2,1,none⟩ (.slice (some ⟨g6,off6,none⟩) (mn+1) c6)=wz at *
     go_wp2_with fail
     go_meet
     case rel=>exact⟨g6,off6,c6,SZ,OZ,AZ⟩
   case rest =>
    obtain⟨g7,off7,c7,SM,OM,AM⟩:=hcut;generalize wc=wy at *;have BY:=ħ (BZ.o.trans (AM.o.mono BZ.o.size));have XY:=ħ (XZ.o.step AM.o);have MY:=ħ (MZ.o.step AM.o);have SU:=ħ (S5.o.step AM.o);have HA1:=ħ (fun W (hW:Below wy.heap.size wy W)=>HA1.o W (AM.o.trans (hW.mono AM.o.size)));have HMO2:=ħ (HAG.o wy BY.o).ok.m;have HMR:=ħ (Zny (OM.o.flatR Zb7 (by rw[List.length_append,← HUL.o];rfl)) ((HHY.o.mem AM.o).append (HdR.one (v:=Zqq bo nb bc to' nt tc mr) (HMC.o wy BY.o))))
    have HA2:=ħ (fun W (hW:Below wy.heap.size wy W)=>Znz (HAG.o W (BY.o.trans (hW.mono BY.o.size))) (HMR.o.below hW) (n:=mn+1) (xc:=c7) (by rw[List.length_append,HME.o];rfl) (fun x hx=>by
     rcases List.mem_append.1 hx with h | h
     ·exact HMO2.o x h
     ·rw[List.mem_singleton] at h;rw[h];exact HMO.o) (by rw[List.length_append,HME.o];show mn+1≤_;omega))
    have HFY:=ħ (fun W (hW:Below wy.heap.size wy W)=>HFL.o.below (AM.o.trans (hW.mono AM.o.size)));have HHY:=ħ (HHY.o.mem AM.o);have LY:=ħ (Below.refl wy.heap.size wy);clear S9 A9 Z9 X9 L9 HCB HXB HUF OM HOB HMR XZ MZ LZ M9 HFL S5 BZ AM;have O1:Hid (Zaf (wy.alloc (.cells #[.slice none 0 0,.slice none 0 0,.slice none 0 0] 26)) wy.heap.size 26 [.slice none 0 0,.slice none 0 0,.slice none 0 0]):=ħ (heap_alloc_new wy _);have BO:=ħ ((Below.refl wy.heap.size wy).alloc (Nat.le_refl _) (.cells #[.slice none 0 0,.slice none 0 0,.slice none 0 0] 26))
    go_upto_region 9 with (first | (refine wpList_load_row rfl 26 (.tmp 5) rfl (w.heap.size) ?xl9 26 #[.slice qo qn qc,.slice mo mn mc,.slice uo un uc] (0,0) _ XY.o Tryz.underlying26 rfl (Zba _ _ _) ?_;(case xl9=>rfl)) | (refine Zau rfl 26 (.tmp 14) (.tmp 76) rfl wy.heap.size #[.slice qo qn qc,.slice mo mn mc,.slice uo un uc] (by rfl) (by rfl) 26 _ O1.o (Zba _ _ _) rfl (by simp[Value.oneCell']) ?_;intro w9 s9 u9;have S9:=ħ s9;have U9:=ħ u9;clear s9 u9))
    have A9:=ħ (U9.o.below BO.o (Nat.le_refl _));have S9:Hid (Zaf w9 wy.heap.size 26 [.slice qo qn qc,.slice mo mn mc,.slice uo un uc]):=ħ S9.o;have X9:=ħ (XY.o.step A9.o);have L9:=ħ (LY.o.trans (A9.o.mono LY.o.size));have Z9:Hid (wy.heap.size<w9.heap.size):=ħ S9.o.lt;clear O1 BO U9;have BE:=ħ ((Below.refl w9.heap.size w9).alloc (Nat.le_refl _) (.cells #[] 44));have XE:=ħ (X9.o.step BE.o);have SE:=ħ (S9.o.step BE.o);have c1:=XE.o.cell 1 _ rfl;have OE:=ħ (OwnK.made w9 44 3);have FE:=ħ (HFY.o _ (A9.o.trans (BE.o.mono A9.o.size)));have KE:=BE.o.size;obtain⟨ob3,hob⟩:∃ n,wy.heap.size=n:=⟨_,rfl⟩;have HOB:=ħ hob;rw[hob] at S9 Z9 SE ⊢;clear hob
    go_upto_region 10 with (at_builtin;refine Zzg Zlg 23 44 (.agg #[.slice none 0 0,.slice none 0 0,.int .i64 0]) 3 56 Tryz.underlying23 Zgf rfl (by omega) (by omega) Zb7 Zqp (w9.alloc (.cells #[] 44)) w9.heap.size rfl (.tmp 77) (.tmp 79) rfl ⟨w9.heap.size,0,none⟩ 0 ?q1 OE.o KE mo mn mc hs ?q2 HUL.o FE.o (by omega) ?_;(case q1=>rfl);(case q2=>rfl);intro g8 off8 c8 wq o8 b8;have O8:=ħ o8;have S8:=ħ (SE.o.below b8 Z9.o);have k8:=S8.o.cell 1 _ rfl;have f8:=S8.o.warm 1;have B8:=ħ b8;clear o8 b8)
    have SZ:Hid (Zaf (wq.setCell ⟨ob3,1,none⟩ (.slice (some ⟨g8,off8,none⟩) mn c8)) ob3 26 [.slice qo qn qc,.slice (some ⟨g8,off8,none⟩) mn c8,.slice uo un uc]):=ħ (S8.o.set 1 _);have HG8:Hid (w9.heap.size≤g8):=ħ (O8.o.blk_lt rfl).1
    have OZ:=ħ (O8.o.setCell (p:=⟨ob3,1,none⟩) (.slice (some ⟨g8,off8,none⟩) mn c8) (fun e=>by
     have e:g8=ob3:=Option.some.inj e;have:=HG8.o;have:=Z9.o
     omega))
    have AZ:=ħ ((A9.o.trans ((BE.o.trans B8.o).mono A9.o.size)).setCell (p:=⟨ob3,1,none⟩) (Nat.le_of_eq HOB.o) (.slice (some ⟨g8,off8,none⟩) mn c8));have HGO:Hid (ob3<g8∧wy.heap.size≤g8):=ħ ⟨by have:=HG8.o;have:=Z9.o;omega,by have:=HG8.o;have:=Z9.o;have:=HOB.o;omega⟩;clear S8 O8 B8 k8 f8 OE SE XE FE BE KE c1 S9 X9 L9 A9 HG8;generalize wq.setCell ⟨ob3,1,none⟩ (.slice (some ⟨g8,off8,none⟩) mn c8)=wt at *;have BT:=ħ (BY.o.trans (AZ.o.mono BY.o.size));have XT:=ħ (XY.o.step AZ.o);clear Z9 LY HOB;obtain⟨hmm,hmm2,ecv,ecm⟩:=HEC.o
    have hyj:¬ ((mn:Nat):Int)=0:=by omega
    have c1:=XT.o.cell 1 _ rfl
    go_upto_region 11 with (fail)
    clear hmm hmm2 ecv ecm hyj c1 HEC;obtain⟨mk,hmk⟩:=HKM.o;obtain⟨gm,om,csk,hmo,hgm,hmck,hrm⟩:=(HMF.o wt BT.o).at k mk hmk;have HMK:=ħ hmk;have HMCK:=ħ hmck;obtain⟨kbo,kbc,kto,ktc,rfl,hkb,hkt⟩:=hmck;have HVM:=ħ (Zhr ((Zar HVV.o).2.2.2.2.1 mk (List.mem_of_getElem? hmk)));have hklen:=HVM.o.2;obtain⟨tl,htl⟩:∃ l,mk.t=l:=⟨_,rfl⟩;have HTL:=ħ htl;rw[htl] at hkt hrm HMCK HVM hklen;obtain⟨tn,htn⟩:∃ n,tl.length=n:=⟨_,rfl⟩;rw[htn] at hrm HMCK hklen;have HTN:=ħ htn.symm;have hs1:=hrm 1 _ rfl;have BE:=ħ ((Below.refl wt.heap.size wt).alloc (Nat.le_refl _) (.cells #[] 3));have XE:=ħ (XT.o.step BE.o);have c1:=XE.o.cell 1 _ rfl;have r1:=(BE.o.cell (p:=⟨gm,om+k*3+1,none⟩) hgm).trans hs1;have OE:=ħ (OwnK.made wt 3 1);have FE:=ħ (hkt.below BE.o);have KE:=BE.o.size
    have kk:(k:Int)<mn:=by omega
    rw[hmo] at c1;clear hmk htl htn hrm hs1 hgm hkb hkt
    go_upto_region 12 with (at_builtin;refine Zzg Za9 33 3 (.int .i64 0) 1 8 Tryz.underlying33 Zbu rfl (by omega) (by omega) Zbb Zyo (wt.alloc (.cells #[] 3)) wt.heap.size rfl (.tmp 88) (.tmp 94) rfl ⟨wt.heap.size,0,none⟩ 0 ?q3 OE.o KE kto tn ktc tl ?q4 HTN.o FE.o (by omega) ?_;(case q3=>rfl);(case q4=>rfl);intro gt ot ck wq o9 b9;have O9:=ħ o9;have B9:=ħ b9;clear o9 b9)
    have BQ:=ħ (BE.o.trans B9.o);have HGT:Hid (wt.heap.size≤gt):=ħ (O9.o.blk_lt rfl).1;have O0:Hid (OwnK wq wt.heap.size 1 tn ck ((Zoa tl wd 0).flatMap Za9) (some ⟨gt,ot,none⟩)):=ħ (by rw[Zvx];exact O9.o);clear BE XE c1 r1 OE FE KE kk hmo B9 O9;have HGV:=ħ (fun i (hi:i<tn)=>(⟨_,List.getElem?_eq_getElem (by rw[← HTN.o];exact hi)⟩:∃ x,tl[i]?=some x));have HVT:=ħ (fun (i:Nat) (x:Int) (h:tl[i]?=some x)=>HVM.o.1 x (List.mem_of_getElem? h));have HXT:=ħ (fun W (hW:Below wt.heap.size wt W)=>XT.o.step hW);clear HVM
    go_upto_region 13 with (fail)
    go_loopw [17] (fun iv wr=>∃ (i:Nat),iv = .int .i64 i∧i≤tn∧Hid (OwnK wr wt.heap.size 1 tn ck ((Zoa tl wd i).flatMap Za9) (some ⟨gt,ot,none⟩))∧Hid (Below wt.heap.size wt wr)) (fun i _=>(tn-intOf i).toNat)
    case atStart=>exact⟨0,rfl,by omega,O0,BQ⟩
    case round =>
     clear O0 BQ;obtain⟨i,rfl,hi,OR,BR⟩:=hrel;have e2:IntKind.i64.wrap ((i:Int)+1)=((i+1:Nat):Int):=IntWalk.i64_in _ (by omega);have ew:=HEW.o;by_cases hin:i<tn
     ·have ii:(i:Int)<tn:=by omega
      obtain⟨t,ht⟩:=HGV.o i hin;have hti:=HVT.o i t ht;by_cases hiw:i=wd
      ·subst hiw
       have he:(((i:Nat):Int)==((i:Nat):Int))=true:=by simp
       have OR2:Hid (OwnK wr wt.heap.size 1 tn ck (tl.flatMap Za9) (some ⟨gt,ot,none⟩)):=ħ (by have:=OR.o;rwa [Zvy] at this);obtain⟨r1,f1,-⟩:=OR2.o.intAt ht;by_cases hx:t<4096
       ·have e3:IntKind.i64.wrap (t+1)=t+1:=IntWalk.i64_in _ (by omega)
        have OS:Hid (OwnK (wr.setCell ⟨gt,ot+i,none⟩ (.int .i64 (t+1))) wt.heap.size 1 tn ck ((Zoa tl i (i+1)).flatMap Za9) (some ⟨gt,ot,none⟩)):=ħ (by
         rw[Zvz ht hx]
         exact OR2.o.intSet (by rw[← HTN.o];exact hin) _)
        have BS:=ħ (BR.o.setCell (p:=⟨gt,ot+i,none⟩) HGT.o (.int .i64 (t+1)));clear OR OR2 BR ht
        go_wp2_with fail
        go_roundw
        case rel=>exact⟨i+1,by go_num,by omega,OS,BS⟩
        case measure=>simp only[intOf];omega
       ·have OS:Hid (OwnK wr wt.heap.size 1 tn ck ((Zoa tl i (i+1)).flatMap Za9) (some ⟨gt,ot,none⟩)):=ħ (by rw[Zv0 ht hx];exact OR2.o)
        clear OR OR2 ht
        go_wp2_with fail
        go_roundw
        case rel=>exact⟨i+1,by go_num,by omega,OS,BR⟩
        case measure=>simp only[intOf];omega
      ·have he:(((i:Nat):Int)==((wd:Nat):Int))=false:=by
        rw[beq_eq_false_iff_ne];omega
       have OS:Hid (OwnK wr wt.heap.size 1 tn ck ((Zoa tl wd (i+1)).flatMap Za9) (some ⟨gt,ot,none⟩)):=ħ (by rw[Zr5 hiw];exact OR.o);clear OR ht
       go_wp2_with fail
       go_roundw
       case rel=>exact⟨i+1,by go_num,by omega,OS,BR⟩
       case measure=>simp only[intOf];omega
     ·have ii:¬ (i:Int)<tn:=by omega
      obtain rfl:tn=i:=by omega
      clear e2 ew;have OT:Hid (OwnK wr wt.heap.size 1 tn ck ((Zen tl wd).flatMap Za9) (some ⟨gt,ot,none⟩)):=ħ (by have:=OR.o;rw[HTN.o,Zyx] at this;rw[HTN.o];exact this);have SR:=ħ (SZ.o.step BR.o);have OC:=ħ (OZ.o.below BR.o);have XR:=ħ (HXT.o wr BR.o);obtain⟨hsk,hhk⟩:∃ x,hs[k]?=some x:=⟨_,List.getElem?_eq_getElem (by rw[← HUL.o];exact hkl)⟩;have HHK:=ħ hhk;obtain⟨oc1,oc2,oc3,oc4⟩:=OC.o.setCel hhk 1 (by decide) (.slice (some ⟨gt,ot,none⟩) tn ck) (by simp[Value.oneCell']);have OC1:=ħ oc1;have c1:=SR.o.cell 1 _ rfl
      have kk:(k:Int)<mn:=by omega
      clear oc1 oc3 hhk OR
      go_upto_region 18 with (fail)
      clear c1 kk oc2 oc4 ii;have SV:=ħ (SR.o.off (p:=⟨g8,off8+k*3+1,none⟩) (fun e=>by have e:ob3=g8:=e;have:=HGO.o;omega) (.slice (some ⟨gt,ot,none⟩) tn ck))
      have OTV:=ħ (OT.o.setCell (p:=⟨g8,off8+k*3+1,none⟩) (.slice (some ⟨gt,ot,none⟩) tn ck) (fun e=>by
       have e:gt=g8:=Option.some.inj e;have:=HGT.o;have q:g8<wt.heap.size:=(OZ.o.blk_lt rfl).2
       omega))
      have AV:=ħ ((AZ.o.trans (BR.o.mono AZ.o.size)).setCell (p:=⟨g8,off8+k*3+1,none⟩) HGO.o.2 (.slice (some ⟨gt,ot,none⟩) tn ck));clear SR OC XR OT BR SZ OZ HXT HGV HVT HGT HGO HEW;generalize wr.setCell ⟨g8,off8+k*3+1,none⟩ (.slice (some ⟨gt,ot,none⟩) tn ck)=wv at *;have BV:=ħ (BY.o.trans (AV.o.mono BY.o.size));have XV:=ħ (XY.o.step AV.o);have MV:=ħ (MY.o.step AV.o);have SUV:=ħ (SU.o.step AV.o);have SMV:=ħ (SM.o.step AV.o);have HA1:=ħ (fun W (hW:Below wv.heap.size wv W)=>HA1.o W (AV.o.trans (hW.mono AV.o.size)));have HA2:=ħ (fun W (hW:Below wv.heap.size wv W)=>HA2.o W (AV.o.trans (hW.mono AV.o.size)));have HHV:=ħ (HHY.o.mem AV.o)
      have HKC:Hid (Zjw wv (Zvr mk wd) (Z2p hsk 1 (.slice (some ⟨gt,ot,none⟩) tn ck) (by simp[Value.oneCell'])).1):=ħ (by
       obtain⟨abo,abc,ato,atc,e5,e6,-⟩:=HHV.o.2 k mk hsk HMK.o HHK.o
       refine⟨abo,abc,some ⟨gt,ot,none⟩,ck,?_,e6,by
        show Zal Za9 wv _ (Zen mk.t wd);rw[HTL.o]
        exact OTV.o.flatR Zbb (by rw[Zge,← HTN.o])⟩
       show hsk.1.set 1 _=[_,.slice _ (Zen mk.t wd).length _,_]
       rw[e5,HTL.o,Zge,← HTN.o];rfl)
      have HMD:Hid (c.ms.getD k ⟨[],[],0⟩=mk):=ħ (by rw[List.getD_eq_getElem?_getD,HMK.o];rfl);have HMR:=ħ (Zny (OC1.o.flatR Zb7 (by rw[List.length_set,← HUL.o])) (HHV.o.set k HKC.o))
      have HA3:Hid (∀ W,Below wv.heap.size wv W→ArgC W (Zr3 c k wd) [.slice qo qn qc,.slice (some ⟨g8,off8,none⟩) mn c8,.slice uo un uc] B):=ħ (fun W hW=>by
       unfold Zr3;rw[HMD.o]
       exact Znz (HAG.o W (BV.o.trans (hW.mono BV.o.size))) (HMR.o.below hW) (n:=mn) (xc:=c8) (by rw[List.length_set];exact HME.o.symm) (fun x hx=>by
        rcases List.mem_or_eq_of_mem_set hx with h | h
        ·exact HMO2.o x h
        ·rw[h];exact Z1w (HMO2.o mk (List.mem_of_getElem? HMK.o)) wd) (by rw[List.length_set,HME.o];omega))
      clear HMR HMD HKC HHV OTV OC1 HHK AV AZ XY MY SU SM BY BT XT HHY HFY HMCK HTL HTN HMK HKM HUL hklen HMC HMO HMO2 HCW HMF;have HS0:=ħ (fun W (hW:Below wv.heap.size wv W)=>HST.o W _ _ (HAG.o W (BV.o.trans (hW.mono BV.o.size))));have HS1:=ħ (fun W (hW:Below wv.heap.size wv W)=>HST.o W _ _ (HA1.o W hW));have HS2:=ħ (fun W (hW:Below wv.heap.size wv W)=>HST.o W _ _ (HA2.o W hW));have HS3:=ħ (fun W (hW:Below wv.heap.size wv W)=>HST.o W _ _ (HA3.o W hW));have HC0:=ħ (fun W (hW:Below wv.heap.size wv W)=>HCT.o W _ _ (HAG.o W (BV.o.trans (hW.mono BV.o.size))));have HC2:=ħ (fun W (hW:Below wv.heap.size wv W)=>HCT.o W _ _ (HA2.o W hW));have HC3:=ħ (fun W (hW:Below wv.heap.size wv W)=>HCT.o W _ _ (HA3.o W hW));have HV1:=ħ (fun W (hW:Below wv.heap.size wv W)=>HVW.o W _ _ (HA1.o W hW));have HV2:=ħ (fun W (hW:Below wv.heap.size wv W)=>HVW.o W _ _ (HA2.o W hW));change Hid (∀ W,Below wv.heap.size wv W→Calls Tryz.prog 24 #[.agg #[.slice qo qn qc,.slice (some ⟨g7,off7,none⟩) (mn+1) c7,.slice uo un uc]] W fun e w'=>Below W.heap.size W w'∧∃ o cap,e = .returned (.slice o (Zas (Zn9 c m)).length cap)∧Zey w' (Zas (Zn9 c m)) o∧(Zas (Zn9 c m)).length≤cap) at HS2;change Hid (∀ W,Below wv.heap.size wv W→Calls Tryz.prog 22 #[.agg #[.slice qo qn qc,.slice (some ⟨g7,off7,none⟩) (mn+1) c7,.slice uo un uc]] W fun e w'=>e = .returned (.tuple #[.int .i64 (((Zbc (Zn9 c m)).1:Nat):Int),.int .i64 (((Zbc (Zn9 c m)).2:Nat):Int)])∧Below W.heap.size W w') at HC2;change Hid (∀ W,Below wv.heap.size wv W→Calls Tryz.prog 20 #[.agg #[.slice qo qn qc,.slice (some ⟨g7,off7,none⟩) (mn+1) c7,.slice uo un uc]] W fun e w'=>e = .returned (.bool (Zak (Zn9 c m)))∧Below W.heap.size W w') at HV2;clear HST HCT HVW HA1 HA2 HA3
      have h64:∀ c',Zak c'=true→∀ r∈Zas c',r.length≤64:=fun c' hv r hr=>Nat.le_trans (Zyw hv r hr) (Zar hv).2.1
      have HRL:Hid (∀ c',∀ r∈Zas c',r.length≤64):=ħ (fun c' r hr=>by
       by_cases hv:Zak c'=true
       ·exact h64 c' hv r hr
       ·unfold Zas at hr
        rw[if_neg hv] at hr
        cases hr)
      have hl0:=HRL.o c;have hl1:=HRL.o (Zaw c (⟨x0,x1,x2,x3⟩:Use));have hl2:=HRL.o (Zn9 c m);have hl3:=HRL.o (Zr3 c k wd);obtain⟨pn,pd,poc,po2,ple,pa1,pa0,pb,psa,psd,psb⟩:=HP0.o;clear h64 HRL HP0;generalize Zas c=L at *;generalize Zas (Zaw c (⟨x0,x1,x2,x3⟩:Use))=LA at *;generalize Zas (Zn9 c m)=LB at *;generalize Zas (Zr3 c k wd)=LD at *;generalize (Zbc c).1=n0 at *;generalize (Zbc c).2=e0 at *;generalize (Zbc (Zr3 c k wd)).1=n3 at *;generalize (Zbc (Zr3 c k wd)).2=e3 at *;generalize (Zbc (Zn9 c m)).1=n2 at *;generalize (Zbc (Zn9 c m)).2=e2 at *;generalize Zak (Zaw c (⟨x0,x1,x2,x3⟩:Use))=vm at *;generalize Zak (Zn9 c m)=vl at *;rw[pn] at HS0;rw[pd] at HS3;generalize hla:LA.length=la at *;generalize hlb:LB.length=lb at *;have HLA:=ħ hla;have HLB:=ħ hlb;have HPN:=ħ pn;have HPD:=ħ pd;have HPA1:=ħ pa1;have HPA0:=ħ pa0;have HPB:=ħ pb;have HPSA:=ħ psa;have HPSD:=ħ psd;have HPSB:=ħ psb;have HL0:=ħ hl0;have HL1:=ħ hl1;have HL2:=ħ hl2;have HL3:=ħ hl3
      have he0:(((e0:Nat):Int) != 0)=false:=by rw[poc];rfl
      have he3:(((e3:Nat):Int) != 0)=false:=by rw[po2];rfl
      have hpn:¬ ((n3:Nat):Int)<((n0:Nat):Int):=by omega
      have huu:(((un:Nat):Int) != ((un:Nat):Int))=false:=by simp
      clear hla hlb pn pd pa1 pa0 pb psa psd psb hl0 hl1 hl2 hl3 poc po2 ple;have L0:=ħ (Below.refl wv.heap.size wv)
      go_upto_region 18 with (fail)
      go_wp2_with (refine wpList_load_row rfl 26 (.tmp 5) rfl (w.heap.size) ?l18 26 #[.slice qo qn qc,.slice mo mn mc,.slice uo un uc] (0,0) _ XV.o Tryz.underlying26 rfl (Zba _ _ _) ?_;(case l18=>rfl))
      refine (HS0.o wv L0.o).mono ?_;rintro e wa ⟨ba,lo,lc,rfl,hra,-⟩;have La:=ħ (L0.o.trans (ba.mono L0.o.size));have XLa:=ħ (XV.o.step ba);have MLa:=ħ (MV.o.step ba);have ULa:=ħ (SUV.o.step ba);have SLa:=ħ (SMV.o.step ba);have RLa:=ħ (SV.o.step ba);have HRL0:=ħ (fun W (hW:Below wa.heap.size wa W)=>hra.below hW);clear ba L0 XV MV SUV SMV SV HS0 hra
      go_upto_region 19 with (fail)
      go_wp2_with (refine wpList_load_row rfl 26 (.tmp 5) rfl (w.heap.size) ?l19 26 #[.slice qo qn qc,.slice mo mn mc,.slice uo un uc] (0,0) _ XLa.o Tryz.underlying26 rfl (Zba _ _ _) ?_;(case l19=>rfl))
      refine (HC0.o wa La.o).mono ?_;rintro e wb ⟨rfl,bb⟩;have Lb:=ħ (La.o.trans (bb.mono La.o.size));have XLb:=ħ (XLa.o.step bb);have MLb:=ħ (MLa.o.step bb);have ULb:=ħ (ULa.o.step bb);have SLb:=ħ (SLa.o.step bb);have RLb:=ħ (RLa.o.step bb);have HRLLb:=ħ (fun W (hW:Below wb.heap.size wb W)=>HRL0.o W (bb.trans (hW.mono bb.size)));clear bb La XLa MLa ULa SLa RLa HRL0 HC0
      go_upto_region 20 with (fail)
      go_wp2_with (refine wpList_load_row rfl 26 (.tmp 12) rfl (ob) ?l20 26 #[.slice qo qn qc,.slice mo mn mc,.slice (some ⟨g6,off6,none⟩) (un+1) c6] (0,0) _ ULb.o Tryz.underlying26 rfl (Zba _ _ _) ?_;(case l20=>rfl))
      refine (HS1.o wb Lb.o).mono ?_;rintro e wd2 ⟨bd,ao,ac,rfl,hrd,-⟩;have Ld:=ħ (Lb.o.trans (bd.mono Lb.o.size));have XLd:=ħ (XLb.o.step bd);have MLd:=ħ (MLb.o.step bd);have ULd:=ħ (ULb.o.step bd);have SLd:=ħ (SLb.o.step bd);have RLd:=ħ (RLb.o.step bd);have HRLLd:=ħ (fun W (hW:Below wd2.heap.size wd2 W)=>HRLLb.o W (bd.trans (hW.mono bd.size)));have HRA0:=ħ (fun W (hW:Below wd2.heap.size wd2 W)=>hrd.below hW);clear bd Lb XLb MLb ULb SLb RLb HRLLb HS1 hrd
      go_upto_region 21 with (fail)
      go_wp2_with (refine wpList_load_row rfl 26 (.tmp 13) rfl (ob2) ?l21 26 #[.slice qo qn qc,.slice (some ⟨g7,off7,none⟩) (mn+1) c7,.slice uo un uc] (0,0) _ SLd.o Tryz.underlying26 rfl (Zba _ _ _) ?_;(case l21=>rfl))
      refine (HS2.o wd2 Ld.o).mono ?_;rintro e we ⟨be,bo4,bc4,rfl,hre,-⟩;have Le:=ħ (Ld.o.trans (be.mono Ld.o.size));have XLe:=ħ (XLd.o.step be);have MLe:=ħ (MLd.o.step be);have ULe:=ħ (ULd.o.step be);have SLe:=ħ (SLd.o.step be);have RLe:=ħ (RLd.o.step be);have HRLLe:=ħ (fun W (hW:Below we.heap.size we W)=>HRLLd.o W (be.trans (hW.mono be.size)));have HRALe:=ħ (fun W (hW:Below we.heap.size we W)=>HRA0.o W (be.trans (hW.mono be.size)));have HRB0:=ħ (fun W (hW:Below we.heap.size we W)=>hre.below hW);clear be Ld XLd MLd ULd SLd RLd HRLLd HRA0 HS2 hre
      go_upto_region 22 with (fail)
      go_wp2_with (refine wpList_load_row rfl 26 (.tmp 14) rfl (ob3) ?l22 26 #[.slice qo qn qc,.slice (some ⟨g8,off8,none⟩) mn c8,.slice uo un uc] (0,0) _ RLe.o Tryz.underlying26 rfl (Zba _ _ _) ?_;(case l22=>rfl))
      refine (HS3.o we Le.o).mono ?_;rintro e wf ⟨bf,do4,dc,rfl,hrf,-⟩;have Lf:=ħ (Le.o.trans (bf.mono Le.o.size));have XLf:=ħ (XLe.o.step bf);have MLf:=ħ (MLe.o.step bf);have ULf:=ħ (ULe.o.step bf);have SLf:=ħ (SLe.o.step bf);have RLf:=ħ (RLe.o.step bf);have HRLLf:=ħ (fun W (hW:Below wf.heap.size wf W)=>HRLLe.o W (bf.trans (hW.mono bf.size)));have HRALf:=ħ (fun W (hW:Below wf.heap.size wf W)=>HRALe.o W (bf.trans (hW.mono bf.size)));have HRBLf:=ħ (fun W (hW:Below wf.heap.size wf W)=>HRB0.o W (bf.trans (hW.mono bf.size)));have HRD0:=ħ (fun W (hW:Below wf.heap.size wf W)=>hrf.below hW);clear bf Le XLe MLe ULe SLe RLe HRLLe HRALe HRB0 HS3 hrf
      go_upto_region 23 with (fail)
      go_wp2_with (refine wpList_load_row rfl 26 (.tmp 14) rfl (ob3) ?l23 26 #[.slice qo qn qc,.slice (some ⟨g8,off8,none⟩) mn c8,.slice uo un uc] (0,0) _ RLf.o Tryz.underlying26 rfl (Zba _ _ _) ?_;(case l23=>rfl))
      refine (HC3.o wf Lf.o).mono ?_;rintro e wg ⟨rfl,bg⟩;have Lg:=ħ (Lf.o.trans (bg.mono Lf.o.size));have XLg:=ħ (XLf.o.step bg);have MLg:=ħ (MLf.o.step bg);have ULg:=ħ (ULf.o.step bg);have SLg:=ħ (SLf.o.step bg);have RLg:=ħ (RLf.o.step bg);have HRLLg:=ħ (fun W (hW:Below wg.heap.size wg W)=>HRLLf.o W (bg.trans (hW.mono bg.size)));have HRALg:=ħ (fun W (hW:Below wg.heap.size wg W)=>HRALf.o W (bg.trans (hW.mono bg.size)));have HRBLg:=ħ (fun W (hW:Below wg.heap.size wg W)=>HRBLf.o W (bg.trans (hW.mono bg.size)));have HRDLg:=ħ (fun W (hW:Below wg.heap.size wg W)=>HRD0.o W (bg.trans (hW.mono bg.size)));clear bg Lf XLf MLf ULf SLf RLf HRLLf HRALf HRBLf HRD0 HC3;have c2:=XLg.o.cell 2 _ rfl
      go_upto_region 26 with (fail)
      clear c2 he0 he3 hpn huu;generalize decide (n3<n0)=bz at *;have eun:IntKind.i64.wrap ((un:Int)+1)=(un:Int)+1:=IntWalk.i64_in _ (by omega);have HBH:=ħ (Below.refl wg.heap.size wg)
      go_cut [177] from 169 to 176 (fun bv wx=>bv = .bool false∧Hid (Below wg.heap.size wg wx))
      case first =>
       go_wp2_with (refine wpList_load_row rfl 26 (.tmp 12) rfl (ob) ?l26 26 #[.slice qo qn qc,.slice mo mn mc,.slice (some ⟨g6,off6,none⟩) (un+1) c6] (0,0) _ ULg.o Tryz.underlying26 rfl (Zba _ _ _) ?_;(case l26=>rfl))
       refine (HV1.o wg Lg.o).mono ?_;rintro e wh ⟨rfl,bh⟩;have BH:=ħ bh;clear bh
       cases vm with
       | true =>
        have hl:=HPA1.o (by trivial)
        have hq:(((la:Nat):Int)==((un:Nat):Int)+1)=true:=by rw[hl];simp
        clear hl
        go_wp2_with fail
        go_meet
        case rel=>exact⟨rfl,BH⟩
       | false =>
        have hl:=HPA0.o (by trivial)
        have hq:(((la:Nat):Int)==((un:Nat):Int)+1)=false:=by rw[beq_eq_false_iff_ne];omega
        clear hl
        go_wp2_with fail
        go_meet
        case rel=>exact⟨rfl,BH⟩
      case rest =>
       obtain⟨rfl,BH⟩:=hcut;have bh:=BH.o;generalize wc=wh at *;have Lh:=ħ (Lg.o.trans (bh.mono Lg.o.size));have XLh:=ħ (XLg.o.step bh);have MLh:=ħ (MLg.o.step bh);have SLh:=ħ (SLg.o.step bh);have HRLLh:=ħ (fun W (hW:Below wh.heap.size wh W)=>HRLLg.o W (bh.trans (hW.mono bh.size)));have HRALh:=ħ (fun W (hW:Below wh.heap.size wh W)=>HRALg.o W (bh.trans (hW.mono bh.size)));have HRBLh:=ħ (fun W (hW:Below wh.heap.size wh W)=>HRBLg.o W (bh.trans (hW.mono bh.size)));have HRDLh:=ħ (fun W (hW:Below wh.heap.size wh W)=>HRDLg.o W (bh.trans (hW.mono bh.size)));clear bh Lg XLg MLg SLg HRLLg HRALg HRBLg HRDLg HV1 BH HBH eun
       go_upto_region 28 with (fail)
       have HBH:=ħ (Below.refl wh.heap.size wh)
       go_cut [26] from 178 to 185 (fun bv wx=>∃ bg:Bool,bv = .bool bg∧Hid (bg=true→vl=true)∧Hid (Below wh.heap.size wh wx))
       case first =>
        have m0:=MLh.o.cell 0 _ rfl
        go_wp2_with (refine wpList_load_row rfl 26 (.tmp 13) rfl (ob2) ?l28 26 #[.slice qo qn qc,.slice (some ⟨g7,off7,none⟩) (mn+1) c7,.slice uo un uc] (0,0) _ SLh.o Tryz.underlying26 rfl (Zba _ _ _) ?_;(case l28=>rfl))
        refine (HV2.o wh Lh.o).mono ?_;rintro e wi ⟨rfl,bi⟩;have m0:=(MLh.o.step bi).cell 0 _ rfl;have BI:=ħ bi;clear bi
        cases vl with
        | false =>
         go_wp2_with fail
         go_meet
         case rel=>exact⟨false,rfl,ħ (fun h=>by first | exact h | trivial),BI⟩
        | true =>
         by_cases hnb:(nb:Int)≤8
         ·have hd:decide ((nb:Int)≤8)=true:=decide_eq_true hnb
          go_wp2_with fail
          go_meet
          case rel=>exact⟨true,rfl,ħ (fun h=>by first | exact h | trivial),BI⟩
         ·have hd:decide ((nb:Int)≤8)=false:=decide_eq_false hnb
          go_wp2_with fail
          go_meet
          case rel=>exact⟨false,rfl,ħ (fun h=>by first | exact h | trivial),BI⟩
       case rest =>
        obtain⟨bg,rfl,HBV,BI⟩:=hcut;have bi:=BI.o;generalize wc=wi at *;have Li:=ħ (Lh.o.trans (bi.mono Lh.o.size));have XLi:=ħ (XLh.o.step bi);have MLi:=ħ (MLh.o.step bi);have SLi:=ħ (SLh.o.step bi);have HRLLi:=ħ (fun W (hW:Below wi.heap.size wi W)=>HRLLh.o W (bi.trans (hW.mono bi.size)));have HRALi:=ħ (fun W (hW:Below wi.heap.size wi W)=>HRALh.o W (bi.trans (hW.mono bi.size)));have HRBLi:=ħ (fun W (hW:Below wi.heap.size wi W)=>HRBLh.o W (bi.trans (hW.mono bi.size)));have HRDLi:=ħ (fun W (hW:Below wi.heap.size wi W)=>HRDLh.o W (bi.trans (hW.mono bi.size)));clear bi Lh XLh MLh SLh HRLLh HRALh HRBLh HRDLh HV2 BI HBH
        go_wp2_with (refine wpList_load_row rfl 26 (.tmp 13) rfl (ob2) ?l29 26 #[.slice qo qn qc,.slice (some ⟨g7,off7,none⟩) (mn+1) c7,.slice uo un uc] (0,0) _ SLi.o Tryz.underlying26 rfl (Zba _ _ _) ?_;(case l29=>rfl))
        refine (HC2.o wi Li.o).mono ?_;rintro e wl ⟨rfl,bl⟩;have Ll:=ħ (Li.o.trans (bl.mono Li.o.size));have XLl:=ħ (XLi.o.step bl);have HRLLl:=ħ (fun W (hW:Below wl.heap.size wl W)=>HRLLi.o W (bl.trans (hW.mono bl.size)));have HRALl:=ħ (fun W (hW:Below wl.heap.size wl W)=>HRALi.o W (bl.trans (hW.mono bl.size)));have HRBLl:=ħ (fun W (hW:Below wl.heap.size wl W)=>HRBLi.o W (bl.trans (hW.mono bl.size)));have HRDLl:=ħ (fun W (hW:Below wl.heap.size wl W)=>HRDLi.o W (bl.trans (hW.mono bl.size)));clear bl Li XLi HRLLi HRALi HRBLi HRDLi HC2;have BF:=ħ (BV.o.trans (Ll.o.mono BV.o.size))
        go_upto_region 30 with (fail)
        go_cut [207] from 191 to 206 (fun bv wx=>bv = .bool false∧wx=wl)
        case first =>
         cases bg with
         | true =>
          obtain⟨pe,pn2,plb⟩:=HPB.o (HBV.o (by trivial))
          have he2:(((e2:Nat):Int) != 0)=false:=by rw[pe];rfl
          have hn2:¬ ((n2:Nat):Int)<((n0:Nat):Int):=by omega
          have hbb:(((lb:Nat):Int) != ((un:Nat):Int))=false:=by rw[plb];simp
          clear pe pn2 plb
          go_wp2_with fail
          go_meet
          case rel=>exact⟨rfl,rfl⟩
         | false =>
          go_wp2_with fail
          go_meet
          case rel=>exact⟨rfl,rfl⟩
        case rest =>
         obtain⟨rfl,rfl⟩:=hcut;generalize wc=wl at *;have HSB0:=ħ (fun h=>HPSB.o (HBV.o h));have HPLB:=ħ (fun h=>(HPB.o (HBV.o h)).2.2);have HLA1:Hid (vm=true→(0:Int)<(la:Int)):=ħ (fun h=>by have:=HPA1.o h;omega);have HLA0:Hid (vm=false→¬ (0:Int)<(la:Int)):=ħ (fun h=>by have:=HPA0.o h;omega);have HLAN:Hid (vm=true→LA.length=un+1):=ħ (fun h=>HLA.o.trans (HPA1.o h));have HLBN:Hid (bg=true→LB.length=un):=ħ (fun h=>HLB.o.trans (HPLB.o h));have HLE:Hid (LA.length=la∧LB.length=lb):=ħ ⟨HLA.o,HLB.o⟩;clear HBV HPB HPSB HPLB HPA1 HPA0 HLA HLB HV HVV HAG
         go_upto_region 33 with (fail)
         go_loopw [29] (fun iv wr=>∃ (ix:Nat),iv = .int .i64 ix∧ix≤un∧Hid (Below wl.heap.size wl wr)) (fun i _=>(un-intOf i).toNat)
         case atStart=>exact⟨0,rfl,by omega,ħ (Below.refl _ _)⟩
         case round =>
          obtain⟨ix,rfl,hi,LR⟩:=hrel;have e2':IntKind.i64.wrap ((ix:Int)+1)=((ix+1:Nat):Int):=IntWalk.i64_in _ (by omega);by_cases hin:ix<un
          ·have ii:(ix:Int)<un:=by omega
           obtain⟨rL,hrL⟩:∃ r,L[ix]?=some r:=⟨_,List.getElem?_eq_getElem (by rw[HPN.o];exact hin)⟩;obtain⟨rD,hrD⟩:∃ r,LD[ix]?=some r:=⟨_,List.getElem?_eq_getElem (by rw[HPD.o];exact hin)⟩;obtain⟨gl,ol,lro,lk,hlo,hgl,hcl,hfl⟩:=(HRLLl.o wr LR.o).at ix rL hrL;obtain⟨gd,od,sro,sk,hdo,hgd,hcd,hfd⟩:=(HRDLl.o wr LR.o).at ix rD hrD;have HSD:=ħ (fun W (hW:Below wr.heap.size wr W)=>Zlf W rL rD lro sro lk sk (hfl.below hW) (hfd.below hW) (Nat.le_trans (HL0.o rL (List.mem_of_getElem? hrL)) (by decide)) (Nat.le_trans (HL3.o rD (List.mem_of_getElem? hrD)) (by decide)))
           have hsd:Zja rL rD=true:=Ziu.2 (by
            have:=HPSD.o ix hin
            rwa [List.getD_eq_getElem?_getD,hrL,List.getD_eq_getElem?_getD,hrD] at this)
           rw[hsd] at HSD;have HCL:=ħ (fun W (hW:Below wr.heap.size wr W)=>(hW.cell (p:=⟨gl,ol+ix,none⟩) hgl).trans hcl);have HCD:=ħ (fun W (hW:Below wr.heap.size wr W)=>(hW.cell (p:=⟨gd,od+ix,none⟩) hgd).trans hcd)
           obtain⟨ga,oa,aro,ra,rk,HA⟩:∃ (ga oa:Nat) (aro:Option Addr) (ra rk:Nat),Hid (vm=true→ao=some ⟨ga,oa,none⟩∧(ix:Int)<(la:Int)∧(∀ W,Below wr.heap.size wr W→W.cell? ⟨ga,oa+ix,none⟩=some (.slice aro ra rk))∧∀ W,Below wr.heap.size wr W→Calls Tryz.prog 26 #[.slice aro ra rk,.slice lro rL.length lk] W fun e w'=>e = .returned (.bool true)∧Below W.heap.size W w'):=by
            cases hvm:vm with
            | false=>exact⟨0,0,none,0,0,ħ (fun h=>by cases h)⟩
            | true =>
             have hla:=HLAN.o hvm;obtain⟨rA,hrA⟩:∃ r,LA[ix]?=some r:=⟨_,List.getElem?_eq_getElem (by omega)⟩;obtain⟨ga,oa,aro,rk,hao,hga,hca,hfa⟩:=(HRALl.o wr LR.o).at ix rA hrA
             have hsa:Zja rA rL=true:=Ziu.2 (by
              have:=HPSA.o hvm ix hin
              rwa [List.getD_eq_getElem?_getD,hrA,List.getD_eq_getElem?_getD,hrL] at this)
             refine⟨ga,oa,aro,rA.length,rk,ħ (fun _=>⟨hao,by have:=HLE.o.1;omega,fun W hW=>(hW.cell (p:=⟨ga,oa+ix,none⟩) hga).trans hca,fun W hW=>?_⟩)⟩;have:=Zlf W rA rL aro lro rk lk (hfa.below hW) (hfl.below hW) (Nat.le_trans (HL1.o rA (List.mem_of_getElem? hrA)) (by decide)) (Nat.le_trans (HL0.o rL (List.mem_of_getElem? hrL)) (by decide))
             rwa [hsa] at this
           obtain⟨gb,ob4,bro,rb,qk,HB4S⟩:∃ (gb ob4:Nat) (bro:Option Addr) (rb qk:Nat),Hid (bg=true→bo4=some ⟨gb,ob4,none⟩∧(ix:Int)<(lb:Int)∧(∀ W,Below wr.heap.size wr W→W.cell? ⟨gb,ob4+ix,none⟩=some (.slice bro rb qk))∧∀ W,Below wr.heap.size wr W→Calls Tryz.prog 26 #[.slice lro rL.length lk,.slice bro rb qk] W fun e w'=>e = .returned (.bool true)∧Below W.heap.size W w'):=by
            cases hbg:bg with
            | false=>exact⟨0,0,none,0,0,ħ (fun h=>by cases h)⟩
            | true =>
             have hlb:=HLBN.o hbg;obtain⟨rB,hrB⟩:∃ r,LB[ix]?=some r:=⟨_,List.getElem?_eq_getElem (by omega)⟩;obtain⟨gb,ob4,bro,qk,hbo,hgb,hcb,hfb⟩:=(HRBLl.o wr LR.o).at ix rB hrB
             have hsb:Zja rL rB=true:=Ziu.2 (by
              have:=HSB0.o hbg ix hin
              rwa [List.getD_eq_getElem?_getD,hrL,List.getD_eq_getElem?_getD,hrB] at this)
             refine⟨gb,ob4,bro,rB.length,qk,ħ (fun _=>⟨hbo,by have:=HLE.o.2;omega,fun W hW=>(hW.cell (p:=⟨gb,ob4+ix,none⟩) hgb).trans hcb,fun W hW=>?_⟩)⟩;have:=Zlf W rL rB lro bro lk qk (hfl.below hW) (hfb.below hW) (Nat.le_trans (HL0.o rL (List.mem_of_getElem? hrL)) (by decide)) (Nat.le_trans (HL2.o rB (List.mem_of_getElem? hrB)) (by decide))
             rwa [hsb] at this
           have HII:=ħ ii;clear hrL hrD hgl hcl hfl hgd hcd hfd hsd;generalize rL.length=rl at *;generalize rD.length=rd at *;subst hlo;subst hdo
           go_upto_region 35 with (fail)
           clear ii hin hi;refine Zbj (Z12 gl ol lc ga oa la ac gd od dc gb ob4 lb bc4 un ix rl lk ra rk rd sk rb qk ao bo4 lro aro sro bro vm bg) (by kernel_rfl) (Zv2 gl ol lc ga oa la ac gd od dc gb ob4 lb bc4 un ix rl lk ra rk rd sk rb qk ao bo4 lro aro sro bro vm bg) (Zcx (by kernel_rfl)) (Zh7 (by kernel_rfl)) (Zbg (by kernel_rfl)) ?hs ?he
           case hs =>
            intro i o hi listed a' w' H hl2;have hl3:=Zat hl2;have hin:i<42:=(Array.getElem?_eq_some_iff.1 hi).1;have hb:=ħ H.below;have s18:=H.same 18 (Zaq (by kernel_rfl));have s21:=H.same 21 (Zaq (by kernel_rfl));have s22:=H.same 22 (Zaq (by kernel_rfl));have s23:=H.same 23 (Zaq (by kernel_rfl));have s26:=H.same 26 (Zaq (by kernel_rfl));have s29:=H.same 29 (Zaq (by kernel_rfl));have hdn:=H.done;have hdf:=H.defers;have hts:=H.tsize;clear hl2 H;obtain⟨t',df⟩:=a';obtain⟨f',rfl⟩:=Zv1 t' hts;have hdf':df=[]:=hdf;subst hdf';have gs18:f' 18 = .slice (some ⟨gl,ol,none⟩) un lc:=s18;have gs21:f' 21 = .slice ao la ac:=s21;have gs22:f' 22 = .slice bo4 lb bc4:=s22;have gs23:f' 23 = .slice (some ⟨gd,od,none⟩) un dc:=s23;have gs26:f' 26 = .bool bg:=s26;have gs29:f' 29 = .int .i64 (ix:Nat):=s29;clear s18 s21 s22 s23 s26 s29;clear hdf hts;have hcases:=Zr6 i hin;clear hin;rcases hcases with rfl | rfl | rfl | rfl | rfl | rfl | rfl | rfl | rfl | rfl | rfl | rfl | rfl | rfl | rfl | rfl | rfl | rfl | rfl | rfl | rfl | rfl | rfl | rfl | rfl | rfl | rfl | rfl | rfl | rfl | rfl | rfl | rfl | rfl | rfl | rfl | rfl | rfl | rfl | rfl | rfl | rfl
            ·obtain rfl:=Option.some.inj hi
             clear hdn hl3;rw[gs21];clear gs18 gs21 gs22 gs23 gs26 gs29;refine Zab rfl ?_
             go_wp2_with fail
             exact Zaa ⟨_,rfl,Below.refl _ _,rfl⟩
            ·obtain rfl:=Option.some.inj hi
             have dv0:f' 214 = .slice ao la ac:=hdn 0 _ 214 rfl (hl3 0 (by rfl)) rfl;clear hdn hl3;rw[dv0];clear dv0 gs18 gs21 gs22 gs23 gs26 gs29;refine Zab rfl ?_
             go_wp2_with fail
             exact Zaa ⟨_,rfl,Below.refl _ _,rfl⟩
            ·obtain rfl:=Option.some.inj hi
             cases vm with
             | true =>
              have dv1:f' 215 = .int .i64 (la:Nat):=hdn 1 _ 215 rfl (hl3 1 (by rfl)) rfl;clear hdn hl3;rw[dv1];clear dv1 gs18 gs21 gs22 gs23 gs26 gs29;have hla:=HLA1.o (by trivial);have hd:decide (0<la)=true:=decide_eq_true (by omega);refine Zab rfl ?_
              go_wp2_with fail
              exact Zaa ⟨_,rfl,Below.refl _ _,rfl⟩
             | false =>
              have dv1:f' 215 = .int .i64 (la:Nat):=hdn 1 _ 215 rfl (hl3 1 (by rfl)) rfl;clear hdn hl3;rw[dv1];clear dv1 gs18 gs21 gs22 gs23 gs26 gs29;have hla:=HLA0.o (by trivial);have hd:decide (0<la)=false:=decide_eq_false (by omega);refine Zab rfl ?_
              go_wp2_with fail
              exact Zaa ⟨_,rfl,Below.refl _ _,rfl⟩
            ·obtain rfl:=Option.some.inj hi
             have dv2:f' 216 = .bool vm:=hdn 2 _ 216 rfl (hl3 2 (by rfl)) rfl;clear hdn hl3;rw[dv2];clear dv2 gs18 gs21 gs22 gs23 gs26 gs29;refine Zab rfl ?_
             go_wp2_with fail
             exact Zaa ⟨_,rfl,Below.refl _ _,rfl⟩
            ·obtain rfl:=Option.some.inj hi
             cases vm with
             | true =>
              have dv3:f' 217 = .bool true:=hdn 3 _ 217 rfl (hl3 3 (by rfl)) rfl;clear hdn hl3;rw[gs21,dv3];clear dv3 gs18 gs21 gs22 gs23 gs26 gs29;refine Zab rfl ?_
              go_wp2_with fail
              exact Zaa ⟨_,rfl,Below.refl _ _,rfl⟩
             | false =>
              have dv3:f' 217 = .bool false:=hdn 3 _ 217 rfl (hl3 3 (by rfl)) rfl;clear hdn hl3;rw[gs21,dv3];clear dv3 gs18 gs21 gs22 gs23 gs26 gs29;refine Zab rfl ?_
              go_wp2_with fail
              exact Zaa ⟨_,rfl,Below.refl _ _,rfl⟩
            ·obtain rfl:=Option.some.inj hi
             cases vm with
             | true =>
              have dv3:f' 217 = .bool true:=hdn 3 _ 217 rfl (hl3 3 (by rfl)) rfl;clear hdn hl3;rw[gs29,dv3];clear dv3 gs18 gs21 gs22 gs23 gs26 gs29;refine Zab rfl ?_
              go_wp2_with fail
              exact Zaa ⟨_,rfl,Below.refl _ _,rfl⟩
             | false =>
              have dv3:f' 217 = .bool false:=hdn 3 _ 217 rfl (hl3 3 (by rfl)) rfl;clear hdn hl3;rw[gs29,dv3];clear dv3 gs18 gs21 gs22 gs23 gs26 gs29;refine Zab rfl ?_
              go_wp2_with fail
              exact Zaa ⟨_,rfl,Below.refl _ _,rfl⟩
            ·obtain rfl:=Option.some.inj hi
             cases vm with
             | true =>
              have dv3:f' 217 = .bool true:=hdn 3 _ 217 rfl (hl3 3 (by rfl)) rfl;have dv4:f' 218 = .slice ao la ac:=hdn 4 _ 218 rfl (hl3 4 (by rfl)) rfl;have dv5:f' 219 = .int .i64 (ix:Nat):=hdn 5 _ 219 rfl (hl3 5 (by rfl)) rfl;clear hdn hl3;rw[dv3,dv4,dv5];clear dv3 dv4 dv5 gs18 gs21 gs22 gs23 gs26 gs29;have ii:=HII.o;have ia:=(HA.o (by trivial)).2.1;rw[(HA.o (by trivial)).1];refine Zab rfl ?_
              go_wp2_with fail
              exact Zaa ⟨_,rfl,Below.refl _ _,rfl⟩
             | false =>
              have dv3:f' 217 = .bool false:=hdn 3 _ 217 rfl (hl3 3 (by rfl)) rfl;have dv4:f' 218=undef:=hdn 4 _ 218 rfl (hl3 4 (by rfl)) rfl;have dv5:f' 219=undef:=hdn 5 _ 219 rfl (hl3 5 (by rfl)) rfl;clear hdn hl3;rw[dv3,dv4,dv5];clear dv3 dv4 dv5 gs18 gs21 gs22 gs23 gs26 gs29;refine Zab rfl ?_
              go_wp2_with fail
              exact Zaa ⟨_,rfl,Below.refl _ _,rfl⟩
            ·obtain rfl:=Option.some.inj hi
             cases vm with
             | true =>
              have dv3:f' 217 = .bool true:=hdn 3 _ 217 rfl (hl3 3 (by rfl)) rfl;have dv6:f' 220 = .pointer (some ⟨ga,oa+ix,none⟩):=hdn 6 _ 220 rfl (hl3 6 (by rfl)) rfl;clear hdn hl3;rw[dv3,dv6];clear dv3 dv6 gs18 gs21 gs22 gs23 gs26 gs29;have rr:=(HA.o (by trivial)).2.2.1 w' hb.o;refine Zab rfl ?_
              go_wp2_with fail
              exact Zaa ⟨_,rfl,Below.refl _ _,rfl⟩
             | false =>
              have dv3:f' 217 = .bool false:=hdn 3 _ 217 rfl (hl3 3 (by rfl)) rfl;have dv6:f' 220=undef:=hdn 6 _ 220 rfl (hl3 6 (by rfl)) rfl;clear hdn hl3;rw[dv3,dv6];clear dv3 dv6 gs18 gs21 gs22 gs23 gs26 gs29;refine Zab rfl ?_
              go_wp2_with fail
              exact Zaa ⟨_,rfl,Below.refl _ _,rfl⟩
            ·obtain rfl:=Option.some.inj hi
             cases vm with
             | true =>
              have dv3:f' 217 = .bool true:=hdn 3 _ 217 rfl (hl3 3 (by rfl)) rfl;clear hdn hl3;rw[gs18,dv3];clear dv3 gs18 gs21 gs22 gs23 gs26 gs29;refine Zab rfl ?_
              go_wp2_with fail
              exact Zaa ⟨_,rfl,Below.refl _ _,rfl⟩
             | false =>
              have dv3:f' 217 = .bool false:=hdn 3 _ 217 rfl (hl3 3 (by rfl)) rfl;clear hdn hl3;rw[gs18,dv3];clear dv3 gs18 gs21 gs22 gs23 gs26 gs29;refine Zab rfl ?_
              go_wp2_with fail
              exact Zaa ⟨_,rfl,Below.refl _ _,rfl⟩
            ·obtain rfl:=Option.some.inj hi
             cases vm with
             | true =>
              have dv3:f' 217 = .bool true:=hdn 3 _ 217 rfl (hl3 3 (by rfl)) rfl;clear hdn hl3;rw[gs29,dv3];clear dv3 gs18 gs21 gs22 gs23 gs26 gs29;refine Zab rfl ?_
              go_wp2_with fail
              exact Zaa ⟨_,rfl,Below.refl _ _,rfl⟩
             | false =>
              have dv3:f' 217 = .bool false:=hdn 3 _ 217 rfl (hl3 3 (by rfl)) rfl;clear hdn hl3;rw[gs29,dv3];clear dv3 gs18 gs21 gs22 gs23 gs26 gs29;refine Zab rfl ?_
              go_wp2_with fail
              exact Zaa ⟨_,rfl,Below.refl _ _,rfl⟩
            ·obtain rfl:=Option.some.inj hi
             cases vm with
             | true =>
              have dv3:f' 217 = .bool true:=hdn 3 _ 217 rfl (hl3 3 (by rfl)) rfl;have dv8:f' 222 = .slice (some ⟨gl,ol,none⟩) un lc:=hdn 8 _ 222 rfl (hl3 8 (by rfl)) rfl;have dv9:f' 223 = .int .i64 (ix:Nat):=hdn 9 _ 223 rfl (hl3 9 (by rfl)) rfl;clear hdn hl3;rw[dv3,dv8,dv9];clear dv3 dv8 dv9 gs18 gs21 gs22 gs23 gs26 gs29;have ii:=HII.o;refine Zab rfl ?_
              go_wp2_with fail
              exact Zaa ⟨_,rfl,Below.refl _ _,rfl⟩
             | false =>
              have dv3:f' 217 = .bool false:=hdn 3 _ 217 rfl (hl3 3 (by rfl)) rfl;have dv8:f' 222=undef:=hdn 8 _ 222 rfl (hl3 8 (by rfl)) rfl;have dv9:f' 223=undef:=hdn 9 _ 223 rfl (hl3 9 (by rfl)) rfl;clear hdn hl3;rw[dv3,dv8,dv9];clear dv3 dv8 dv9 gs18 gs21 gs22 gs23 gs26 gs29;refine Zab rfl ?_
              go_wp2_with fail
              exact Zaa ⟨_,rfl,Below.refl _ _,rfl⟩
            ·obtain rfl:=Option.some.inj hi
             cases vm with
             | true =>
              have dv3:f' 217 = .bool true:=hdn 3 _ 217 rfl (hl3 3 (by rfl)) rfl;have dv10:f' 224 = .pointer (some ⟨gl,ol+ix,none⟩):=hdn 10 _ 224 rfl (hl3 10 (by rfl)) rfl;clear hdn hl3;rw[dv3,dv10];clear dv3 dv10 gs18 gs21 gs22 gs23 gs26 gs29;have rr:=HCL.o w' hb.o;refine Zab rfl ?_
              go_wp2_with fail
              exact Zaa ⟨_,rfl,Below.refl _ _,rfl⟩
             | false =>
              have dv3:f' 217 = .bool false:=hdn 3 _ 217 rfl (hl3 3 (by rfl)) rfl;have dv10:f' 224=undef:=hdn 10 _ 224 rfl (hl3 10 (by rfl)) rfl;clear hdn hl3;rw[dv3,dv10];clear dv3 dv10 gs18 gs21 gs22 gs23 gs26 gs29;refine Zab rfl ?_
              go_wp2_with fail
              exact Zaa ⟨_,rfl,Below.refl _ _,rfl⟩
            ·obtain rfl:=Option.some.inj hi
             cases vm with
             | true =>
              have dv3:f' 217 = .bool true:=hdn 3 _ 217 rfl (hl3 3 (by rfl)) rfl;have dv7:f' 221 = .slice aro ra rk:=hdn 7 _ 221 rfl (hl3 7 (by rfl)) rfl;have dv11:f' 225 = .slice lro rl lk:=hdn 11 _ 225 rfl (hl3 11 (by rfl)) rfl;clear hdn hl3;rw[dv3,dv7,dv11];clear dv3 dv7 dv11 gs18 gs21 gs22 gs23 gs26 gs29;refine Zab rfl ?_
              go_wp2_with fail
              refine ((HA.o (by trivial)).2.2.2 w' hb.o).mono ?_;rintro e w4 ⟨rfl,b4⟩;have HB4:=ħ b4;clear b4
              go_wp2_with fail
              exact Zaa ⟨_,rfl,HB4.o,rfl⟩
             | false =>
              have dv3:f' 217 = .bool false:=hdn 3 _ 217 rfl (hl3 3 (by rfl)) rfl;have dv7:f' 221=undef:=hdn 7 _ 221 rfl (hl3 7 (by rfl)) rfl;have dv11:f' 225=undef:=hdn 11 _ 225 rfl (hl3 11 (by rfl)) rfl;clear hdn hl3;rw[dv3,dv7,dv11];clear dv3 dv7 dv11 gs18 gs21 gs22 gs23 gs26 gs29;refine Zab rfl ?_
              go_wp2_with fail
              exact Zaa ⟨_,rfl,Below.refl _ _,rfl⟩
            ·obtain rfl:=Option.some.inj hi
             cases vm with
             | true =>
              have dv3:f' 217 = .bool true:=hdn 3 _ 217 rfl (hl3 3 (by rfl)) rfl;have dv12:f' 226 = .bool true:=hdn 12 _ 226 rfl (hl3 12 (by rfl)) rfl;clear hdn hl3;rw[dv3,dv12];clear dv3 dv12 gs18 gs21 gs22 gs23 gs26 gs29;refine Zab rfl ?_
              go_wp2_with fail
              exact Zaa ⟨_,rfl,Below.refl _ _,rfl⟩
             | false =>
              have dv3:f' 217 = .bool false:=hdn 3 _ 217 rfl (hl3 3 (by rfl)) rfl;have dv12:f' 226=undef:=hdn 12 _ 226 rfl (hl3 12 (by rfl)) rfl;clear hdn hl3;rw[dv3,dv12];clear dv3 dv12 gs18 gs21 gs22 gs23 gs26 gs29;refine Zab rfl ?_
              go_wp2_with fail
              exact Zaa ⟨_,rfl,Below.refl _ _,rfl⟩
            ·obtain rfl:=Option.some.inj hi
             cases vm with
             | true =>
              have dv3:f' 217 = .bool true:=hdn 3 _ 217 rfl (hl3 3 (by rfl)) rfl;have dv13:f' 227 = .bool false:=hdn 13 _ 227 rfl (hl3 13 (by rfl)) rfl;clear hdn hl3;rw[dv3,dv13];clear dv3 dv13 gs18 gs21 gs22 gs23 gs26 gs29;refine Zab rfl ?_
              go_wp2_with fail
              exact Zaa ⟨_,rfl,Below.refl _ _,rfl⟩
             | false =>
              have dv3:f' 217 = .bool false:=hdn 3 _ 217 rfl (hl3 3 (by rfl)) rfl;have dv13:f' 227=undef:=hdn 13 _ 227 rfl (hl3 13 (by rfl)) rfl;clear hdn hl3;rw[dv3,dv13];clear dv3 dv13 gs18 gs21 gs22 gs23 gs26 gs29;refine Zab rfl ?_
              go_wp2_with fail
              exact Zaa ⟨_,rfl,Below.refl _ _,rfl⟩
            ·obtain rfl:=Option.some.inj hi
             have dv14:f' 228 = .bool false:=hdn 14 _ 228 rfl (hl3 14 (by rfl)) rfl;clear hdn hl3;rw[dv14];clear dv14 gs18 gs21 gs22 gs23 gs26 gs29;refine Zab rfl ?_
             go_wp2_with fail
             exact Zaa ⟨_,rfl,Below.refl _ _,rfl⟩
            ·obtain rfl:=Option.some.inj hi
             have dv15:f' 229 = .bool false:=hdn 15 _ 229 rfl (hl3 15 (by rfl)) rfl;clear hdn hl3;rw[gs18,dv15];clear dv15 gs18 gs21 gs22 gs23 gs26 gs29;refine Zab rfl ?_
             go_wp2_with fail
             exact Zaa ⟨_,rfl,Below.refl _ _,rfl⟩
            ·obtain rfl:=Option.some.inj hi
             have dv15:f' 229 = .bool false:=hdn 15 _ 229 rfl (hl3 15 (by rfl)) rfl;clear hdn hl3;rw[gs29,dv15];clear dv15 gs18 gs21 gs22 gs23 gs26 gs29;refine Zab rfl ?_
             go_wp2_with fail
             exact Zaa ⟨_,rfl,Below.refl _ _,rfl⟩
            ·obtain rfl:=Option.some.inj hi
             have dv15:f' 229 = .bool false:=hdn 15 _ 229 rfl (hl3 15 (by rfl)) rfl;have dv16:f' 230 = .slice (some ⟨gl,ol,none⟩) un lc:=hdn 16 _ 230 rfl (hl3 16 (by rfl)) rfl;have dv17:f' 231 = .int .i64 (ix:Nat):=hdn 17 _ 231 rfl (hl3 17 (by rfl)) rfl;clear hdn hl3;rw[dv15,dv16,dv17];clear dv15 dv16 dv17 gs18 gs21 gs22 gs23 gs26 gs29;have ii:=HII.o;refine Zab rfl ?_
             go_wp2_with fail
             exact Zaa ⟨_,rfl,Below.refl _ _,rfl⟩
            ·obtain rfl:=Option.some.inj hi
             have dv15:f' 229 = .bool false:=hdn 15 _ 229 rfl (hl3 15 (by rfl)) rfl;have dv18:f' 232 = .pointer (some ⟨gl,ol+ix,none⟩):=hdn 18 _ 232 rfl (hl3 18 (by rfl)) rfl;clear hdn hl3;rw[dv15,dv18];clear dv15 dv18 gs18 gs21 gs22 gs23 gs26 gs29;have rr:=HCL.o w' hb.o;refine Zab rfl ?_
             go_wp2_with fail
             exact Zaa ⟨_,rfl,Below.refl _ _,rfl⟩
            ·obtain rfl:=Option.some.inj hi
             have dv15:f' 229 = .bool false:=hdn 15 _ 229 rfl (hl3 15 (by rfl)) rfl;clear hdn hl3;rw[gs23,dv15];clear dv15 gs18 gs21 gs22 gs23 gs26 gs29;refine Zab rfl ?_
             go_wp2_with fail
             exact Zaa ⟨_,rfl,Below.refl _ _,rfl⟩
            ·obtain rfl:=Option.some.inj hi
             have dv15:f' 229 = .bool false:=hdn 15 _ 229 rfl (hl3 15 (by rfl)) rfl;clear hdn hl3;rw[gs29,dv15];clear dv15 gs18 gs21 gs22 gs23 gs26 gs29;refine Zab rfl ?_
             go_wp2_with fail
             exact Zaa ⟨_,rfl,Below.refl _ _,rfl⟩
            ·obtain rfl:=Option.some.inj hi
             have dv15:f' 229 = .bool false:=hdn 15 _ 229 rfl (hl3 15 (by rfl)) rfl;have dv20:f' 234 = .slice (some ⟨gd,od,none⟩) un dc:=hdn 20 _ 234 rfl (hl3 20 (by rfl)) rfl;have dv21:f' 235 = .int .i64 (ix:Nat):=hdn 21 _ 235 rfl (hl3 21 (by rfl)) rfl;clear hdn hl3;rw[dv15,dv20,dv21];clear dv15 dv20 dv21 gs18 gs21 gs22 gs23 gs26 gs29;have ii:=HII.o;refine Zab rfl ?_
             go_wp2_with fail
             exact Zaa ⟨_,rfl,Below.refl _ _,rfl⟩
            ·obtain rfl:=Option.some.inj hi
             have dv15:f' 229 = .bool false:=hdn 15 _ 229 rfl (hl3 15 (by rfl)) rfl;have dv22:f' 236 = .pointer (some ⟨gd,od+ix,none⟩):=hdn 22 _ 236 rfl (hl3 22 (by rfl)) rfl;clear hdn hl3;rw[dv15,dv22];clear dv15 dv22 gs18 gs21 gs22 gs23 gs26 gs29;have rr:=HCD.o w' hb.o;refine Zab rfl ?_
             go_wp2_with fail
             exact Zaa ⟨_,rfl,Below.refl _ _,rfl⟩
            ·obtain rfl:=Option.some.inj hi
             have dv15:f' 229 = .bool false:=hdn 15 _ 229 rfl (hl3 15 (by rfl)) rfl;have dv19:f' 233 = .slice lro rl lk:=hdn 19 _ 233 rfl (hl3 19 (by rfl)) rfl;have dv23:f' 237 = .slice sro rd sk:=hdn 23 _ 237 rfl (hl3 23 (by rfl)) rfl;clear hdn hl3;rw[dv15,dv19,dv23];clear dv15 dv19 dv23 gs18 gs21 gs22 gs23 gs26 gs29;refine Zab rfl ?_
             go_wp2_with fail
             refine (HSD.o w' hb.o).mono ?_;rintro e w4 ⟨rfl,b4⟩;have HB4:=ħ b4;clear b4
             go_wp2_with fail
             exact Zaa ⟨_,rfl,HB4.o,rfl⟩
            ·obtain rfl:=Option.some.inj hi
             have dv15:f' 229 = .bool false:=hdn 15 _ 229 rfl (hl3 15 (by rfl)) rfl;have dv24:f' 238 = .bool true:=hdn 24 _ 238 rfl (hl3 24 (by rfl)) rfl;clear hdn hl3;rw[dv15,dv24];clear dv15 dv24 gs18 gs21 gs22 gs23 gs26 gs29;refine Zab rfl ?_
             go_wp2_with fail
             exact Zaa ⟨_,rfl,Below.refl _ _,rfl⟩
            ·obtain rfl:=Option.some.inj hi
             have dv15:f' 229 = .bool false:=hdn 15 _ 229 rfl (hl3 15 (by rfl)) rfl;have dv25:f' 239 = .bool false:=hdn 25 _ 239 rfl (hl3 25 (by rfl)) rfl;clear hdn hl3;rw[dv15,dv25];clear dv15 dv25 gs18 gs21 gs22 gs23 gs26 gs29;refine Zab rfl ?_
             go_wp2_with fail
             exact Zaa ⟨_,rfl,Below.refl _ _,rfl⟩
            ·obtain rfl:=Option.some.inj hi
             have dv26:f' 240 = .bool false:=hdn 26 _ 240 rfl (hl3 26 (by rfl)) rfl;clear hdn hl3;rw[dv26];clear dv26 gs18 gs21 gs22 gs23 gs26 gs29;refine Zab rfl ?_
             go_wp2_with fail
             exact Zaa ⟨_,rfl,Below.refl _ _,rfl⟩
            ·obtain rfl:=Option.some.inj hi
             have dv27:f' 241 = .bool false:=hdn 27 _ 241 rfl (hl3 27 (by rfl)) rfl;clear hdn hl3;rw[gs26,dv27];clear dv27 gs18 gs21 gs22 gs23 gs26 gs29;refine Zab rfl ?_
             go_wp2_with fail
             exact Zaa ⟨_,rfl,Below.refl _ _,rfl⟩
            ·obtain rfl:=Option.some.inj hi
             have dv27:f' 241 = .bool false:=hdn 27 _ 241 rfl (hl3 27 (by rfl)) rfl;have dv28:f' 242 = .bool bg:=hdn 28 _ 242 rfl (hl3 28 (by rfl)) rfl;clear hdn hl3;rw[dv27,dv28];clear dv27 dv28 gs18 gs21 gs22 gs23 gs26 gs29;refine Zab rfl ?_
             go_wp2_with fail
             exact Zaa ⟨_,rfl,Below.refl _ _,rfl⟩
            ·obtain rfl:=Option.some.inj hi
             cases bg with
             | true =>
              have dv29:f' 243 = .bool true:=hdn 29 _ 243 rfl (hl3 29 (by rfl)) rfl;clear hdn hl3;rw[gs18,dv29];clear dv29 gs18 gs21 gs22 gs23 gs26 gs29;refine Zab rfl ?_
              go_wp2_with fail
              exact Zaa ⟨_,rfl,Below.refl _ _,rfl⟩
             | false =>
              have dv29:f' 243 = .bool false:=hdn 29 _ 243 rfl (hl3 29 (by rfl)) rfl;clear hdn hl3;rw[gs18,dv29];clear dv29 gs18 gs21 gs22 gs23 gs26 gs29;refine Zab rfl ?_
              go_wp2_with fail
              exact Zaa ⟨_,rfl,Below.refl _ _,rfl⟩
            ·obtain rfl:=Option.some.inj hi
             cases bg with
             | true =>
              have dv29:f' 243 = .bool true:=hdn 29 _ 243 rfl (hl3 29 (by rfl)) rfl;clear hdn hl3;rw[gs29,dv29];clear dv29 gs18 gs21 gs22 gs23 gs26 gs29;refine Zab rfl ?_
              go_wp2_with fail
              exact Zaa ⟨_,rfl,Below.refl _ _,rfl⟩
             | false =>
              have dv29:f' 243 = .bool false:=hdn 29 _ 243 rfl (hl3 29 (by rfl)) rfl;clear hdn hl3;rw[gs29,dv29];clear dv29 gs18 gs21 gs22 gs23 gs26 gs29;refine Zab rfl ?_
              go_wp2_with fail
              exact Zaa ⟨_,rfl,Below.refl _ _,rfl⟩
            ·obtain rfl:=Option.some.inj hi
             cases bg with
             | true =>
              have dv29:f' 243 = .bool true:=hdn 29 _ 243 rfl (hl3 29 (by rfl)) rfl;have dv30:f' 244 = .slice (some ⟨gl,ol,none⟩) un lc:=hdn 30 _ 244 rfl (hl3 30 (by rfl)) rfl;have dv31:f' 245 = .int .i64 (ix:Nat):=hdn 31 _ 245 rfl (hl3 31 (by rfl)) rfl;clear hdn hl3;rw[dv29,dv30,dv31];clear dv29 dv30 dv31 gs18 gs21 gs22 gs23 gs26 gs29;have ii:=HII.o;refine Zab rfl ?_
              go_wp2_with fail
              exact Zaa ⟨_,rfl,Below.refl _ _,rfl⟩
             | false =>
              have dv29:f' 243 = .bool false:=hdn 29 _ 243 rfl (hl3 29 (by rfl)) rfl;have dv30:f' 244=undef:=hdn 30 _ 244 rfl (hl3 30 (by rfl)) rfl;have dv31:f' 245=undef:=hdn 31 _ 245 rfl (hl3 31 (by rfl)) rfl;clear hdn hl3;rw[dv29,dv30,dv31];clear dv29 dv30 dv31 gs18 gs21 gs22 gs23 gs26 gs29;refine Zab rfl ?_
              go_wp2_with fail
              exact Zaa ⟨_,rfl,Below.refl _ _,rfl⟩
            ·obtain rfl:=Option.some.inj hi
             cases bg with
             | true =>
              have dv29:f' 243 = .bool true:=hdn 29 _ 243 rfl (hl3 29 (by rfl)) rfl;have dv32:f' 246 = .pointer (some ⟨gl,ol+ix,none⟩):=hdn 32 _ 246 rfl (hl3 32 (by rfl)) rfl;clear hdn hl3;rw[dv29,dv32];clear dv29 dv32 gs18 gs21 gs22 gs23 gs26 gs29;have rr:=HCL.o w' hb.o;refine Zab rfl ?_
              go_wp2_with fail
              exact Zaa ⟨_,rfl,Below.refl _ _,rfl⟩
             | false =>
              have dv29:f' 243 = .bool false:=hdn 29 _ 243 rfl (hl3 29 (by rfl)) rfl;have dv32:f' 246=undef:=hdn 32 _ 246 rfl (hl3 32 (by rfl)) rfl;clear hdn hl3;rw[dv29,dv32];clear dv29 dv32 gs18 gs21 gs22 gs23 gs26 gs29;refine Zab rfl ?_
              go_wp2_with fail
              exact Zaa ⟨_,rfl,Below.refl _ _,rfl⟩
            ·obtain rfl:=Option.some.inj hi
             cases bg with
             | true =>
              have dv29:f' 243 = .bool true:=hdn 29 _ 243 rfl (hl3 29 (by rfl)) rfl;clear hdn hl3;rw[gs22,dv29];clear dv29 gs18 gs21 gs22 gs23 gs26 gs29;refine Zab rfl ?_
              go_wp2_with fail
              exact Zaa ⟨_,rfl,Below.refl _ _,rfl⟩
             | false =>
              have dv29:f' 243 = .bool false:=hdn 29 _ 243 rfl (hl3 29 (by rfl)) rfl;clear hdn hl3;rw[gs22,dv29];clear dv29 gs18 gs21 gs22 gs23 gs26 gs29;refine Zab rfl ?_
              go_wp2_with fail
              exact Zaa ⟨_,rfl,Below.refl _ _,rfl⟩
            ·obtain rfl:=Option.some.inj hi
             cases bg with
             | true =>
              have dv29:f' 243 = .bool true:=hdn 29 _ 243 rfl (hl3 29 (by rfl)) rfl;clear hdn hl3;rw[gs29,dv29];clear dv29 gs18 gs21 gs22 gs23 gs26 gs29;refine Zab rfl ?_
              go_wp2_with fail
              exact Zaa ⟨_,rfl,Below.refl _ _,rfl⟩
             | false =>
              have dv29:f' 243 = .bool false:=hdn 29 _ 243 rfl (hl3 29 (by rfl)) rfl;clear hdn hl3;rw[gs29,dv29];clear dv29 gs18 gs21 gs22 gs23 gs26 gs29;refine Zab rfl ?_
              go_wp2_with fail
              exact Zaa ⟨_,rfl,Below.refl _ _,rfl⟩
            ·obtain rfl:=Option.some.inj hi
             cases bg with
             | true =>
              have dv29:f' 243 = .bool true:=hdn 29 _ 243 rfl (hl3 29 (by rfl)) rfl;have dv34:f' 248 = .slice bo4 lb bc4:=hdn 34 _ 248 rfl (hl3 34 (by rfl)) rfl;have dv35:f' 249 = .int .i64 (ix:Nat):=hdn 35 _ 249 rfl (hl3 35 (by rfl)) rfl;clear hdn hl3;rw[dv29,dv34,dv35];clear dv29 dv34 dv35 gs18 gs21 gs22 gs23 gs26 gs29;have ii:=HII.o;have ib:=(HB4S.o (by trivial)).2.1;rw[(HB4S.o (by trivial)).1];refine Zab rfl ?_
              go_wp2_with fail
              exact Zaa ⟨_,rfl,Below.refl _ _,rfl⟩
             | false =>
              have dv29:f' 243 = .bool false:=hdn 29 _ 243 rfl (hl3 29 (by rfl)) rfl;have dv34:f' 248=undef:=hdn 34 _ 248 rfl (hl3 34 (by rfl)) rfl;have dv35:f' 249=undef:=hdn 35 _ 249 rfl (hl3 35 (by rfl)) rfl;clear hdn hl3;rw[dv29,dv34,dv35];clear dv29 dv34 dv35 gs18 gs21 gs22 gs23 gs26 gs29;refine Zab rfl ?_
              go_wp2_with fail
              exact Zaa ⟨_,rfl,Below.refl _ _,rfl⟩
            ·obtain rfl:=Option.some.inj hi
             cases bg with
             | true =>
              have dv29:f' 243 = .bool true:=hdn 29 _ 243 rfl (hl3 29 (by rfl)) rfl;have dv36:f' 250 = .pointer (some ⟨gb,ob4+ix,none⟩):=hdn 36 _ 250 rfl (hl3 36 (by rfl)) rfl;clear hdn hl3;rw[dv29,dv36];clear dv29 dv36 gs18 gs21 gs22 gs23 gs26 gs29;have rr:=(HB4S.o (by trivial)).2.2.1 w' hb.o;refine Zab rfl ?_
              go_wp2_with fail
              exact Zaa ⟨_,rfl,Below.refl _ _,rfl⟩
             | false =>
              have dv29:f' 243 = .bool false:=hdn 29 _ 243 rfl (hl3 29 (by rfl)) rfl;have dv36:f' 250=undef:=hdn 36 _ 250 rfl (hl3 36 (by rfl)) rfl;clear hdn hl3;rw[dv29,dv36];clear dv29 dv36 gs18 gs21 gs22 gs23 gs26 gs29;refine Zab rfl ?_
              go_wp2_with fail
              exact Zaa ⟨_,rfl,Below.refl _ _,rfl⟩
            ·obtain rfl:=Option.some.inj hi
             cases bg with
             | true =>
              have dv29:f' 243 = .bool true:=hdn 29 _ 243 rfl (hl3 29 (by rfl)) rfl;have dv33:f' 247 = .slice lro rl lk:=hdn 33 _ 247 rfl (hl3 33 (by rfl)) rfl;have dv37:f' 251 = .slice bro rb qk:=hdn 37 _ 251 rfl (hl3 37 (by rfl)) rfl;clear hdn hl3;rw[dv29,dv33,dv37];clear dv29 dv33 dv37 gs18 gs21 gs22 gs23 gs26 gs29;refine Zab rfl ?_
              go_wp2_with fail
              refine ((HB4S.o (by trivial)).2.2.2 w' hb.o).mono ?_;rintro e w4 ⟨rfl,b4⟩;have HB4:=ħ b4;clear b4
              go_wp2_with fail
              exact Zaa ⟨_,rfl,HB4.o,rfl⟩
             | false =>
              have dv29:f' 243 = .bool false:=hdn 29 _ 243 rfl (hl3 29 (by rfl)) rfl;have dv33:f' 247=undef:=hdn 33 _ 247 rfl (hl3 33 (by rfl)) rfl;have dv37:f' 251=undef:=hdn 37 _ 251 rfl (hl3 37 (by rfl)) rfl;clear hdn hl3;rw[dv29,dv33,dv37];clear dv29 dv33 dv37 gs18 gs21 gs22 gs23 gs26 gs29;refine Zab rfl ?_
              go_wp2_with fail
              exact Zaa ⟨_,rfl,Below.refl _ _,rfl⟩
            ·obtain rfl:=Option.some.inj hi
             cases bg with
             | true =>
              have dv29:f' 243 = .bool true:=hdn 29 _ 243 rfl (hl3 29 (by rfl)) rfl;have dv38:f' 252 = .bool true:=hdn 38 _ 252 rfl (hl3 38 (by rfl)) rfl;clear hdn hl3;rw[dv29,dv38];clear dv29 dv38 gs18 gs21 gs22 gs23 gs26 gs29;refine Zab rfl ?_
              go_wp2_with fail
              exact Zaa ⟨_,rfl,Below.refl _ _,rfl⟩
             | false =>
              have dv29:f' 243 = .bool false:=hdn 29 _ 243 rfl (hl3 29 (by rfl)) rfl;have dv38:f' 252=undef:=hdn 38 _ 252 rfl (hl3 38 (by rfl)) rfl;clear hdn hl3;rw[dv29,dv38];clear dv29 dv38 gs18 gs21 gs22 gs23 gs26 gs29;refine Zab rfl ?_
              go_wp2_with fail
              exact Zaa ⟨_,rfl,Below.refl _ _,rfl⟩
            ·obtain rfl:=Option.some.inj hi
             cases bg with
             | true =>
              have dv27:f' 241 = .bool false:=hdn 27 _ 241 rfl (hl3 27 (by rfl)) rfl;have dv29:f' 243 = .bool true:=hdn 29 _ 243 rfl (hl3 29 (by rfl)) rfl;have dv39:f' 253 = .bool false:=hdn 39 _ 253 rfl (hl3 39 (by rfl)) rfl;clear hdn hl3;rw[dv27,dv29,dv39];clear dv27 dv29 dv39 gs18 gs21 gs22 gs23 gs26 gs29;refine Zab rfl ?_
              go_wp2_with fail
              exact Zaa ⟨_,rfl,Below.refl _ _,rfl⟩
             | false =>
              have dv27:f' 241 = .bool false:=hdn 27 _ 241 rfl (hl3 27 (by rfl)) rfl;have dv29:f' 243 = .bool false:=hdn 29 _ 243 rfl (hl3 29 (by rfl)) rfl;have dv39:f' 253=undef:=hdn 39 _ 253 rfl (hl3 39 (by rfl)) rfl;clear hdn hl3;rw[dv27,dv29,dv39];clear dv27 dv29 dv39 gs18 gs21 gs22 gs23 gs26 gs29;refine Zab rfl ?_
              go_wp2_with fail
              exact Zaa ⟨_,rfl,Below.refl _ _,rfl⟩
            ·obtain rfl:=Option.some.inj hi
             have dv27:f' 241 = .bool false:=hdn 27 _ 241 rfl (hl3 27 (by rfl)) rfl;have dv40:f' 254 = .bool false:=hdn 40 _ 254 rfl (hl3 40 (by rfl)) rfl;clear hdn hl3;rw[dv27,dv40];clear dv27 dv40 gs18 gs21 gs22 gs23 gs26 gs29;refine Zab rfl ?_
             go_wp2_with fail
             exact Zaa ⟨_,rfl,Below.refl _ _,rfl⟩
           case he =>
            intro listed a' w4 H hall;have hd41:Z12 gl ol lc ga oa la ac gd od dc gb ob4 lb bc4 un ix rl lk ra rk rd sk rb qk ao bo4 lro aro sro bro vm bg 41 w4 (a'.tmps.getD 255 undef):=H.done 41 _ 255 rfl (hall 41 (by decide)) rfl;have hb4:=ħ H.below;have hact:=H.act [214,215,216,217,218,219,220,221,222,223,224,225,226,227,228,229,230,231,232,233,234,235,236,237,238,239,240,241,242,243,244,245,246,247,248,249,250,251,252,253,254,255] (Zeh (by kernel_rfl));clear H hall;simp only[List.foldl_cons,List.foldl_nil] at hact;generalize a'.tmps.getD 214 undef=z214 at *;generalize a'.tmps.getD 215 undef=z215 at *;generalize a'.tmps.getD 216 undef=z216 at *;generalize a'.tmps.getD 217 undef=z217 at *;generalize a'.tmps.getD 218 undef=z218 at *;generalize a'.tmps.getD 219 undef=z219 at *;generalize a'.tmps.getD 220 undef=z220 at *;generalize a'.tmps.getD 221 undef=z221 at *;generalize a'.tmps.getD 222 undef=z222 at *;generalize a'.tmps.getD 223 undef=z223 at *;generalize a'.tmps.getD 224 undef=z224 at *;generalize a'.tmps.getD 225 undef=z225 at *;generalize a'.tmps.getD 226 undef=z226 at *;generalize a'.tmps.getD 227 undef=z227 at *;generalize a'.tmps.getD 228 undef=z228 at *;generalize a'.tmps.getD 229 undef=z229 at *;generalize a'.tmps.getD 230 undef=z230 at *;generalize a'.tmps.getD 231 undef=z231 at *;generalize a'.tmps.getD 232 undef=z232 at *;generalize a'.tmps.getD 233 undef=z233 at *;generalize a'.tmps.getD 234 undef=z234 at *;generalize a'.tmps.getD 235 undef=z235 at *;generalize a'.tmps.getD 236 undef=z236 at *;generalize a'.tmps.getD 237 undef=z237 at *;generalize a'.tmps.getD 238 undef=z238 at *;generalize a'.tmps.getD 239 undef=z239 at *;generalize a'.tmps.getD 240 undef=z240 at *;generalize a'.tmps.getD 241 undef=z241 at *;generalize a'.tmps.getD 242 undef=z242 at *;generalize a'.tmps.getD 243 undef=z243 at *;generalize a'.tmps.getD 244 undef=z244 at *;generalize a'.tmps.getD 245 undef=z245 at *;generalize a'.tmps.getD 246 undef=z246 at *;generalize a'.tmps.getD 247 undef=z247 at *;generalize a'.tmps.getD 248 undef=z248 at *;generalize a'.tmps.getD 249 undef=z249 at *;generalize a'.tmps.getD 250 undef=z250 at *;generalize a'.tmps.getD 251 undef=z251 at *;generalize a'.tmps.getD 252 undef=z252 at *;generalize a'.tmps.getD 253 undef=z253 at *;generalize a'.tmps.getD 254 undef=z254 at *;generalize a'.tmps.getD 255 undef=z255 at *;subst hact;have e41:z255 = .bool false:=hd41;subst e41;clear hd41;simp only[Act.put,List.setIfInBounds_toArray,List.set_cons_succ,List.set_cons_zero];have L7:=ħ (LR.o.trans (hb4.o.mono LR.o.size));clear hb4 LR
            go_wp2_with fail
            go_roundw
            case rel=>exact⟨ix+1,by go_num,by have:=HII.o;omega,L7⟩
            case measure=>have:=HII.o;simp only[intOf];omega
          ·have ii:¬ (ix:Int)<un:=by omega
           have BG:=ħ (BF.o.trans (LR.o.mono BF.o.size))
           go_wp2_with fail
           go_ret;exact⟨rfl,BG.o⟩
end Go.Proofs.YtbcgocpihobjnaaGreatDoor
