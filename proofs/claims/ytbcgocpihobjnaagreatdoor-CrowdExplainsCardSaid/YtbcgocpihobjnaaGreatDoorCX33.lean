import Derived.BigQuiet
import Derived.Test.YtbcgocpihobjnaaGreatDoorCX32
import Derived.Test.YtbcgocpihobjnaaGreatDoorCX26
import Derived.Test.YtbcgocpihobjnaaGreatDoorCX24
import Derived.Test.YtbcgocpihobjnaaGreatDoorCX25
import Derived.Test.YtbcgocpihobjnaaGreatDoorCX27
import Derived.Test.YtbcgocpihobjnaaGreatDoorCX0
import Derived.Test.YtbcgocpihobjnaaGreatDoorCX22
import Derived.Test.YtbcgocpihobjnaaGreatDoorCX16
import Derived.Test.YtbcgocpihobjnaaGreatDoorCX11
import Derived.Test.YtbcgocpihobjnaaGreatDoorCX28
import Derived.Test.YtbcgocpihobjnaaGreatDoorCX23
import Derived.Test.YtbcgocpihobjnaaGreatDoorCX21
import Derived.Test.YtbcgocpihobjnaaGreatDoorCX2
import Derived.Test.YtbcgocpihobjnaaGreatDoorCX12
import Derived.Test.YtbcgocpihobjnaaGreatDoorShelf
import Derived.Test.YtbcgocpihobjnaaGreatDoorCX31
set_option linter.all false
set_option maxHeartbeats 16000000
set_option maxRecDepth 100000
namespace Go.Proofs.YtbcgocpihobjnaaGreatDoor
section
open Go.RowKit Go.Sort
theorem OwnK.setAt {w:World} {B k n cap g off:Nat} {xs:List Value} (h:OwnK w B k n cap xs (some ⟨g,off,none⟩)) (i:Nat) (hi:i<xs.length) (v:Value) :
  OwnK (w.setCell ⟨g,off+i,none⟩ v) B k n cap (xs.set i v) (some ⟨g,off,none⟩):=by
 cases h with
 | «at» g off h h1 h2 h3 =>
  have hth:=h.cells i xs[i] (List.getElem?_eq_getElem hi);have hsame:=World.cell?_setCell_same w ⟨g,off+i,none⟩ v hth
  have hoth:∀ j,i≠j→(w.setCell ⟨g,off+i,none⟩ v).cell? ⟨g,off+j,none⟩=w.cell? ⟨g,off+j,none⟩:=fun j hj=>World.cell?_setCell_other w _ _ v (fun e=>hj (by have:=congrArg Addr.off e;simp at this;exact this))
  refine .at g off ⟨h.own,by rw[World.size_setCell];exact h.lt,by rw[List.length_set];exact h.le,fun j u hj=>?_,fun j hj=>?_,fun j hj=>?_⟩ (by rw[List.length_set];exact h1) h2 h3
  ·rw[List.getElem?_set] at hj
   by_cases e:i=j
   ·subst e
    rw[if_pos rfl,if_pos hi] at hj;cases hj;exact hsame
   ·rw[if_neg e] at hj
    rw[hoth j e];exact h.cells j u hj
  ·by_cases e:i=j
   ·subst e;rw[hsame];rfl
   ·rw[hoth j e];exact h.room j hj
  ·show (w.setCells g (off+i) [v]).frozen? _=_
   rw[World.frozen?_setCells];exact h.warm j hj
end
section
open Go.RowKit Go.Sort
theorem Ze3.only {w w':World} {P p:Nat→Prop} {l:List Prd} {ao:Option Addr} (h:Ze3 w P l ao) (hb:Only w w' p) (hp:∀ g,P g→¬ p g):Ze3 w' P l ao:=by
 rcases h with h | ⟨g,off,h1,h2,h3,h4⟩
 ·exact .inl h
 ·exact .inr ⟨g,off,h1,h2,Nat.lt_of_lt_of_le h3 hb.size,Za6.keep (fun g hP hg=>hb.block g hg (hp g hP)) hb.size (fun g hg _=>hg) l g off h2 h3 h4⟩
theorem Ze3.mono {w:World} {P P':Nat→Prop} {l:List Prd} {ao:Option Addr} (h:Ze3 w P l ao) (hp:∀ g,P g→g<w.heap.size→P' g):Ze3 w P' l ao:=by
 rcases h with h | ⟨g,off,h1,h2,h3,h4⟩
 ·exact .inl h
 ·exact .inr ⟨g,off,h1,hp g h2 h3,h3,Za6.keep (fun g _ hg=>rfl) (Nat.le_refl _) hp l g off h2 h3 h4⟩
theorem Zds {bs:List Bool} {i:Nat} (h:i<bs.length):(bvs bs)[i]?=some (.bool (bs.getD i false)):=by
 unfold bvs;rw[List.getElem?_map,List.getElem?_eq_getElem h,List.getD_eq_getElem?_getD,List.getElem?_eq_getElem h];rfl
end
section
open Go.RowKit Go.Sort
def Zgv (w:World) (rows:List (List Bool)) (ao:Option Addr):Prop:=rows=[]∨∃ g off,ao=some ⟨g,off,none⟩∧g<w.heap.size∧∀ i row,rows[i]?=some row→∃ bo bc,w.cell? ⟨g,off+i,none⟩=some (.slice bo row.length bc)∧Zak Zc6 w bo row
theorem Zgv.below {w w':World} {rows:List (List Bool)} {ao:Option Addr} (h:Zgv w rows ao) (hb:Below w.heap.size w w'):Zgv w' rows ao:=by
 rcases h with h | ⟨g,off,h1,h2,h3⟩
 ·exact .inl h
 ·refine .inr ⟨g,off,h1,Nat.lt_of_lt_of_le h2 hb.size,fun i row hi=>?_⟩
  obtain⟨bo,bc,h4,h5⟩:=h3 i row hi;exact⟨bo,bc,by rw[World.cell?_of_block (w:=w) (a:=⟨g,off+i,none⟩) (hb.block g h2)];exact h4,h5.below hb⟩
theorem Zgv.at {w:World} {rows:List (List Bool)} {ao:Option Addr} (h:Zgv w rows ao) (i:Nat) (row:List Bool) (hi:rows[i]?=some row):∃ g off bo bc,ao=some ⟨g,off,none⟩∧g<w.heap.size∧w.cell? ⟨g,off+i,none⟩=some (.slice bo row.length bc)∧Zak Zc6 w bo row:=by
 rcases h with h | ⟨g,off,h1,h2,h3⟩
 ·rw[h] at hi;simp at hi
 ·obtain⟨bo,bc,h4,h5⟩:=h3 i row hi
  exact⟨g,off,bo,bc,h1,h2,h4,h5⟩
theorem Zi7 (l:List Bool):bvs l=l.flatMap Zc6:=by
 induction l with
 | nil=>rfl
 | cons x l ih=>show _::bvs l=_;rw[ih];rfl
theorem Zaf.flatB {w:World} {V:Nat} {l:List Bool} (h:Zaf w V 4 (bvs l)):Zak Zc6 w (some ⟨V,0,none⟩) l:=.inr ⟨V,0,rfl,h.lt,by rw[← Zi7];exact h.readsR⟩
structure ReckC (w:World) (c:Crw) (H C:List (List Bool)) (qo mo uo ho co:Option Addr):Prop where
 q:Ze3 w (fun _=>True) c.qs qo
 m:Zi3 w c.ms mo
 u:Zak Zbx w uo c.us
 h:Zgv w H ho
 c:Zgv w C co
theorem ReckC.below {w w':World} {c:Crw} {H C:List (List Bool)} {qo mo uo ho co:Option Addr} (h:ReckC w c H C qo mo uo ho co) (hb:Below w.heap.size w w'):ReckC w' c H C qo mo uo ho co :=
 ⟨h.q.below hb,h.m.below hb,h.u.below hb,h.h.below hb,h.c.below hb⟩
def Zd5 (c:Crw) (H C:List (List Bool)) (qo mo uo ho co:Option Addr) (qc mc uc hc cc:Nat):List Value:=[.slice qo c.qs.length qc,.slice mo c.ms.length mc,.slice uo c.us.length uc,.slice ho H.length hc,.slice co C.length cc]
def Za9 (w:World) (A:Nat) (c:Crw) (H C:List (List Bool)):Prop:=∃ qo mo uo ho co qc mc uc hc cc,Zaf w A 113 (Zd5 c H C qo mo uo ho co qc mc uc hc cc)∧ReckC w c H C qo mo uo ho co∧c.us.length≤uc∧C.length≤cc
theorem Za9.below {w w':World} {A:Nat} {c:Crw} {H C:List (List Bool)} (h:Za9 w A c H C) (hb:Below w.heap.size w w'):Za9 w' A c H C:=by
 obtain⟨qo,mo,uo,ho,co,qc,mc,uc,hc,cc,h1,h2,h3⟩:=h;exact⟨qo,mo,uo,ho,co,qc,mc,uc,hc,cc,h1.step hb,h2.below hb,h3⟩
def Zju (hb:Bool) (r f h:Int) (k:Nat):Bool:=hb&&(r == -1||decide (f≤r))&&(h == -1||h==(k:Int))
def Zx6 (c:Crw) (H:List (List Bool)) (x:Use) (k:Nat):Bool:=Zju ((H.getD x.q.toNat []).getD k false) (c.ms.getD k ⟨[],[],0⟩).r x.f x.h k
def Zcz (c:Crw) (H:List (List Bool)) (x:Use):List Bool:=(List.range c.ms.length).map (Zx6 c H x)
theorem Zf1 (c:Crw) (H:List (List Bool)) (x:Use):(Zcz c H x).length=c.ms.length:=by unfold Zcz;rw[List.length_map,List.length_range]
theorem Zta (w:World) (A:Nat) (c:Crw) (H C:List (List Bool)) (x:Use) (hr:Za9 w A c H C) (hq0:0≤x.q) (hq1:x.q.toNat<H.length) (hH:∀ r∈H,r.length=c.ms.length) (hm:c.ms.length≤1000000) :
  Calls Tryz.prog 120 #[.pointer (some ⟨A,0,none⟩),.agg (Zbx x).toArray] w fun e w'=>∃ bo,e = .returned (.slice bo c.ms.length c.ms.length)∧Zak Zc6 w' bo (Zcz c H x)∧(∃ V,bo=some ⟨V,0,none⟩∧w.heap.size≤V∧Zaf w' V 4 (bvs (Zcz c H x)))∧Below w.heap.size w w':=by
 obtain⟨qo,mo,uo,ho,co,qc,mc,uc,hc,cc,hA,hR,-⟩:=hr;obtain⟨hrow,hhrow⟩:∃ r,H[x.q.toNat]?=some r:=⟨_,List.getElem?_eq_getElem hq1⟩;have HRL:Hid (hrow.length=c.ms.length):=ħ (hH _ (List.mem_of_getElem? hhrow));obtain⟨qn,hqn⟩:∃ n:Nat,x.q=(n:Int):=⟨x.q.toNat,by omega⟩
 have hqn2:x.q.toNat=qn:=by omega
 rw[hqn2] at hhrow hq1
 have HRE:Hid (∀ k,Zx6 c H x k=Zju (hrow.getD k false) (c.ms.getD k ⟨[],[],0⟩).r x.f x.h k):=ħ (fun k=>by
  unfold Zx6
  rw[hqn2,List.getD_eq_getElem?_getD (l:=H),hhrow];rfl)
 have HM:=ħ (fun W (hW:Below w.heap.size w W)=>hR.m.below hW);have HH:=ħ (fun W (hW:Below w.heap.size w W)=>(hR.h.below hW).at qn hrow hhrow);have HA:=ħ (fun W (hW:Below w.heap.size w W)=>hA.step hW);have HF:Hid (Zcz c H x=(List.range c.ms.length).map (Zx6 c H x)):=ħ rfl;generalize Zx6 c H x=E at *;generalize Zcz c H x=RF at *;unfold Zd5 at HA;have HML:Hid (∀ k,k<c.ms.length→∃ m,c.ms[k]?=some m∧c.ms.getD k ⟨[],[],0⟩=m):=ħ (fun k hk=>⟨c.ms[k],List.getElem?_eq_getElem hk,by rw[List.getD_eq_getElem?_getD,List.getElem?_eq_getElem hk];rfl⟩);have HQL:Hid (qn<H.length):=ħ hq1
 have hql:(qn:Int)<(H.length:Nat):=by omega
 clear hR hA hhrow hH hq1;unfold Zbx;rw[hqn];generalize x.w=x1 at *;generalize x.f=xf at *;generalize x.h=xh at *;generalize H.length=nh at *;generalize C.length=ncn at *;generalize c.qs.length=nq at *;generalize c.us.length=nu at *;clear hqn hqn2 hq0;generalize hms:c.ms=ms at *;generalize hnm:ms.length=nm at *;clear hms;have bx:=(Below.refl w.heap.size w).alloc (Nat.le_refl _) (.cells #[.int .i64 (qn:Int),.int .i64 x1,.int .i64 xf,.int .i64 xh] 39);have B1:=ħ bx;have X1:Hid (Zaf (w.alloc (.cells #[.int .i64 (qn:Int),.int .i64 x1,.int .i64 xf,.int .i64 xh] 39)) w.heap.size 39 [.int .i64 (qn:Int),.int .i64 x1,.int .i64 xf,.int .i64 xh]):=ħ (heap_alloc_new w _);clear bx
 go_enter Tryz.func120,Tryz.ntmps120
 go_upto_region 1 with (fail)
 generalize w.alloc (.cells #[.int .i64 (qn:Int),.int .i64 x1,.int .i64 xf,.int .i64 xh] 39)=w1 at *;have a1:=(HA.o w1 B1.o).cell 1 _ rfl;have hmk:=run_make_row' (P:=Tryz.prog) 87 4 (.bool false) 1 Tryz.underlying87 Zdh rfl .i64 .i64 nm (by omega) (by omega);rw[Ze0] at hmk;have bx:=(Below.refl w1.heap.size w1).alloc (Nat.le_refl _) (.cells (bvs (List.replicate nm false)).toArray 4);have B2:=ħ (B1.o.trans (bx.mono B1.o.size));have X2:=ħ (X1.o.step bx);have V2:Hid (Zaf (w1.alloc (.cells (bvs (List.replicate nm false)).toArray 4)) w1.heap.size 4 (bvs (List.replicate nm false))):=ħ (heap_alloc_new _ _);have HVL:Hid (w.heap.size≤w1.heap.size∧w.heap.size<w1.heap.size):=ħ ⟨B1.o.size,X1.o.lt⟩;have a2:=(HA.o _ B2.o).cell 1 _ rfl;clear bx B1 X1
 go_wp2_with fail
 generalize hw2:w1.alloc (.cells (bvs (List.replicate nm false)).toArray 4)=w2 at *;clear hmk a1 a2 hw2;generalize w1.heap.size=V at *
 go_loopw [21] (fun kv wr=>∃ (k:Nat) (bs:List Bool),kv = .int .i64 k∧k≤nm∧Hid (bs.length=nm)∧Hid (∀ j,j<k→bs[j]?=some (E j))∧Hid (Zaf wr w.heap.size 39 [.int .i64 (qn:Int),.int .i64 x1,.int .i64 xf,.int .i64 xh])∧Hid (Zaf wr V 4 (bvs bs))∧Hid (Below w.heap.size w wr)) (fun k _=>(nm-intOf k).toNat)
 case atStart=>exact⟨0,List.replicate nm false,rfl,by omega,ħ (by simp),ħ (fun j hj=>absurd hj (Nat.not_lt_zero j)),X2,V2,B2⟩
 case round =>
  clear X2 V2 B2;obtain⟨k,bs,rfl,hk,hbl,hbs,X3,V3,B3⟩:=hrel;have e2:IntKind.i64.wrap ((k:Int)+1)=((k+1:Nat):Int):=IntWalk.i64_in _ (by omega);by_cases hlt:k<nm
  ·have kk:(k:Int)<nm:=by omega
   obtain⟨m,hmk,hmd⟩:=HML.o k hlt;have HEK:Hid (E k=Zju (hrow.getD k false) m.r xf xh k):=ħ (by rw[HRE.o,hmd]);obtain⟨gm,om,cs,hmo,hgm,hmc,hrd⟩:=(HM.o wr B3.o).at k m hmk;obtain⟨bo,bc,to',tc,rfl,-,-⟩:=hmc;have s0:=hrd 0 _ rfl;have s1:=hrd 1 _ rfl;have s2:=hrd 2 _ rfl;rw[Nat.add_zero] at s0;have HMO:=ħ hmo;generalize m.b.length=nb at *;generalize m.t.length=nt at *;generalize m.r=mr at *;have bx:=(Below.refl wr.heap.size wr).alloc (Nat.le_refl _) (.cells #[.slice bo nb bc,.slice to' nt tc,.int .i64 mr] 44);have S2:Hid (Zaf (wr.alloc (.cells #[.slice bo nb bc,.slice to' nt tc,.int .i64 mr] 44)) wr.heap.size 44 [.slice bo nb bc,.slice to' nt tc,.int .i64 mr]):=ħ (heap_alloc_new _ _);have X4:=ħ (X3.o.step bx);have V4:=ħ (V3.o.step bx);have B4:=ħ (B3.o.trans (bx.mono B3.o.size));clear hrd hgm hmk hmd bx X3 V3;subst hmo
   go_upto_region 5 with (fail)
   clear s0 s1 s2;generalize hW2:wr.alloc (.cells #[.slice bo nb bc,.slice to' nt tc,.int .i64 mr] 44)=W2 at *;clear hW2;generalize wr.heap.size=Mb at *;have a3:=(HA.o W2 B4.o).cell 3 _ rfl;obtain⟨gh,oh,rb,rc,hho,hgh,hrc,hrb⟩:=HH.o W2 B4.o;obtain⟨gb,ob,hbo,hbc⟩:=hrb.bool k (by rw[HRL.o];omega);rw[HRL.o] at hrc;have HHO:=ħ hho;have HBO:=ħ hbo;subst hho;subst hbo;have x0:=X4.o.cell 0 _ rfl;have x2:=X4.o.cell 2 _ rfl;have x3:=X4.o.cell 3 _ rfl;have m2:=S2.o.cell 2 _ rfl;generalize hrow.getD k false=hb at *;have c1:=cell_regrown a3;have c2:=cell_regrown hrc;have c3:=cell_regrown hbc;have c4:=cell_regrown x0;have c5:=cell_regrown x2;have c6:=cell_regrown x3;have c7:=cell_regrown m2;clear a3 hrc hbc x0 x2 x3 m2 hrb hgh;have kn:(k:Int)<(nm:Int):=kk
   cases hb with
   | false =>
    have HE:Hid (E k=false):=ħ (by rw[HEK.o];rfl);refine Za4 37 (by kernel_rfl) (by kernel_rfl) ?_;simp only[List.take_succ_cons,List.take_zero,List.drop_succ_cons,List.drop_zero]
    repeat (go_big_quiet_step (fail))
    refine wpQuiet_nil ?_;intro _ hw';obtain⟨⟨dq,osq⟩,hw''⟩:=hw';subst hw'';have hbb:=below_regrown W2 dq osq;have X5:=ħ (X4.o.step hbb);have V5:=ħ (V4.o.step hbb);have B5:=ħ (B4.o.trans (hbb.mono B4.o.size));clear c1 c2 c3 c4 c5 c6 c7 hbb X4 V4 B4 S2;generalize grow (redrawn W2 dq) osq=wd at *;have t0:=V5.o.cell k _ (Zds (by rw[hbl.o];exact hlt));have tf:=V5.o.warm k
    go_wp2_with fail
    clear t0 tf;have on:=(Only.refl wd (· = V)).setCell (a:=⟨V,k,none⟩) (.bool false) rfl;have V6:Hid (Zaf (wd.setCell ⟨V,k,none⟩ (.bool false)) V 4 (bvs (bs.set k false))):=ħ (by have:=V5.o.set k (.bool false);rwa [Zcx]);have X6:=ħ (X5.o.only on (fun e=>by have:=HVL.o.2;omega));have B6:=ħ (Only.later B5.o on (fun g hg=>by have:=HVL.o.1;omega));clear on;go_roundw
    case rel=>exact⟨k+1,bs.set k false,by go_num,by omega,ħ (by rw[List.length_set];exact hbl.o),ħ (fun j hj=>by
     rcases Nat.lt_or_ge j k with h | h
     ·rw[List.getElem?_set_ne (by omega)];exact hbs.o j h
     ·obtain rfl:j=k:=by omega
      rw[List.getElem?_set_self (by rw[hbl.o];exact hlt),HE.o]),X6,V6,B6⟩
    case measure=>simp only[intOf];omega
   | true =>
    by_cases h1:mr = -1
    ·have n1:(mr==(-1:Int))=true:=by rw[h1];rfl
     have h2:True:=trivial;by_cases h3:xh = -1
     ·have n3:(xh==(-1:Int))=true:=by rw[h3];rfl
      have HE:Hid (E k=true):=ħ (by rw[HEK.o];unfold Zju;simp[h1,h2,h3]<;>omega);refine Za4 37 (by kernel_rfl) (by kernel_rfl) ?_;simp only[List.take_succ_cons,List.take_zero,List.drop_succ_cons,List.drop_zero]
      repeat (go_big_quiet_step (fail))
      refine wpQuiet_nil ?_;intro _ hw';obtain⟨⟨dq,osq⟩,hw''⟩:=hw';subst hw'';have hbb:=below_regrown W2 dq osq;have X5:=ħ (X4.o.step hbb);have V5:=ħ (V4.o.step hbb);have B5:=ħ (B4.o.trans (hbb.mono B4.o.size));clear c1 c2 c3 c4 c5 c6 c7 hbb X4 V4 B4 S2;generalize grow (redrawn W2 dq) osq=wd at *;have t0:=V5.o.cell k _ (Zds (by rw[hbl.o];exact hlt));have tf:=V5.o.warm k
      go_wp2_with fail
      clear t0 tf;have on:=(Only.refl wd (· = V)).setCell (a:=⟨V,k,none⟩) (.bool true) rfl;have V6:Hid (Zaf (wd.setCell ⟨V,k,none⟩ (.bool true)) V 4 (bvs (bs.set k true))):=ħ (by have:=V5.o.set k (.bool true);rwa [Zcx]);have X6:=ħ (X5.o.only on (fun e=>by have:=HVL.o.2;omega));have B6:=ħ (Only.later B5.o on (fun g hg=>by have:=HVL.o.1;omega));clear on;go_roundw
      case rel=>exact⟨k+1,bs.set k true,by go_num,by omega,ħ (by rw[List.length_set];exact hbl.o),ħ (fun j hj=>by
       rcases Nat.lt_or_ge j k with h | h
       ·rw[List.getElem?_set_ne (by omega)];exact hbs.o j h
       ·obtain rfl:j=k:=by omega
        rw[List.getElem?_set_self (by rw[hbl.o];exact hlt),HE.o]),X6,V6,B6⟩
      case measure=>simp only[intOf];omega
     ·have n3:(xh==(-1:Int))=false:=by simpa using h3
      by_cases h4:xh=(k:Int)
      ·have n4:(xh==(k:Int))=true:=by rw[h4];simp
       have HE:Hid (E k=true):=ħ (by rw[HEK.o];unfold Zju;simp[h1,h2,h3,h4]<;>omega);clear h4;refine Za4 37 (by kernel_rfl) (by kernel_rfl) ?_;simp only[List.take_succ_cons,List.take_zero,List.drop_succ_cons,List.drop_zero]
       repeat (go_big_quiet_step (fail))
       refine wpQuiet_nil ?_;intro _ hw';obtain⟨⟨dq,osq⟩,hw''⟩:=hw';subst hw'';have hbb:=below_regrown W2 dq osq;have X5:=ħ (X4.o.step hbb);have V5:=ħ (V4.o.step hbb);have B5:=ħ (B4.o.trans (hbb.mono B4.o.size));clear c1 c2 c3 c4 c5 c6 c7 hbb X4 V4 B4 S2;generalize grow (redrawn W2 dq) osq=wd at *;have t0:=V5.o.cell k _ (Zds (by rw[hbl.o];exact hlt));have tf:=V5.o.warm k
       go_wp2_with fail
       clear t0 tf;have on:=(Only.refl wd (· = V)).setCell (a:=⟨V,k,none⟩) (.bool true) rfl;have V6:Hid (Zaf (wd.setCell ⟨V,k,none⟩ (.bool true)) V 4 (bvs (bs.set k true))):=ħ (by have:=V5.o.set k (.bool true);rwa [Zcx]);have X6:=ħ (X5.o.only on (fun e=>by have:=HVL.o.2;omega));have B6:=ħ (Only.later B5.o on (fun g hg=>by have:=HVL.o.1;omega));clear on;go_roundw
       case rel=>exact⟨k+1,bs.set k true,by go_num,by omega,ħ (by rw[List.length_set];exact hbl.o),ħ (fun j hj=>by
        rcases Nat.lt_or_ge j k with h | h
        ·rw[List.getElem?_set_ne (by omega)];exact hbs.o j h
        ·obtain rfl:j=k:=by omega
         rw[List.getElem?_set_self (by rw[hbl.o];exact hlt),HE.o]),X6,V6,B6⟩
       case measure=>simp only[intOf];omega
      ·have n4:(xh==(k:Int))=false:=by simpa using h4
       have HE:Hid (E k=false):=ħ (by rw[HEK.o];unfold Zju;simp[h1,h2,h3,h4]<;>omega);refine Za4 37 (by kernel_rfl) (by kernel_rfl) ?_;simp only[List.take_succ_cons,List.take_zero,List.drop_succ_cons,List.drop_zero]
       repeat (go_big_quiet_step (fail))
       refine wpQuiet_nil ?_;intro _ hw';obtain⟨⟨dq,osq⟩,hw''⟩:=hw';subst hw'';have hbb:=below_regrown W2 dq osq;have X5:=ħ (X4.o.step hbb);have V5:=ħ (V4.o.step hbb);have B5:=ħ (B4.o.trans (hbb.mono B4.o.size));clear c1 c2 c3 c4 c5 c6 c7 hbb X4 V4 B4 S2;generalize grow (redrawn W2 dq) osq=wd at *;have t0:=V5.o.cell k _ (Zds (by rw[hbl.o];exact hlt));have tf:=V5.o.warm k
       go_wp2_with fail
       clear t0 tf;have on:=(Only.refl wd (· = V)).setCell (a:=⟨V,k,none⟩) (.bool false) rfl;have V6:Hid (Zaf (wd.setCell ⟨V,k,none⟩ (.bool false)) V 4 (bvs (bs.set k false))):=ħ (by have:=V5.o.set k (.bool false);rwa [Zcx]);have X6:=ħ (X5.o.only on (fun e=>by have:=HVL.o.2;omega));have B6:=ħ (Only.later B5.o on (fun g hg=>by have:=HVL.o.1;omega));clear on;go_roundw
       case rel=>exact⟨k+1,bs.set k false,by go_num,by omega,ħ (by rw[List.length_set];exact hbl.o),ħ (fun j hj=>by
        rcases Nat.lt_or_ge j k with h | h
        ·rw[List.getElem?_set_ne (by omega)];exact hbs.o j h
        ·obtain rfl:j=k:=by omega
         rw[List.getElem?_set_self (by rw[hbl.o];exact hlt),HE.o]),X6,V6,B6⟩
       case measure=>simp only[intOf];omega
    ·have n1:(mr==(-1:Int))=false:=by simpa using h1
     by_cases h2:xf≤mr
     ·have i2:xf≤mr:=h2
      by_cases h3:xh = -1
      ·have n3:(xh==(-1:Int))=true:=by rw[h3];rfl
       have HE:Hid (E k=true):=ħ (by rw[HEK.o];unfold Zju;simp[h1,h2,h3]<;>omega);refine Za4 37 (by kernel_rfl) (by kernel_rfl) ?_;simp only[List.take_succ_cons,List.take_zero,List.drop_succ_cons,List.drop_zero]
       repeat (go_big_quiet_step (fail))
       refine wpQuiet_nil ?_;intro _ hw';obtain⟨⟨dq,osq⟩,hw''⟩:=hw';subst hw'';have hbb:=below_regrown W2 dq osq;have X5:=ħ (X4.o.step hbb);have V5:=ħ (V4.o.step hbb);have B5:=ħ (B4.o.trans (hbb.mono B4.o.size));clear c1 c2 c3 c4 c5 c6 c7 hbb X4 V4 B4 S2;generalize grow (redrawn W2 dq) osq=wd at *;have t0:=V5.o.cell k _ (Zds (by rw[hbl.o];exact hlt));have tf:=V5.o.warm k
       go_wp2_with fail
       clear t0 tf;have on:=(Only.refl wd (· = V)).setCell (a:=⟨V,k,none⟩) (.bool true) rfl;have V6:Hid (Zaf (wd.setCell ⟨V,k,none⟩ (.bool true)) V 4 (bvs (bs.set k true))):=ħ (by have:=V5.o.set k (.bool true);rwa [Zcx]);have X6:=ħ (X5.o.only on (fun e=>by have:=HVL.o.2;omega));have B6:=ħ (Only.later B5.o on (fun g hg=>by have:=HVL.o.1;omega));clear on;go_roundw
       case rel=>exact⟨k+1,bs.set k true,by go_num,by omega,ħ (by rw[List.length_set];exact hbl.o),ħ (fun j hj=>by
        rcases Nat.lt_or_ge j k with h | h
        ·rw[List.getElem?_set_ne (by omega)];exact hbs.o j h
        ·obtain rfl:j=k:=by omega
         rw[List.getElem?_set_self (by rw[hbl.o];exact hlt),HE.o]),X6,V6,B6⟩
       case measure=>simp only[intOf];omega
      ·have n3:(xh==(-1:Int))=false:=by simpa using h3
       by_cases h4:xh=(k:Int)
       ·have n4:(xh==(k:Int))=true:=by rw[h4];simp
        have HE:Hid (E k=true):=ħ (by rw[HEK.o];unfold Zju;simp[h1,h2,h3,h4]<;>omega);clear h4;refine Za4 37 (by kernel_rfl) (by kernel_rfl) ?_;simp only[List.take_succ_cons,List.take_zero,List.drop_succ_cons,List.drop_zero]
        repeat (go_big_quiet_step (fail))
        refine wpQuiet_nil ?_;intro _ hw';obtain⟨⟨dq,osq⟩,hw''⟩:=hw';subst hw'';have hbb:=below_regrown W2 dq osq;have X5:=ħ (X4.o.step hbb);have V5:=ħ (V4.o.step hbb);have B5:=ħ (B4.o.trans (hbb.mono B4.o.size));clear c1 c2 c3 c4 c5 c6 c7 hbb X4 V4 B4 S2;generalize grow (redrawn W2 dq) osq=wd at *;have t0:=V5.o.cell k _ (Zds (by rw[hbl.o];exact hlt));have tf:=V5.o.warm k
        go_wp2_with fail
        clear t0 tf;have on:=(Only.refl wd (· = V)).setCell (a:=⟨V,k,none⟩) (.bool true) rfl;have V6:Hid (Zaf (wd.setCell ⟨V,k,none⟩ (.bool true)) V 4 (bvs (bs.set k true))):=ħ (by have:=V5.o.set k (.bool true);rwa [Zcx]);have X6:=ħ (X5.o.only on (fun e=>by have:=HVL.o.2;omega));have B6:=ħ (Only.later B5.o on (fun g hg=>by have:=HVL.o.1;omega));clear on;go_roundw
        case rel=>exact⟨k+1,bs.set k true,by go_num,by omega,ħ (by rw[List.length_set];exact hbl.o),ħ (fun j hj=>by
         rcases Nat.lt_or_ge j k with h | h
         ·rw[List.getElem?_set_ne (by omega)];exact hbs.o j h
         ·obtain rfl:j=k:=by omega
          rw[List.getElem?_set_self (by rw[hbl.o];exact hlt),HE.o]),X6,V6,B6⟩
        case measure=>simp only[intOf];omega
       ·have n4:(xh==(k:Int))=false:=by simpa using h4
        have HE:Hid (E k=false):=ħ (by rw[HEK.o];unfold Zju;simp[h1,h2,h3,h4]<;>omega);refine Za4 37 (by kernel_rfl) (by kernel_rfl) ?_;simp only[List.take_succ_cons,List.take_zero,List.drop_succ_cons,List.drop_zero]
        repeat (go_big_quiet_step (fail))
        refine wpQuiet_nil ?_;intro _ hw';obtain⟨⟨dq,osq⟩,hw''⟩:=hw';subst hw'';have hbb:=below_regrown W2 dq osq;have X5:=ħ (X4.o.step hbb);have V5:=ħ (V4.o.step hbb);have B5:=ħ (B4.o.trans (hbb.mono B4.o.size));clear c1 c2 c3 c4 c5 c6 c7 hbb X4 V4 B4 S2;generalize grow (redrawn W2 dq) osq=wd at *;have t0:=V5.o.cell k _ (Zds (by rw[hbl.o];exact hlt));have tf:=V5.o.warm k
        go_wp2_with fail
        clear t0 tf;have on:=(Only.refl wd (· = V)).setCell (a:=⟨V,k,none⟩) (.bool false) rfl;have V6:Hid (Zaf (wd.setCell ⟨V,k,none⟩ (.bool false)) V 4 (bvs (bs.set k false))):=ħ (by have:=V5.o.set k (.bool false);rwa [Zcx]);have X6:=ħ (X5.o.only on (fun e=>by have:=HVL.o.2;omega));have B6:=ħ (Only.later B5.o on (fun g hg=>by have:=HVL.o.1;omega));clear on;go_roundw
        case rel=>exact⟨k+1,bs.set k false,by go_num,by omega,ħ (by rw[List.length_set];exact hbl.o),ħ (fun j hj=>by
         rcases Nat.lt_or_ge j k with h | h
         ·rw[List.getElem?_set_ne (by omega)];exact hbs.o j h
         ·obtain rfl:j=k:=by omega
          rw[List.getElem?_set_self (by rw[hbl.o];exact hlt),HE.o]),X6,V6,B6⟩
        case measure=>simp only[intOf];omega
     ·have i2:¬ xf≤mr:=h2
      have HE:Hid (E k=false):=ħ (by rw[HEK.o];unfold Zju;simp[h1,h2]<;>omega);refine Za4 37 (by kernel_rfl) (by kernel_rfl) ?_;simp only[List.take_succ_cons,List.take_zero,List.drop_succ_cons,List.drop_zero]
      repeat (go_big_quiet_step (fail))
      refine wpQuiet_nil ?_;intro _ hw';obtain⟨⟨dq,osq⟩,hw''⟩:=hw';subst hw'';have hbb:=below_regrown W2 dq osq;have X5:=ħ (X4.o.step hbb);have V5:=ħ (V4.o.step hbb);have B5:=ħ (B4.o.trans (hbb.mono B4.o.size));clear c1 c2 c3 c4 c5 c6 c7 hbb X4 V4 B4 S2;generalize grow (redrawn W2 dq) osq=wd at *;have t0:=V5.o.cell k _ (Zds (by rw[hbl.o];exact hlt));have tf:=V5.o.warm k
      go_wp2_with fail
      clear t0 tf;have on:=(Only.refl wd (· = V)).setCell (a:=⟨V,k,none⟩) (.bool false) rfl;have V6:Hid (Zaf (wd.setCell ⟨V,k,none⟩ (.bool false)) V 4 (bvs (bs.set k false))):=ħ (by have:=V5.o.set k (.bool false);rwa [Zcx]);have X6:=ħ (X5.o.only on (fun e=>by have:=HVL.o.2;omega));have B6:=ħ (Only.later B5.o on (fun g hg=>by have:=HVL.o.1;omega));clear on;go_roundw
      case rel=>exact⟨k+1,bs.set k false,by go_num,by omega,ħ (by rw[List.length_set];exact hbl.o),ħ (fun j hj=>by
       rcases Nat.lt_or_ge j k with h | h
       ·rw[List.getElem?_set_ne (by omega)];exact hbs.o j h
       ·obtain rfl:j=k:=by omega
        rw[List.getElem?_set_self (by rw[hbl.o];exact hlt),HE.o]),X6,V6,B6⟩
      case measure=>simp only[intOf];omega
  ·have kk:¬ (k:Int)<nm:=by omega
   obtain rfl:nm=k:=by omega
   have HFIN:Hid (RF=bs):=ħ (by
    rw[HF.o];apply List.ext_getElem?;intro j;by_cases hj:j<nm
    ·rw[hbs.o j hj,List.getElem?_map,List.getElem?_range hj];rfl
    ·rw[List.getElem?_eq_none (by simp;omega),List.getElem?_eq_none (by rw[hbl.o];omega)])
   go_wp2_with fail
   go_ret;exact⟨some ⟨V,0,none⟩,rfl,by rw[HFIN.o];exact V3.o.flatB,⟨V,rfl,HVL.o.1,by rw[HFIN.o];exact V3.o⟩,B3.o⟩
end
section
open Go.RowKit Go.Sort
def hmB (p:Prd) (m:Mem):Bool:=(Zjt p m.b).1&&((Zjt p m.b).2==0)
def Zaj (c:Crw):List (List Bool):=c.qs.map (fun p=>c.ms.map (hmB p))
def Zbb (c:Crw):List (List Bool):=c.us.map (Zcz c (Zaj c))
theorem Ztb {l:List Nat} (h:Zb8 l=true):NmB l:=by
 obtain⟨a,b,rfl,-,-,h1,h2,h3,h4⟩:=Ziw h;refine⟨fun y hy=>?_,?_⟩
 ·rcases List.mem_append.1 hy with h5 | h5
  ·have:=(h1 y h5).1;omega
  ·rcases List.mem_cons.1 h5 with h6 | h6
   ·omega
   ·have:=(h2 y h6).1;omega
 ·rw[List.length_append,List.length_cons];omega
theorem Z0x {l:List Bnd} (h:vbP l=true):BndOk l:=⟨fun b hb=>Ztb (Zs0 [] l h b hb).1⟩
theorem Zao {c:Crw} (h:Zam c=true):c.qs.length≤128∧c.ms.length≤64∧c.us.length≤4096∧(∀ p∈c.qs,Zbs p=true)∧(∀ m∈c.ms,Zd4 m=true)∧∀ x∈c.us,Zcm c.qs.length c.ms.length x=true:=by
 unfold Zam at h;simp only[Bool.and_eq_true,decide_eq_true_eq,Bool.not_eq_true',List.any_eq_false,Bool.not_eq_true,Bool.not_eq_false'] at h;obtain⟨⟨⟨⟨⟨h1,h2⟩,h3⟩,h4⟩,h5⟩,h6⟩:=h;exact⟨h1,h2,h3,fun p hp=>by simpa using h4 p hp,fun m hm=>by simpa using h5 m hm,fun x hx=>by simpa using h6 x hx⟩
theorem Ze1 {nq nm:Nat} {x:Use} (h:Zcm nq nm x=true):0≤x.q∧x.q.toNat<nq∧0≤x.w∧x.w≤15∧-1≤x.h∧x.h≤(nm:Int)-1:=by
 unfold Zcm inB at h;simp only[Bool.and_eq_true,decide_eq_true_eq] at h;omega
theorem Ztc {m:Mem} (h:Zd4 m=true):vbP m.b=true:=by
 unfold Zd4 at h;simp only[Bool.and_eq_true] at h;exact h.1.1.1
def BlE (w:World) (P:Nat→Prop) (c:List Bool) (vs:List Value):Prop:=∃ ao cap,vs=[.slice ao c.length cap]∧(c=[]∨∃ g off,ao=some ⟨g,off,none⟩∧P g∧g<w.heap.size∧Zas w g off (c.flatMap Zc6))
theorem BlE.keeps:Zqi BlE:=fun w w' P P' c vs hb hs hP ⟨ao,cap,hv,hk⟩=>⟨ao,cap,hv,by
 rcases hk with hk | ⟨g,off,h1,h2,h3,h4⟩
 ·exact .inl hk
 ·exact .inr ⟨g,off,h1,hP g h2 h3,Nat.lt_of_lt_of_le h3 hs,h4.of_block (hb g h2 h3)⟩⟩
theorem RowM.rowsB {base lo n cp:Nat} {w:World} {bad:Nat→Prop} {ao:Option Addr} {rows:List (List Bool)} {vss:List (List Value)} (h:RowM BlE 1 base w lo bad ao n cp rows vss):Zgv w rows ao:=by
 rcases Nat.eq_zero_or_pos rows.length with h0 | h0
 ·exact .inl (List.eq_nil_of_length_eq_zero h0)
 ·obtain⟨g,off,vs,h1,h2,-⟩:=h.at 0 rows[0] (List.getElem?_eq_getElem h0)
  refine .inr ⟨g,off,h1,h2,fun i row hi=>?_⟩;obtain⟨g',off',vs',h1',h2',-,-,-,h3',bo,bc,rfl,h5⟩:=h.at i row hi;rw[h1] at h1';cases h1';have:=h3' 0 _ rfl;rw[Nat.mul_one,Nat.add_zero] at this;refine⟨bo,bc,this,?_⟩;rcases h5 with h6 | ⟨g2,off2,h6,-,h7,h8⟩
  ·exact .inl h6
  ·exact .inr ⟨g2,off2,h6,h7,h8⟩
theorem Zc9:(Tryz.prog.info? 87).map (fun i=>(i.zero,i.size,i.bytes))=some (some (.slice none 0 0),1,24):=by kernel_rfl
theorem Zy5 {w:World} {B n cap:Nat} {l:List Bool} {ao:Option Addr} (h:OwnK w B 1 n cap (bvs l) ao) (hn:n=l.length) (P:Nat→Prop) (hP:∀ g,B≤g→P g):BlE w P l [.slice ao n cap]:=by
 refine⟨ao,cap,by rw[hn],?_⟩;rw[Zi7] at h;rcases h.flatR Zm4 hn with h1 | ⟨g,off,h1,h2,h3⟩
 ·exact .inl h1
 ·exact .inr ⟨g,off,h1,hP g (h.blk_lt (by rw[h1];rfl)).1,h2,h3⟩
theorem Zwu {w:World} {l:List Bool} {V cap:Nat} (h:Zaf w V 4 (bvs l)) (P:Nat→Prop) (hP:P V):BlE w P l [.slice (some ⟨V,0,none⟩) l.length cap]:=by
 refine⟨some ⟨V,0,none⟩,cap,rfl,.inr ⟨V,0,rfl,hP,h.lt,?_⟩⟩;rw[← Zi7];exact h.readsR
theorem RowM.cap_le {α:Type} {EL:World→(Nat→Prop)→α→List Value→Prop} {k base lo n cp:Nat} {w:World} {bad:Nat→Prop} {ao:Option Addr} {xs:List α} {vss:List (List Value)} (h:RowM EL k base w lo bad ao n cp xs vss):n≤cp:=by
 cases h.own with
 | nil _ h1 h2=>omega
 | «at» g off h1 h2 h3 h4=>exact h4
def Zh3 (w:World) (P:Nat→Prop) (rows:List (List Bool)) (ao:Option Addr):Prop:=rows=[]∨∃ g off,ao=some ⟨g,off,none⟩∧P g∧g<w.heap.size∧∀ i row,rows[i]?=some row→∃ bo bc,w.cell? ⟨g,off+i,none⟩=some (.slice bo row.length bc)∧(row=[]∨∃ g2 off2,bo=some ⟨g2,off2,none⟩∧P g2∧g2<w.heap.size∧Zas w g2 off2 (row.flatMap Zc6))
theorem RowM.rowsP {base lo n cp:Nat} {w:World} {bad:Nat→Prop} {ao:Option Addr} {rows:List (List Bool)} {vss:List (List Value)} (h:RowM BlE 1 base w lo bad ao n cp rows vss) (P:Nat→Prop) (h1:∀ g,lo≤g→P g) (h2:∀ g,base≤g→P g):Zh3 w P rows ao:=by
 rcases Nat.eq_zero_or_pos rows.length with h0 | h0
 ·exact .inl (List.eq_nil_of_length_eq_zero h0)
 ·obtain⟨g,off,vs,e1,e2,e3,-⟩:=h.at 0 rows[0] (List.getElem?_eq_getElem h0)
  refine .inr ⟨g,off,e1,h1 g e3,e2,fun i row hi=>?_⟩;obtain⟨g',off',vs',h1',h2',-,-,-,h3',bo,bc,rfl,h5⟩:=h.at i row hi;rw[e1] at h1';cases h1';have:=h3' 0 _ rfl;rw[Nat.mul_one,Nat.add_zero] at this;refine⟨bo,bc,this,?_⟩;rcases h5 with h6 | ⟨g2,off2,h6,h9,h7,h8⟩
  ·exact .inl h6
  ·exact .inr ⟨g2,off2,h6,h2 g2 h9.1,h7,h8⟩
theorem Zh3.rowsB {w w':World} {P p:Nat→Prop} {rows:List (List Bool)} {ao:Option Addr} (h:Zh3 w P rows ao) (on:Only w w' p) (hp:∀ g,P g→¬ p g):Zgv w' rows ao:=by
 rcases h with h | ⟨g,off,h1,hP,h2,h3⟩
 ·exact .inl h
 ·refine .inr ⟨g,off,h1,Nat.lt_of_lt_of_le h2 on.size,fun i row hi=>?_⟩
  obtain⟨bo,bc,h4,h5⟩:=h3 i row hi;refine⟨bo,bc,by rw[World.cell?_of_block (w:=w) (a:=⟨g,off+i,none⟩) (on.block g h2 (hp g hP))];exact h4,?_⟩;rcases h5 with h6 | ⟨g2,off2,h6,h9,h7,h8⟩
  ·exact .inl h6
  ·exact .inr ⟨g2,off2,h6,Nat.lt_of_lt_of_le h7 on.size,h8.of_block (on.block g2 h7 (hp g2 h9))⟩
def Zdi (w:World) (Q:Nat→Prop) (A:Nat) (c:Crw) (H C:List (List Bool)):Prop:=∃ qo mo uo ho co qc mc uc hc cc,Zaf w A 113 (Zd5 c H C qo mo uo ho co qc mc uc hc cc)∧¬ Q A∧c.us.length≤uc∧C.length≤cc ∧
 (∀ W,Only w W Q→ReckC W c H C qo mo uo ho co)∧(C=[]∨∃ g off,co=some ⟨g,off,none⟩∧g<w.heap.size∧¬ Q g∧∀ i row,C[i]?=some row→∃ bo bc,w.cell? ⟨g,off+i,none⟩=some (.slice bo row.length bc)∧∀ W,Only w W Q→Zak Zc6 W bo row)
theorem Zh3.only {w w':World} {P p:Nat→Prop} {rows:List (List Bool)} {ao:Option Addr} (h:Zh3 w P rows ao) (on:Only w w' p) (hp:∀ g,P g→¬ p g):Zh3 w' P rows ao:=by
 rcases h with h | ⟨g,off,h1,hP,h2,h3⟩
 ·exact .inl h
 ·refine .inr ⟨g,off,h1,hP,Nat.lt_of_lt_of_le h2 on.size,fun i row hi=>?_⟩
  obtain⟨bo,bc,h4,h5⟩:=h3 i row hi;refine⟨bo,bc,by rw[World.cell?_of_block (w:=w) (a:=⟨g,off+i,none⟩) (on.block g h2 (hp g hP))];exact h4,?_⟩;rcases h5 with h6 | ⟨g2,off2,h6,h9,h7,h8⟩
  ·exact .inl h6
  ·exact .inr ⟨g2,off2,h6,h9,Nat.lt_of_lt_of_le h7 on.size,h8.of_block (on.block g2 h7 (hp g2 h9))⟩
theorem Zh3.mono {w:World} {P P':Nat→Prop} {rows:List (List Bool)} {ao:Option Addr} (h:Zh3 w P rows ao) (hp:∀ g,P g→P' g):Zh3 w P' rows ao:=by
 rcases h with h | ⟨g,off,h1,hP,h2,h3⟩
 ·exact .inl h
 ·refine .inr ⟨g,off,h1,hp g hP,h2,fun i row hi=>?_⟩
  obtain⟨bo,bc,h4,h5⟩:=h3 i row hi;refine⟨bo,bc,h4,?_⟩;rcases h5 with h6 | ⟨g2,off2,h6,h9,h7,h8⟩
  ·exact .inl h6
  ·exact .inr ⟨g2,off2,h6,hp g2 h9,h7,h8⟩
def Zy6 (w w':World) (A:Nat) (c:Crw) (cs:List Value):Prop:=∀ (w0:World) (Q:Nat→Prop),Zgs w0 c cs→Below w0.heap.size w0 w→(∀ g,Q g→w0.heap.size≤g∧g<w.heap.size)→Zdi w' Q A c (Zaj c) (Zbb c)
theorem Zy7 {w w':World} {A:Nat} {c:Crw} {H C:List (List Bool)} {qo mo uo ho co:Option Addr} {qc mc uc hc cc:Nat} (hH0:H=Zaj c) (hC0:C=Zbb c) (hA:Zaf w' A 113 (Zd5 c H C qo mo uo ho co qc mc uc hc cc)) (hAA:w.heap.size≤A) (hb:Below w.heap.size w w') (hcu:c.us.length≤uc) (hcc:C.length≤cc)
  (hH:Zh3 w' (fun g=>w.heap.size≤g) H ho) (hC:Zh3 w' (fun g=>w.heap.size≤g) C co):Zy6 w w' A c [.slice qo c.qs.length qc,.slice mo c.ms.length mc,.slice uo c.us.length uc]:=by
 subst hH0 hC0;intro w0 Q hc0 hb0 hQ;obtain⟨qo',qc',mo',mc',uo',uc',e0,hq0,hm0,hu0,-⟩:=hc0;simp only[List.cons.injEq,Value.slice.injEq,and_true] at e0;obtain⟨⟨e1,-⟩,⟨e2,-⟩,⟨e3,-⟩⟩:=e0;subst e1 e2 e3
 have hnew:∀ g,w.heap.size≤g→¬ Q g:=fun g h1 h2=>by have:=(hQ g h2).2;omega
 have hb1:Below w0.heap.size w0 w':=hb0.trans (hb.mono hb0.size);refine⟨qo,mo,uo,ho,co,qc,mc,uc,hc,cc,hA,hnew A hAA,hcu,hcc,fun W oW=>?_,?_⟩
 ·have hW:Below w0.heap.size w0 W:=oW.later hb1 (fun g h=>(hQ g h).1)
  exact⟨hq0.below hW,hm0.below hW,hu0.below hW,hH.rowsB oW hnew,hC.rowsB oW hnew⟩
 ·rcases hC with h | ⟨g,off,h1,hP,h2,h3⟩
  ·exact .inl h
  ·refine .inr ⟨g,off,h1,h2,hnew g hP,fun i row hi=>?_⟩
   obtain⟨bo,bc,h4,h5⟩:=h3 i row hi;refine⟨bo,bc,h4,fun W oW=>?_⟩;rcases h5 with h6 | ⟨g2,off2,h6,h9,h7,h8⟩
   ·exact .inl h6
   ·exact .inr ⟨g2,off2,h6,Nat.lt_of_lt_of_le h7 oW.size,h8.of_block (oW.block g2 h7 (hnew g2 h9))⟩
def Zx7 (w:World) (c:Crw) (cs:List Value) (e:Ending) (w':World):Prop :=
 (if Zam c=true then ∃ A,e = .returned (.tuple #[.pointer (some ⟨A,0,none⟩),.bool true])∧Za9 w' A c (Zaj c) (Zbb c)∧w.heap.size≤A∧Zy6 w w' A c cs
  else e = .returned (.tuple #[.pointer none,.bool false]))∧Below w.heap.size w w'
theorem Zd6 (w:World) (c:Crw) (cs:List Value) (hc:Zgs w c cs) (B:Nat) (hT:Tab w B) (hok:CrwOk c) :
  Calls Tryz.prog 81 #[.agg cs.toArray] w fun e w'=>Zx7 w c cs e w':=by
 have HVC:=ħ (fun W (hW:Below w.heap.size w W)=>Zkc W c cs (hc.below hW) B (Zbk.step (w:=w) hT hW) hok);obtain⟨qo,qc,mo,mc,uo,uc,rfl,hq,hm,hu,hcap⟩:=hc;have HCAP:=ħ hcap;have HQ:=ħ (fun W (hW:Below w.heap.size w W)=>hq.below hW);have HM:=ħ (fun W (hW:Below w.heap.size w W)=>hm.below hW);have HU:=ħ (fun W (hW:Below w.heap.size w W)=>hu.below hW);have HT:=ħ (fun W (hW:Below w.heap.size w W)=>(show Tab W B from Zbk.step (w:=w) hT hW));have hnq:=hok.nq;have hnm:=hok.nm;have hnu:=hok.nu;have HCN:=ħ (fun p (hp:p∈c.qs)=>(hok.q p hp).2);have HMN:=ħ (fun m (hm:m∈c.ms)=>(hok.m m hm).2.1);unfold Zx7;have HVP:=ħ (fun (h:Zam c=true)=>Zao h);have HHF:Hid (Zaj c=c.qs.map (fun p=>c.ms.map (hmB p))):=ħ rfl;have HCF:Hid (Zbb c=c.us.map (Zcz c (Zaj c))):=ħ rfl;generalize Zam c=vc at *;generalize hHF:Zaj c=HF at *;have HFD:=ħ hHF.symm;clear hHF;generalize hCF:Zbb c=CF at *;have HCD:=ħ hCF.symm;clear hCF;clear hq hm hu hok hT hcap;generalize hqs:c.qs.length=nq at *;generalize hmsl:c.ms.length=nm at *;generalize husl:c.us.length=nu at *;have HNQ:=ħ hqs;have HNM:=ħ hmsl;have HNU:=ħ husl;clear hqs hmsl husl;have bx:=(Below.refl w.heap.size w).alloc (Nat.le_refl _) (.cells #[.slice qo nq qc,.slice mo nm mc,.slice uo nu uc] 26);have B1:=ħ bx;have X1:Hid (Zaf (w.alloc (.cells #[.slice qo nq qc,.slice mo nm mc,.slice uo nu uc] 26)) w.heap.size 26 [.slice qo nq qc,.slice mo nm mc,.slice uo nu uc]):=ħ (heap_alloc_new w _);clear bx
 go_enter Tryz.func81,Tryz.ntmps81
 go_upto_region 1 with (fail)
 generalize w.alloc (.cells #[.slice qo nq qc,.slice mo nm mc,.slice uo nu uc] 26)=w1 at *;have c0:=X1.o.cell 0 _ rfl;have c1:=X1.o.cell 1 _ rfl;have c2:=X1.o.cell 2 _ rfl
 go_wp2_with fail
 refine (HVC.o w1 B1.o).mono ?_;rintro e w2 ⟨rfl,b2⟩;have B2:=ħ (B1.o.trans (b2.mono B1.o.size));have X2:=ħ (X1.o.step b2);clear b2 c0 c1 c2 B1 X1 HVC
 cases vc with
 | false =>
  go_wp2_with fail
  ((try simp only[Exit.inBlock,Exit.then]);refine bodyPost_ret (results_tmp2 rfl _ _ _) rfl ?_)
  exact⟨rfl,B2.o⟩
 | true =>
  obtain⟨h1,h2,h3,h4,h5,h6⟩:=HVP.o rfl;have HPV:=ħ h4;have HMV:=ħ h5;have HUV:=ħ h6;clear h4 h5 h6 HVP;have c0:=X2.o.cell 0 _ rfl;have c1:=X2.o.cell 1 _ rfl;have c2:=X2.o.cell 2 _ rfl;have bx:=(Below.refl w2.heap.size w2).alloc (Nat.le_refl _) (.cells #[.slice qo nq qc,.slice mo nm mc,.slice uo nu uc,.slice none 0 0,.slice none 0 0] 113);have B3:=ħ (B2.o.trans (bx.mono B2.o.size));have X3:=ħ (X2.o.step bx);have A3:Hid (Zaf (w2.alloc (.cells #[.slice qo nq qc,.slice mo nm mc,.slice uo nu uc,.slice none 0 0,.slice none 0 0] 113)) w2.heap.size 113 [.slice qo nq qc,.slice mo nm mc,.slice uo nu uc,.slice none 0 0,.slice none 0 0]):=ħ (heap_alloc_new _ _);have HAB:Hid (w.heap.size≤w2.heap.size∧w.heap.size<w2.heap.size):=ħ ⟨B2.o.size,X2.o.lt⟩;clear bx
  go_upto_region 4 with (fail)
  generalize hw3:w2.alloc (.cells #[.slice qo nq qc,.slice mo nm mc,.slice uo nu uc,.slice none 0 0,.slice none 0 0] 113)=w3 at *
  have hs3:w3.heap.size=w2.heap.size+1:=by rw[← hw3];simp
  have HS3:=ħ hs3;clear hw3 hs3 c0 c1 c2 X2 B2;generalize w2.heap.size=A at *;have R3:Hid (RowM BlE 1 (A+1) w3 (A+1) (· = A) none 0 0 (HF.take 0) []):=ħ (by rw[List.take_zero];exact RowM.nil _ _ _);have c0:=X3.o.cell 0 _ rfl
  go_wp2_with fail
  clear c0
  go_loopw [23] (fun iv wr=>∃ (i:Nat) (ho:Option Addr) (hc:Nat) (vss:List (List Value)),iv = .int .i64 i∧i≤nq∧Hid (Zaf wr A 113 [.slice qo nq qc,.slice mo nm mc,.slice uo nu uc,.slice ho i hc,.slice none 0 0])∧Hid (RowM BlE 1 (A+1) wr (A+1) (· = A) ho i hc (HF.take i) vss)∧Hid (Zaf wr w.heap.size 26 [.slice qo nq qc,.slice mo nm mc,.slice uo nu uc])∧Hid (Below w.heap.size w wr)∧Hid (A+1≤wr.heap.size)) (fun i _=>(nq-intOf i).toNat)
  case atStart=>exact⟨0,none,0,[],rfl,by omega,A3,R3,X3,B3,ħ (by rw[HS3.o];exact Nat.le_refl _)⟩
  case round =>
   clear A3 R3 X3 B3 HS3;obtain⟨i,ho,hc,vss,rfl,hi,A4,R4,X4,B4,L4⟩:=hrel;have e2:IntKind.i64.wrap ((i:Int)+1)=((i+1:Nat):Int):=IntWalk.i64_in _ (by omega);by_cases hlt:i<nq
   ·have ii:(i:Int)<nq:=by omega
    obtain⟨p,hp⟩:∃ p,c.qs[i]?=some p:=⟨_,List.getElem?_eq_getElem (by rw[HNQ.o];exact hlt)⟩;have HPM:=ħ (List.mem_of_getElem? hp);have hpv:=HPV.o p HPM.o;have HHO:=ħ (fun W vs (hpc:Zal W (fun _=>True) p vs) (hT:Tab W B) m (hm:m∈c.ms) bo bc (hb:Zvk W (fun _=>True) m.b bo)=>Zs2 p W (fun _=>True) (fun _=>True) vs B m.b bo m.b.length bc (HCN.o p HPM.o) (Zpl p (Zqf hpv)) hpc hT rfl (HMN.o m hm) (Z0x (Ztc (HMV.o m hm))) hb);have HRI:Hid (HF.take (i+1)=HF.take i++[c.ms.map (hmB p)]):=ħ (by rw[List.take_add_one,HHF.o,List.getElem?_map,hp];rfl);obtain⟨g,off,vs,hao,hgl,hpc,hrd⟩:=(HQ.o wr B4.o).at i p hp;obtain⟨xa,xn,xc,hvf,-⟩:=hpc.form;subst hvf;have HPC:=ħ (fun W (hW:Below wr.heap.size wr W)=>hpc.below hW);have s0:=hrd 0 _ rfl;have s1:=hrd 1 _ rfl;have s2:=hrd 2 _ rfl;have s3:=hrd 3 _ rfl;have s4:=hrd 4 _ rfl;rw[Nat.add_zero] at s0;clear hp hpc hrd hgl hpv;subst hao;generalize hR:c.ms.map (hmB p)=RW at *;have HRL:Hid (RW.length=nm):=ħ (by rw[← hR,List.length_map,HNM.o]);have HRG:Hid (∀ k m,c.ms[k]?=some m→RW[k]?=some (hmB p m)):=ħ (fun k m h=>by rw[← hR,List.getElem?_map,h];rfl);clear hR;have HHP:Hid (∀ m,hmB p m=((Zjt p m.b).1&&((Zjt p m.b).2==0))):=ħ (fun m=>rfl);generalize p.k=q0 at *;generalize Zag p.l=q1 at *;generalize Zag p.r=q2 at *;generalize p.c=q3 at *;have bx:=(Below.refl wr.heap.size wr).alloc (Nat.le_refl _) (.cells #[.int .i64 q0,.string q1,.string q2,.int .i64 q3,.slice xa xn xc] 54);have P5:Hid (Zaf (wr.alloc (.cells #[.int .i64 q0,.string q1,.string q2,.int .i64 q3,.slice xa xn xc] 54)) wr.heap.size 54 [.int .i64 q0,.string q1,.string q2,.int .i64 q3,.slice xa xn xc]):=ħ (heap_alloc_new _ _);have BX:=ħ bx;clear bx
    go_upto_region 7 with (fail)
    clear s0 s1 s2 s3 s4;generalize wr.alloc (.cells #[.int .i64 q0,.string q1,.string q2,.int .i64 q3,.slice xa xn xc] 54)=w5 at *;have X5:=ħ (X4.o.step BX.o);have x1:=X5.o.cell 1 _ rfl
    go_wp2_with fail
    clear x1;have HP5:=ħ (fun W (hW:Below w5.heap.size w5 W)=>HPC.o W (BX.o.trans (hW.mono BX.o.size)));have B5:=ħ (B4.o.trans (BX.o.mono B4.o.size));have A5:=ħ (A4.o.step BX.o);have R5:=ħ (R4.o.step BlE.keeps BX.o);have HL5:Hid (∀ g,blk ho=some g→g<w5.heap.size):=ħ (fun g hg=>(R5.o.own.blk_lt hg).2);have L5:Hid (A+1≤w5.heap.size):=ħ (Nat.le_trans L4.o BX.o.size);have HPL:Hid (wr.heap.size<w5.heap.size):=ħ P5.o.lt;generalize wr.heap.size=PB at *;clear HPC BX A4 R4 X4 B4 L4
    go_loopw [7,30] (fun rv kv wq=>∃ (k:Nat) (ro:Option Addr) (rc:Nat),kv = .int .i64 k∧k≤nm∧rv = .slice ro k rc∧Hid (OwnK wq w5.heap.size 1 k rc (bvs (RW.take k)) ro)∧Hid (Zaf wq PB 54 [.int .i64 q0,.string q1,.string q2,.int .i64 q3,.slice xa xn xc])∧Hid (Below w5.heap.size w5 wq)) (fun _ k _=>(nm-intOf k).toNat)
    case atStart=>exact⟨0,none,0,rfl,by omega,rfl,ħ (.nil (by simp[bvs]) rfl rfl),P5,ħ (Below.refl _ _)⟩
    case round =>
     clear P5;obtain⟨k,ro,rc,rfl,hk,rfl,O6,P6,W6⟩:=hrel;have e3:IntKind.i64.wrap ((k:Int)+1)=((k+1:Nat):Int):=IntWalk.i64_in _ (by omega);by_cases hkn:k<nm
     ·have kk:(k:Int)<nm:=by omega
      obtain⟨m,hmk⟩:∃ m,c.ms[k]?=some m:=⟨_,List.getElem?_eq_getElem (by rw[HNM.o];exact hkn)⟩;have HRK:Hid (bvs (RW.take k)++[.bool (hmB p m)]=bvs (RW.take (k+1))):=ħ (by rw[List.take_add_one,HRG.o k m hmk];simp[bvs]);rw[HHP.o] at HRK;have B6:=ħ (B5.o.trans (W6.o.mono B5.o.size));obtain⟨gm,om,cs2,hmo,hgm,hmc,hrd⟩:=(HM.o wr B6.o).at k m hmk;obtain⟨bo,bc,to',tc,rfl,hbr,-⟩:=hmc;have s0:=hrd 0 _ rfl;have s1:=hrd 1 _ rfl;have s2:=hrd 2 _ rfl;rw[Nat.add_zero] at s0;have bx:=(Below.refl wr.heap.size wr).alloc (Nat.le_refl _) (.cells #[.slice bo m.b.length bc,.slice to' m.t.length tc,.int .i64 m.r] 44);have HCA:=ħ (HHO.o _ _ (HP5.o _ (W6.o.trans (bx.mono W6.o.size))) (HT.o _ (B6.o.trans (bx.mono B6.o.size))) m (List.mem_of_getElem? hmk) bo bc (hbr.below bx));have M7:Hid (Zaf (wr.alloc (.cells #[.slice bo m.b.length bc,.slice to' m.t.length tc,.int .i64 m.r] 44)) wr.heap.size 44 [.slice bo m.b.length bc,.slice to' m.t.length tc,.int .i64 m.r]):=ħ (heap_alloc_new _ _);have P7:=ħ (P6.o.step bx);have O7:=ħ (O6.o.below bx);have W7:=ħ (W6.o.trans (bx.mono W6.o.size));clear hrd hgm hbr bx hmk P6 O6 W6 B6;have HMO:=ħ hmo;subst hmo;generalize m.t.length=nt at *;generalize m.r=mr at *
      go_upto_region 11 with (fail)
      clear s0 s1 s2;generalize wr.alloc (.cells #[.slice bo m.b.length bc,.slice to' nt tc,.int .i64 mr] 44)=w7 at *;generalize (Zjt p m.b).1=r1 at *;generalize (Zjt p m.b).2=r2 at *;generalize m.b.length=nb at *;have y0:=P7.o.cell 0 _ rfl;have y1:=P7.o.cell 1 _ rfl;have y2:=P7.o.cell 2 _ rfl;have y3:=P7.o.cell 3 _ rfl;have y4:=P7.o.cell 4 _ rfl;have m0:=M7.o.cell 0 _ rfl
      go_wp2_with fail
      refine HCA.o.mono ?_;rintro e w8 ⟨rfl,b8⟩;have O8:=ħ (O7.o.below b8);have P8:=ħ (P7.o.step b8);have W8:=ħ (W7.o.trans (b8.mono W7.o.size));clear b8 y0 y1 y2 y3 y4 m0 O7 P7 W7 HCA M7 HMO
      cases r1 with
      | false =>
       go_wp2_with (at_builtin;refine Zdm 87 4 (.bool false) 1 1 Tryz.underlying87 Zdh rfl (by omega) (by omega) w8 w5.heap.size rfl (.tmp 41) (.tmp 47) rfl ro rc k (bvs (RW.take k)) ?q1 O8.o W8.o.size 1 1 #[.bool false] 4 ?q2 rfl (by omega) ?q3 ?q4 ?_;(case q1=>rfl);(case q2=>rfl);(case q3=>simp[Value.oneCell']);(case q4=>omega);intro g5 off5 c5 wa o8 gr8 b8 or8;have O9:=ħ o8;have B9:=ħ b8;have P9:=ħ (P8.o.grownBy gr8 (fun e=>by have h:=(O8.o.blk_lt e).1;have:=HPL.o;omega));clear o8 gr8 b8 or8)
       have W9:=ħ (W8.o.trans B9.o);go_roundw
       case rel=>exact⟨k+1,some ⟨g5,off5,none⟩,c5,by go_num,by omega,rfl,ħ (by have h:=HRK.o;rw[Bool.false_and] at h;rw[← h];exact O9.o),P9,W9⟩
       case measure=>simp only[intOf];omega
      | true =>
       by_cases hr2:r2=0
       ·have n2:(r2==(0:Int))=true:=by rw[hr2];rfl
        have HRK2:Hid (bvs (RW.take k)++[.bool true]=bvs (RW.take (k+1))):=ħ (by have:=HRK.o;rwa [n2] at this);clear hr2
        go_wp2_with (at_builtin;refine Zdm 87 4 (.bool false) 1 1 Tryz.underlying87 Zdh rfl (by omega) (by omega) w8 w5.heap.size rfl (.tmp 41) (.tmp 47) rfl ro rc k (bvs (RW.take k)) ?q1 O8.o W8.o.size 1 1 #[.bool true] 4 ?q2 rfl (by omega) ?q3 ?q4 ?_;(case q1=>rfl);(case q2=>rfl);(case q3=>simp[Value.oneCell']);(case q4=>omega);intro g5 off5 c5 wa o8 gr8 b8 or8;have O9:=ħ o8;have B9:=ħ b8;have P9:=ħ (P8.o.grownBy gr8 (fun e=>by have h:=(O8.o.blk_lt e).1;have:=HPL.o;omega));clear o8 gr8 b8 or8)
        have W9:=ħ (W8.o.trans B9.o);go_roundw
        case rel=>exact⟨k+1,some ⟨g5,off5,none⟩,c5,by go_num,by omega,rfl,ħ (by rw[← HRK2.o];exact O9.o),P9,W9⟩
        case measure=>simp only[intOf];omega
       ·have n2:(r2==(0:Int))=false:=by simpa using hr2
        have HRK2:Hid (bvs (RW.take k)++[.bool false]=bvs (RW.take (k+1))):=ħ (by have:=HRK.o;rwa [n2] at this);clear hr2
        go_wp2_with (at_builtin;refine Zdm 87 4 (.bool false) 1 1 Tryz.underlying87 Zdh rfl (by omega) (by omega) w8 w5.heap.size rfl (.tmp 41) (.tmp 47) rfl ro rc k (bvs (RW.take k)) ?q1 O8.o W8.o.size 1 1 #[.bool false] 4 ?q2 rfl (by omega) ?q3 ?q4 ?_;(case q1=>rfl);(case q2=>rfl);(case q3=>simp[Value.oneCell']);(case q4=>omega);intro g5 off5 c5 wa o8 gr8 b8 or8;have O9:=ħ o8;have B9:=ħ b8;have P9:=ħ (P8.o.grownBy gr8 (fun e=>by have h:=(O8.o.blk_lt e).1;have:=HPL.o;omega));clear o8 gr8 b8 or8)
        have W9:=ħ (W8.o.trans B9.o);go_roundw
        case rel=>exact⟨k+1,some ⟨g5,off5,none⟩,c5,by go_num,by omega,rfl,ħ (by rw[← HRK2.o];exact O9.o),P9,W9⟩
        case measure=>simp only[intOf];omega
     ·have kk:¬ ((k:Int)<nm):=by omega
      obtain rfl:nm=k:=by omega
      have HTK:Hid (RW.take nm=RW):=ħ (List.take_of_length_le (by rw[HRL.o];exact Nat.le_refl _));have B6:=ħ (B5.o.trans (W6.o.mono B5.o.size));have A6:=ħ (A5.o.step W6.o);have X6:=ħ (X5.o.step W6.o);have R6:=ħ (R5.o.step BlE.keeps W6.o);have E6:Hid (BlE wr (fun g=>w5.heap.size≤g) RW [.slice ro nm rc]):=ħ (Zy5 (by have:=O6.o;rwa [HTK.o] at this) HRL.o.symm _ (fun g hg=>hg));have L6:Hid (A+1≤wr.heap.size):=ħ (Nat.le_trans L5.o W6.o.size);clear A5 X5 R5 O6;have a3:=A6.o.cell 3 _ rfl
      go_upto_region 15 with (first | fail | (at_builtin;refine Zdm 86 87 (.slice none 0 0) 1 24 Tryz.underlying86 Zc9 rfl (by omega) (by omega) wr (A+1) rfl (.tmp 54) (.tmp 56) rfl ho hc i vss.flatten ?t1 R6.o.own ?t5 1 1 #[.slice ro nm rc] 87 ?t2 rfl (by omega) ?t3 ?t4 ?_;(case t1=>rfl);(case t5=>exact L6.o);(case t2=>rfl);(case t3=>intro u hu;simp at hu;subst hu;rfl);(case t4=>omega);intro g5 off5 c5 wa o8 gr8 b8 or8;have HBG:Hid (A+1≤g5):=ħ (o8.blk_lt (g:=g5) rfl).1;have R8:=ħ (RowM.add BlE.keeps R6.o HL5.o L5.o (fun g hg=>by have:=L5.o;omega) E6.o rfl o8 gr8 or8);have A8:=ħ (A6.o.grownBy gr8 (fun e=>by have:=(R6.o.own.blk_lt e).1;omega));have X8:=ħ (X6.o.grownBy gr8 (fun e=>by have:=(R6.o.own.blk_lt e).1;have:=HAB.o.2;omega));have B8:=ħ (B6.o.trans (b8.mono (by have:=HAB.o.1;omega)));have t3:=A8.o.cell 3 _ rfl;have tf:=A8.o.warm 3;clear a3 o8 gr8 b8 or8))
      clear t3 tf;have on:=(Only.refl wa (· = A)).setCell (a:=⟨A,3,none⟩) (.slice (some ⟨g5,off5,none⟩) (i+1) c5) rfl;have A9:=ħ (A8.o.set 3 (.slice (some ⟨g5,off5,none⟩) (i+1) c5));have R9:=ħ (RowM.turn BlE.keeps R8.o on (fun g hg=>.inl hg) (fun g hg e=>by have:=HBG.o;have h:g5=g:=Option.some.inj hg;omega));have X9:=ħ (X8.o.only on (fun e=>by have:=HAB.o.2;omega));have B9:=ħ (Only.later B8.o on (fun g hg=>by have:=HAB.o.1;omega));have L9:Hid (A+1≤(wa.setCell ⟨A,3,none⟩ (.slice (some ⟨g5,off5,none⟩) (i+1) c5)).heap.size):=ħ (by have:=A9.o.lt;omega);clear on A8 R8 X8 B8
      go_wp2_with fail
      go_roundw
      case rel=>exact⟨i+1,some ⟨g5,off5,none⟩,c5,vss++[[.slice ro nm rc]],by go_num,by omega,A9,ħ (by rw[HRI.o];exact R9.o),X9,B9,L9⟩
      case measure=>simp only[intOf];omega
   ·have ii:¬ ((i:Int)<nq):=by omega
    obtain rfl:nq=i:=by omega
    have HTF:Hid (HF.take nq=HF):=ħ (List.take_of_length_le (by rw[HHF.o,List.length_map,HNQ.o];exact Nat.le_refl _));have HFR:Hid (Zh3 wr (fun g=>A+1≤g) HF ho):=ħ (by have:=R4.o.rowsP (fun g=>A+1≤g) (fun g h=>h) (fun g h=>h);rwa [HTF.o] at this)
    have HFL:Hid (∀ r∈HF,r.length=c.ms.length):=ħ (by
     rw[HHF.o];intro r hr;obtain⟨p,-,rfl⟩:=List.mem_map.1 hr
     rw[List.length_map])
    have HFN:Hid (HF.length=nq):=ħ (by rw[HHF.o,List.length_map,HNQ.o]);have x2:=X4.o.cell 2 _ rfl
    go_wp2_with fail
    clear x2 R4 HTF HHF HPV HMV HCN HMN HT;have HWA:Hid (A<wr.heap.size∧w.heap.size<wr.heap.size):=ħ ⟨A4.o.lt,X4.o.lt⟩;generalize wr=wo at *;have RC:Hid (RowM BlE 1 wo.heap.size wo wo.heap.size (· = A) none 0 0 (CF.take 0) []):=ħ (by rw[List.take_zero];exact RowM.nil _ _ _)
    go_loopw [64] (fun jv wr=>∃ (j:Nat) (co:Option Addr) (cc:Nat) (vss:List (List Value)),jv = .int .i64 j∧j≤nu∧Hid (Zaf wr A 113 [.slice qo nq qc,.slice mo nm mc,.slice uo nu uc,.slice ho nq hc,.slice co j cc])∧Hid (RowM BlE 1 wo.heap.size wr wo.heap.size (· = A) co j cc (CF.take j) vss)∧Hid (Zaf wr w.heap.size 26 [.slice qo nq qc,.slice mo nm mc,.slice uo nu uc])∧Hid (Only wo wr (· = A))∧Hid (Below w.heap.size w wr)∧Hid (wo.heap.size≤wr.heap.size)) (fun j _=>(nu-intOf j).toNat)
    case atStart=>exact⟨0,none,0,[],rfl,by omega,A4,RC,X4,ħ (Only.refl _ _),B4,ħ (Nat.le_refl _)⟩
    case round =>
     clear A4 RC X4 B4;obtain⟨j,co,cc,vss,rfl,hj,A5,R5,X5,F5,B5,L5⟩:=hrel;have e3:IntKind.i64.wrap ((j:Int)+1)=((j+1:Nat):Int):=IntWalk.i64_in _ (by omega);by_cases hjn:j<nu
     ·have jj:(j:Int)<nu:=by omega
      obtain⟨x,hx⟩:∃ x,c.us[j]?=some x:=⟨_,List.getElem?_eq_getElem (by rw[HNU.o];exact hjn)⟩;have HXV:=ħ (Ze1 (HUV.o x (List.mem_of_getElem? hx)));have HCJ:Hid (CF.take (j+1)=CF.take j++[Zcz c HF x]):=ħ (by rw[List.take_add_one,HCF.o,List.getElem?_map,hx];rfl);have HCL:Hid ((CF.take j).length=j):=ħ (by rw[List.length_take,HCF.o,List.length_map,HNU.o];omega);obtain⟨gu,ou,huo,hgu,hcu⟩:=(HU.o wr B5.o).at Za7 j x hx;have s0:=hcu 0 _ rfl;have s1:=hcu 1 _ rfl;have s2:=hcu 2 _ rfl;have s3:=hcu 3 _ rfl;rw[Nat.add_zero] at s0;have HUO:=ħ huo;have bx:=(Below.refl wr.heap.size wr).alloc (Nat.le_refl _) (.cells #[.int .i64 x.q,.int .i64 x.w,.int .i64 x.f,.int .i64 x.h] 39);have U6:Hid (Zaf (wr.alloc (.cells #[.int .i64 x.q,.int .i64 x.w,.int .i64 x.f,.int .i64 x.h] 39)) wr.heap.size 39 [.int .i64 x.q,.int .i64 x.w,.int .i64 x.f,.int .i64 x.h]):=ħ (heap_alloc_new _ _);have A6:=ħ (A5.o.step bx);have R6:=ħ (R5.o.step BlE.keeps bx);have X6:=ħ (X5.o.step bx);have F6:=ħ (F5.o.step bx);have B6:=ħ (B5.o.trans (bx.mono B5.o.size));have L6:Hid (wr.heap.size≤(wr.alloc (.cells #[.int .i64 x.q,.int .i64 x.w,.int .i64 x.f,.int .i64 x.h] 39)).heap.size):=ħ bx.size;have HKL:Hid (∀ g,blk co=some g→g<wr.heap.size):=ħ (fun g hg=>(R5.o.own.blk_lt hg).2);have HAL:Hid (A<wr.heap.size∧w.heap.size<wr.heap.size):=ħ ⟨A5.o.lt,X5.o.lt⟩;clear hx hgu hcu bx A5 R5 X5 F5 B5;subst huo;have HRO:=ħ (fun W (hr:Za9 W A c HF (CF.take j))=>Zta W A c HF (CF.take j) x hr HXV.o.1 (by rw[HFN.o];exact HXV.o.2.1) HFL.o (by rw[HNM.o];exact hnm));rw[HNM.o] at HRO;have HRL:=ħ (Zf1 c HF x);rw[HNM.o] at HRL;generalize hRX:Zcz c HF x=RX at *;clear hRX;unfold Zbx at HRO;generalize x.q=u0 at *;generalize x.w=u1 at *;generalize x.f=u2 at *;generalize x.h=u3 at *
      go_upto_region 19 with (fail)
      clear s0 s1 s2 s3;generalize wr.alloc (.cells #[.int .i64 u0,.int .i64 u1,.int .i64 u2,.int .i64 u3] 39)=wx at *;refine Zax [0,1,2,3,4,5,6] [7,8,9,10,11,12] (fun w'=>Zaf w' A 113 [.slice qo nq qc,.slice mo nm mc,.slice (some ⟨gu,ou,none⟩) nu uc,.slice ho nq hc,.slice co j cc]∧Zaf w' wr.heap.size 39 [.int .i64 u0,.int .i64 u1,.int .i64 u2,.int .i64 u3]) (by kernel_rfl) (by kernel_rfl) (by kernel_rfl) (fun _ _ d _ _ h=>by cases d<;>exact h) ⟨A6.o.step (Below.refl _ _).drew,U6.o.step (Below.refl _ _).drew⟩ ?_;simp only[Zbq,List.filterMap_cons,List.filterMap_nil,List.getElem?_cons_zero,List.getElem?_cons_succ,Option.map_some,List.map_cons,List.map_nil];apply Exists.intro;refine⟨?hh,?ht⟩
      case hh =>
       intro w' hw';have c4:=hw'.1.cell 4 _ rfl;have p0:=hw'.2.cell 0 _ rfl;have p1:=hw'.2.cell 1 _ rfl;have p2:=hw'.2.cell 2 _ rfl;have p3:=hw'.2.cell 3 _ rfl;clear hw'
       repeat still_step
       exact wpStill_nil rfl
      case ht =>
       have BD:=(Below.refl wx.heap.size wx).drew;have A7:=ħ (A6.o.step BD);have U7:=ħ (U6.o.step BD);have R7:=ħ (R6.o.step BlE.keeps BD);have X7:=ħ (X6.o.step BD);have F7:=ħ (F6.o.step BD);have B7:=ħ (B6.o.trans (BD.mono B6.o.size));have L7:Hid (wr.heap.size≤wx.drew.heap.size):=ħ (Nat.le_trans L6.o BD.size);clear BD A6 U6 R6 X6 F6 B6 L6;generalize wx.drew=wd at *;have HRQ:=ħ (HRO.o wd ⟨qo,mo,some ⟨gu,ou,none⟩,ho,co,qc,mc,uc,hc,cc,by unfold Zd5;rw[HFN.o,HCL.o,HNQ.o,HNM.o,HNU.o];exact A7.o,⟨HQ.o wd B7.o,HM.o wd B7.o,HU.o wd B7.o,HFR.o.rowsB F7.o (fun g hg e=>by omega),R7.o.rowsB⟩,by rw[HNU.o];exact HCAP.o,by rw[HCL.o];exact R7.o.cap_le⟩);refine Zah ?_
       go_wp2_with fail
       refine HRQ.o.mono ?_;rintro e w6 ⟨bo,rfl,-,⟨V,rfl,hV,hVB⟩,b6⟩;have A8:=ħ (A7.o.step b6);have U8:=ħ (U7.o.step b6);have R8:=ħ (R7.o.step BlE.keeps b6);have X8:=ħ (X7.o.step b6);have F8:=ħ (F7.o.step b6);have B8:=ħ (B7.o.trans (b6.mono B7.o.size));have E8:Hid (BlE w6 (fun g=>wr.heap.size≤g) RX [.slice (some ⟨V,0,none⟩) nm nm]):=ħ (by have:=Zwu (cap:=nm) hVB (fun g=>wr.heap.size≤g) (Nat.le_trans L7.o hV);rwa [HRL.o] at this);clear hV hVB b6 HRQ HRO A7 U7 R7 X7 F7 B7
       go_wp2_with fail
       refine Zaa ⟨⟨A8.o,U8.o⟩,?_⟩;refine Zah ?_
       go_wp2_with fail
       have bz:=(Below.refl w6.heap.size w6).alloc (Nat.le_refl _) (.cells #[.slice (some ⟨V,0,none⟩) nm nm] 87);refine Zaa ⟨⟨A8.o.step bz,U8.o.step bz⟩,?_⟩;clear bz;refine Zah ?_
       go_wp2_with (at_builtin;go_loud (refine Zdm 86 87 (.slice none 0 0) 1 24 Tryz.underlying86 Zc9 rfl (by omega) (by omega) w6 wo.heap.size rfl (.tmp 72) (.tmp 76) rfl co cc j vss.flatten ?t1 R8.o.own ?t5 1 1 #[.slice (some ⟨V,0,none⟩) nm nm] 87 ?t2 rfl (by omega) ?t3 ?t4 ?_;(case t1=>rfl);(case t5=>exact Nat.le_trans L5.o (Nat.le_of_lt U8.o.lt));(case t2=>rfl);(case t3=>intro u hu;simp at hu;subst hu;rfl);(case t4=>omega);intro g5 off5 c5 wa o8 gr8 b8 or8;have HBG:Hid (wo.heap.size≤g5):=ħ (o8.blk_lt (g:=g5) rfl).1;have HNE:Hid (∀ g,g<wo.heap.size→blk co≠some g):=ħ (fun g hg e=>by have:=(R8.o.own.blk_lt e).1;omega);have R9:=ħ (RowM.add BlE.keeps R8.o HKL.o L5.o (fun g hg=>by have:=HAL.o.1;omega) E8.o rfl o8 gr8 or8);have A9:=ħ (A8.o.grownBy gr8 (HNE.o A HWA.o.1));have X9:=ħ (X8.o.grownBy gr8 (HNE.o w.heap.size HWA.o.2));have U9:=ħ (U8.o.grownBy gr8 (fun e=>by have:=HKL.o wr.heap.size e;omega));have B9:=ħ (B8.o.trans (b8.mono (by have:=HWA.o.2;omega)));have F9:=ħ (F8.o.belowB b8);clear o8 gr8 b8 or8))
       refine Zaa ⟨⟨A9.o,U9.o⟩,?_⟩;refine Zah ?_
       go_wp2_with fail
       refine Zaa ⟨⟨A9.o,U9.o⟩,?_⟩;refine Zah ?_
       go_wp2_with fail
       refine Zaa ⟨⟨A9.o,U9.o⟩,?_⟩;refine Zbi ?_;have t3:=A9.o.cell 4 _ rfl;have tf:=A9.o.warm 4;have on:=(Only.refl wa (· = A)).setCell (a:=⟨A,4,none⟩) (.slice (some ⟨g5,off5,none⟩) (j+1) c5) rfl;have A10:=ħ (A9.o.set 4 (.slice (some ⟨g5,off5,none⟩) (j+1) c5));have R10:=ħ (RowM.turn BlE.keeps R9.o on (fun g hg=>.inl hg) (fun g hg e=>by have:=HBG.o;have:=HWA.o.1;have h:g5=g:=Option.some.inj hg;omega));have X10:=ħ (X9.o.only on (fun e=>by have:=HAB.o.2;omega));have B10:=ħ (Only.later B9.o on (fun g hg=>by have:=HAB.o.1;omega));have F10:=ħ (F9.o.setCell (a:=⟨A,4,none⟩) (.slice (some ⟨g5,off5,none⟩) (j+1) c5) rfl);have L10:Hid (wo.heap.size≤(wa.setCell ⟨A,4,none⟩ (.slice (some ⟨g5,off5,none⟩) (j+1) c5)).heap.size):=ħ F10.o.size;clear on A8 U8 R8 X8 F8 B8 E8
       go_wp2_with fail
       go_roundw
       case rel=>exact⟨j+1,some ⟨g5,off5,none⟩,c5,vss++[[.slice (some ⟨V,0,none⟩) nm nm]],by go_num,by omega,A10,ħ (by rw[HCJ.o];exact R10.o),X10,F10,B10,L10⟩
       case measure=>simp only[intOf];omega
     ·have jj:¬ ((j:Int)<nu):=by omega
      obtain rfl:nu=j:=by omega
      have HTC:Hid (CF.take nu=CF):=ħ (List.take_of_length_le (by rw[HCF.o,List.length_map,HNU.o];exact Nat.le_refl _));have HCN:Hid (CF.length=nu):=ħ (by rw[HCF.o,List.length_map,HNU.o])
      go_wp2_with fail
      ((try simp only[Exit.inBlock,Exit.then]);refine bodyPost_ret (results_tmp2 rfl _ _ _) rfl ?_)
      exact⟨⟨A,rfl,⟨qo,mo,uo,ho,co,qc,mc,uc,hc,cc,by unfold Zd5;rw[HFN.o,HCN.o,HNQ.o,HNM.o,HNU.o];exact A5.o,⟨HQ.o wr B5.o,HM.o wr B5.o,HU.o wr B5.o,HFR.o.rowsB F5.o (fun g hg e=>by omega),by have:=R5.o.rowsB;rwa [HTC.o] at this⟩,by rw[HNU.o];exact HCAP.o,by rw[HCN.o];exact R5.o.cap_le⟩,HAB.o.1,by rw[← HNQ.o,← HNM.o,← HNU.o];exact Zy7 HFD.o HCD.o (by unfold Zd5;rw[HFN.o,HCN.o,HNQ.o,HNM.o,HNU.o];exact A5.o) HAB.o.1 B5.o (by rw[HNU.o];exact HCAP.o) (by rw[HCN.o];exact R5.o.cap_le) ((HFR.o.only F5.o (fun g hg e=>by omega)).mono (fun g hg=>by have:=HAB.o.1;omega)) (by have:=R5.o.rowsP (fun g=>w.heap.size≤g) (fun g h=>by have:=HWA.o;omega) (fun g h=>by have:=HWA.o;omega);rwa [HTC.o] at this)⟩,B5.o⟩
end
section
open Go.RowKit Go.Sort
theorem Zqw (w:World) (B:Nat) (hB:B≤w.heap.size) (co:Option Addr) (n c:Nat) (rows:List (List Bool)) (hn:n=rows.length) (hn0:0<n) (hbig:n≤1000000) (h:Zgv w rows co) :
  ∃ vals:List Value,vals.length=n∧(∀ (i:Nat) (row:List Bool),rows[i]?=some row→∃ (bo:Option Addr) (bc:Nat),vals[i]?=some (Value.slice bo row.length bc)∧Zak Zc6 w bo row∧∀ g off,co=some ⟨g,off,none⟩→w.cell? ⟨g,off+i,none⟩=some (.slice bo row.length bc))∧∀ W,Below w.heap.size w W→Calls Tryz.prog 141 #[.slice co n c] W fun e w'=>∃ ko kc,e = .returned (.slice ko n kc)∧OwnK w' B 1 n kc vals ko∧Below W.heap.size W w':=by
 obtain⟨i0,hi,hz0,hz1,hz2⟩:=Zgg Zc9;rcases h with h | ⟨g,off,rfl,hg,hr⟩
 ·rw[h] at hn;simp at hn;omega
 have hex:∀ i,i<rows.length→∃ v:Value,∀ row,rows[i]?=some row→∃ (bo:Option Addr) (bc:Nat),w.cell? ⟨g,off+i,none⟩=some v∧v = .slice bo row.length bc∧Zak Zc6 w bo row:=fun i hi=>by
  obtain⟨bo,bc,h1,h2⟩:=hr i rows[i] (List.getElem?_eq_getElem hi);refine⟨.slice bo rows[i].length bc,fun row hrow=>?_⟩;rw[List.getElem?_eq_getElem hi] at hrow;obtain rfl:=Option.some.inj hrow;exact⟨bo,bc,h1,rfl,h2⟩
 let vals:List Value:=(List.range rows.length).map (fun i=>if h:i<rows.length then (hex i h).choose else undef)
 have hv:∀ (i:Nat) (row:List Bool),rows[i]?=some row→∃ (bo:Option Addr) (bc:Nat),vals[i]?=some (Value.slice bo row.length bc)∧w.cell? ⟨g,off+i,none⟩=some (.slice bo row.length bc)∧Zak Zc6 w bo row:=fun i row hrow=>by
  have hlt:=(List.getElem?_eq_some_iff.1 hrow).1;obtain⟨bo,bc,h1,h2,h3⟩:=(hex i hlt).choose_spec row hrow;refine⟨bo,bc,?_,by rw[h1,h2],h3⟩;show ((List.range rows.length).map _)[i]?=_;rw[List.getElem?_map,List.getElem?_range hlt];show some (if h:i<rows.length then _ else _)=_;rw[dif_pos hlt,h2]
 have hvl:vals.length=n:=by show ((List.range rows.length).map _).length=n;rw[List.length_map,List.length_range,hn]
 refine⟨vals,hvl,fun i row hrow=>?_,fun W hW=>?_⟩
 ·obtain⟨bo,bc,h1,h2,h3⟩:=hv i row hrow
  exact⟨bo,bc,h1,h3,fun g' off' e=>by
   obtain⟨rfl,rfl⟩:g=g'∧off=off':=by injection e with e;injection e with e1 e2;exact⟨e1,e2⟩
   exact h2⟩
 ·refine (Tryz.slices_Clone_f141 i0 (.slice none 0 0) 1 24 hi hz0 hz1 hz2 rfl (by omega) ?zz g off n c vals W (by rw[hvl];omega) (by simp only[maxLen];omega) (by omega) (fun j u hj=>?_) (fun u hu=>?_)).mono ?_
  case zz=>exact fun W'=>Tryz.sizeOf87 W'
  ·have hjl:j<rows.length:=by have:=(List.getElem?_eq_some_iff.1 hj).1;rw[hvl,hn] at this;exact this
   obtain⟨bo,bc,h1,h2,-⟩:=hv j rows[j] (List.getElem?_eq_getElem hjl);rw[h1] at hj;obtain rfl:=Option.some.inj hj;rw[World.cell?_of_block (w:=w) (a:=⟨g,off+j,none⟩) (hW.block g hg)];exact h2
  ·obtain⟨j,hj⟩:=List.mem_iff_getElem?.1 hu
   have hjl:j<rows.length:=by have:=(List.getElem?_eq_some_iff.1 hj).1;rw[hvl,hn] at this;exact this
   obtain⟨bo,bc,h1,-,-⟩:=hv j rows[j] (List.getElem?_eq_getElem hjl);rw[h1] at hj;obtain rfl:=Option.some.inj hj;rfl
  ·rintro e w' ⟨v',rfl,ho,-,hb⟩
   obtain⟨g',cap',rfl,hw,hl',hcm,hle⟩:=OwnK.of_row ho (by omega);exact⟨some ⟨g',0,none⟩,cap',rfl,(OwnK.at g' 0 hw (by rw[hvl];omega) hcm hle).lower (Nat.le_trans hB hW.size) ,hb⟩
theorem Zla {w:World} {B n kc g off:Nat} {vs:List Value} {rows:List (List Bool)} (h:OwnK w B 1 n kc vs (some ⟨g,off,none⟩)) (hr:∀ (i:Nat) (row:List Bool),rows[i]?=some row→∃ (bo:Option Addr) (bc:Nat),vs[i]?=some (Value.slice bo row.length bc)∧Zak Zc6 w bo row):Zgv w rows (some ⟨g,off,none⟩):=by
 cases h with
 | «at» g off h1 h2 h3 h4 =>
  refine .inr ⟨g,off,rfl,h1.lt,fun i row hi=>?_⟩;obtain⟨bo,bc,h5,h6⟩:=hr i row hi;exact⟨bo,bc,h1.cells i _ h5,h6⟩
theorem OwnK.setW {w:World} {B k n cap g off:Nat} {xs:List Value} (h:OwnK w B k n cap xs (some ⟨g,off,none⟩)) (i:Nat) (hi:i<xs.length):(∃ v,w.cell? ⟨g,off+i,none⟩=some v)∧w.frozen? ⟨g,off+i,none⟩=false∧B≤g∧n≤cap:=by
 cases h with
 | «at» g off h1 h2 h3 h4=>exact⟨⟨_,h1.cells i _ (List.getElem?_eq_getElem hi)⟩,h1.warm i (by have:=h1.le;omega),h1.own,h4⟩
def Zc1 (c:Crw) (C:List (List Bool)) (u m:Nat):List (List Bool):=C.set u ((List.replicate c.ms.length false).set m ((C.getD u []).getD m false))
theorem Zz9 (t:Array Value) (h:t.size=56):∃ f:Nat→Value,t=#[f 0,f 1,f 2,f 3,f 4,f 5,f 6,f 7,f 8,f 9,f 10,f 11,f 12,f 13,f 14,f 15,f 16,f 17,f 18,f 19,f 20,f 21,f 22,f 23,f 24,f 25,f 26,f 27,f 28,f 29,f 30,f 31,f 32,f 33,f 34,f 35,f 36,f 37,f 38,f 39,f 40,f 41,f 42,f 43,f 44,f 45,f 46,f 47,f 48,f 49,f 50,f 51,f 52,f 53,f 54,f 55]:=by
 obtain⟨l⟩:=t;have hl:l.length=56:=h
 have e:l=(List.range 56).map (fun i=>l.getD i undef):=by
  apply List.ext_getElem
  ·simp[hl]
  ·intro i h1 h2
   simp[List.getD,h1]
 exact⟨fun i=>l.getD i undef,congrArg List.toArray e⟩
theorem Zke (i:Nat) (h:i<16):i=0∨i=1∨i=2∨i=3∨i=4∨i=5∨i=6∨i=7∨i=8∨i=9∨i=10∨i=11∨i=12∨i=13∨i=14∨i=15:=by omega
theorem Zqx (i:Nat) (h:i<13):i=0∨i=1∨i=2∨i=3∨i=4∨i=5∨i=6∨i=7∨i=8∨i=9∨i=10∨i=11∨i=12:=by omega
def Zy8 (A B:Nat) (qo mo uo ho co:Option Addr) (nq nm nu nh nc qc mc uc hc cc:Nat) (vals:List Value) (i:Nat) (W:World) (v:Value):Prop:=match i with
 | 0=>v = .pointer (some ⟨A,0,none⟩)
 | 1=>v = .pointer (some ⟨A,0,none⟩)
 | 2=>v = .pointer (some ⟨A,0,none⟩)
 | 3=>v = .agg #[.slice qo nq qc,.slice mo nm mc,.slice uo nu uc]
 | 4=>v = .pointer (some ⟨A,0,none⟩)
 | 5=>v = .pointer (some ⟨A,0,none⟩)
 | 6=>v = .pointer (some ⟨A,3,none⟩)
 | 7=>v = .slice ho nh hc
 | 8=>v = .pointer (some ⟨A,0,none⟩)
 | 9=>v = .pointer (some ⟨A,0,none⟩)
 | 10=>v = .pointer (some ⟨A,4,none⟩)
 | 11=>v = .slice co nc cc
 | 12=>∃ ko kc,v = .slice ko nc kc∧OwnK W B 1 nc kc vals ko
 | 13=>∃ ko kc,v = .agg #[.slice qo nq qc,.slice mo nm mc,.slice uo nu uc,.slice ho nh hc,.slice ko nc kc]∧OwnK W B 1 nc kc vals ko
 | 14=>∃ X ko kc,v = .pointer (some ⟨X,0,none⟩)∧Zaf W X 113 [.slice qo nq qc,.slice mo nm mc,.slice uo nu uc,.slice ho nh hc,.slice ko nc kc]∧OwnK W B 1 nc kc vals ko∧B≤X∧blk ko≠some X
 | 15=>∃ X ko kc,v = .pointer (some ⟨X,0,none⟩)∧Zaf W X 113 [.slice qo nq qc,.slice mo nm mc,.slice uo nu uc,.slice ho nh hc,.slice ko nc kc]∧OwnK W B 1 nc kc vals ko∧B≤X∧blk ko≠some X
 | _=>True
theorem Ztd (A B:Nat) (qo mo uo ho co:Option Addr) (nq nm nu nh nc qc mc uc hc cc:Nat) (vals:List Value):∀ i w w' v,Zy8 A B qo mo uo ho co nq nm nu nh nc qc mc uc hc cc vals i w v→Below w.heap.size w w'→Zy8 A B qo mo uo ho co nq nm nu nh nc qc mc uc hc cc vals i w' v:=by
 intro i w w' v h hb
 match i with
 | 0=>exact h
 | 1=>exact h
 | 2=>exact h
 | 3=>exact h
 | 4=>exact h
 | 5=>exact h
 | 6=>exact h
 | 7=>exact h
 | 8=>exact h
 | 9=>exact h
 | 10=>exact h
 | 11=>exact h
 | 12=>obtain⟨ko,kc,h1,h2⟩:=h;exact⟨ko,kc,h1,h2.below hb⟩
 | 13=>obtain⟨ko,kc,h1,h2⟩:=h;exact⟨ko,kc,h1,h2.below hb⟩
 | 14=>obtain⟨X,ko,kc,h1,h2,h3,h4⟩:=h;exact⟨X,ko,kc,h1,h2.step hb,h3.below hb,h4⟩
 | 15=>obtain⟨X,ko,kc,h1,h2,h3,h4⟩:=h;exact⟨X,ko,kc,h1,h2.step hb,h3.below hb,h4⟩
 | k+16=>trivial
def Z0a (A X gk ok u WS:Nat) (mo:Option Addr) (nm nc mc kc:Nat) (i:Nat) (W:World) (v:Value):Prop:=match i with
 | 0=>v = .pointer (some ⟨X,0,none⟩)
 | 1=>v = .pointer (some ⟨X,0,none⟩)
 | 2=>v = .pointer (some ⟨X,4,none⟩)
 | 3=>v = .slice (some ⟨gk,ok,none⟩) nc kc
 | 4=>v = .int .i64 (u:Nat)
 | 5=>v = .pointer (some ⟨A,0,none⟩)
 | 6=>v = .pointer (some ⟨A,0,none⟩)
 | 7=>v = .pointer (some ⟨A,0,none⟩)
 | 8=>v = .pointer (some ⟨A,1,none⟩)
 | 9=>v = .slice mo nm mc
 | 10=>v = .int .i64 (nm:Nat)
 | 11=>∃ V,v = .slice (some ⟨V,0,none⟩) nm nm∧Zaf W V 4 (bvs (List.replicate nm false))∧WS≤V
 | 12=>v = .pointer (some ⟨gk,ok+u,none⟩)
 | _=>True
theorem Zte (A X gk ok u WS:Nat) (mo:Option Addr) (nm nc mc kc:Nat):∀ i w w' v,Z0a A X gk ok u WS mo nm nc mc kc i w v→Below w.heap.size w w'→Z0a A X gk ok u WS mo nm nc mc kc i w' v:=by
 intro i w w' v h hb
 match i with
 | 0=>exact h
 | 1=>exact h
 | 2=>exact h
 | 3=>exact h
 | 4=>exact h
 | 5=>exact h
 | 6=>exact h
 | 7=>exact h
 | 8=>exact h
 | 9=>exact h
 | 10=>exact h
 | 11=>obtain⟨V,h1,h2,h3⟩:=h;exact⟨V,h1,h2.step hb,h3⟩
 | 12=>exact h
 | k+13=>trivial
def Z1d (w w':World) (c:Crw) (H C:List (List Bool)) (qo mo uo ho:Option Addr) (qc mc uc hc:Nat) (vals:List Value) (u m X:Nat):Prop:=∃ gk ok kc V,Zaf w' X 113 (Zd5 c H (Zc1 c C u m) qo mo uo ho (some ⟨gk,ok,none⟩) qc mc uc hc kc)∧(Zc1 c C u m).length≤kc ∧
 OwnK w' w.heap.size 1 C.length kc (vals.set u (.slice (some ⟨V,0,none⟩) c.ms.length c.ms.length)) (some ⟨gk,ok,none⟩)∧(∀ row,(Zc1 c C u m)[u]?=some row→Zaf w' V 4 (bvs row)∧row.length=c.ms.length)∧w.heap.size≤V
theorem Zpn (w:World) (A:Nat) (c:Crw) (H C:List (List Bool)) (u m:Nat) (qo mo uo ho co:Option Addr) (qc mc uc hc cc:Nat) (hA:Zaf w A 113 (Zd5 c H C qo mo uo ho co qc mc uc hc cc)) (hR:ReckC w c H C qo mo uo ho co) (hu:u<C.length) (hm:m<c.ms.length) (hC:∀ r∈C,r.length=c.ms.length) (hn:C.length≤1000000) (hml:c.ms.length≤1000000) :
  ∃ vals:List Value,vals.length=C.length∧(∀ (i:Nat) (row:List Bool),C[i]?=some row→∃ (bo:Option Addr) (bc:Nat),vals[i]?=some (Value.slice bo row.length bc)∧Zak Zc6 w bo row∧∀ g off,co=some ⟨g,off,none⟩→w.cell? ⟨g,off+i,none⟩=some (.slice bo row.length bc)) ∧
  Calls Tryz.prog 84 #[.pointer (some ⟨A,0,none⟩),.int .i64 u,.int .i64 m] w fun e w'=>∃ X,e = .returned (.pointer (some ⟨X,0,none⟩))∧Z1d w w' c H C qo mo uo ho qc mc uc hc vals u m X∧w.heap.size≤X∧Below w.heap.size w w':=by
 obtain⟨vals,hvl,hvs,hcl⟩:=Zqw w w.heap.size (Nat.le_refl _) co C.length cc C rfl (by omega) hn hR.c;refine⟨vals,hvl,hvs,?_⟩;obtain⟨ru,hru⟩:∃ r,C[u]?=some r:=⟨_,List.getElem?_eq_getElem hu⟩;have HRU:Hid (ru.length=c.ms.length):=ħ (hC ru (List.mem_of_getElem? hru));have HFX:Hid (Zc1 c C u m=C.set u ((List.replicate c.ms.length false).set m (ru.getD m false))):=ħ (by unfold Zc1;rw[List.getD_eq_getElem?_getD (l:=C),hru];rfl);have CLN:=ħ hcl;have HVS:=ħ hvs;have HVL:=ħ hvl;have AW:=ħ (fun W (hW:Below w.heap.size w W)=>hA.step hW);have HRR:=ħ (fun W (hW:Below w.heap.size w W)=>hR.below hW);have HCR:=ħ (fun W (hW:Below w.heap.size w W)=>(hR.c.below hW).at u ru hru);unfold Zd5 at AW;have HFIX:Hid (∀ w' X,(∃ gk ok kc V,Zaf w' X 113 (Zd5 c H (Zc1 c C u m) qo mo uo ho (some ⟨gk,ok,none⟩) qc mc uc hc kc)∧(Zc1 c C u m).length≤kc∧OwnK w' w.heap.size 1 C.length kc (vals.set u (.slice (some ⟨V,0,none⟩) c.ms.length c.ms.length)) (some ⟨gk,ok,none⟩)∧(∀ row,(Zc1 c C u m)[u]?=some row→Zaf w' V 4 (bvs row)∧row.length=c.ms.length)∧w.heap.size≤V)→Z1d w w' c H C qo mo uo ho qc mc uc hc vals u m X):=ħ (fun w' X h=>h);clear hA hR hcl hvs hvl hC hru;generalize hFX:Zc1 c C u m=FX at *;clear hFX;have HQN:Hid (c.qs.length=c.qs.length):=ħ rfl;generalize hnq:c.qs.length=nq at *;generalize hnm:c.ms.length=nm at *;generalize hnu:c.us.length=nu at *;generalize hnh:H.length=nh at *;generalize hnc:C.length=nc at *;have HNQ:=ħ hnq;have HNM:=ħ hnm;have HNU:=ħ hnu;have HNH:=ħ hnh;have HNC:=ħ hnc;have HBW:Hid (w.heap.size≤w.heap.size):=ħ (Nat.le_refl _);clear hnq hnm hnu hnh hnc HQN
 go_enter Tryz.func84,Tryz.ntmps84
 go_upto_region 1 with (fail)
 refine Zbp (Zy8 A w.heap.size qo mo uo ho co nq nm nu nh nc qc mc uc hc cc vals) (by kernel_rfl) (Ztd A w.heap.size qo mo uo ho co nq nm nu nh nc qc mc uc hc cc vals) (Zdf (by kernel_rfl)) (Zj0 (by kernel_rfl)) (Zbm (by kernel_rfl)) ?hs ?he
 case hs =>
  intro i o hi listed a' w' H hl2;have hl3:=Zau hl2;have hin:i<16:=(Array.getElem?_eq_some_iff.1 hi).1;have hb:=ħ H.below;have s0:=H.same 0 (Zav (by kernel_rfl));have hdn:=H.done;have hdf:=H.defers;have hts:=H.tsize;clear hl2 H;obtain⟨t',df⟩:=a';obtain⟨f',rfl⟩:=Zz9 t' hts;have hdf':df=[]:=hdf;subst hdf';have gs0:f' 0 = .pointer (some ⟨A,0,none⟩):=s0;clear s0;clear hdf hts;have hcases:=Zke i hin;clear hin;rcases hcases with rfl | rfl | rfl | rfl | rfl | rfl | rfl | rfl | rfl | rfl | rfl | rfl | rfl | rfl | rfl | rfl
  ·obtain rfl:=Option.some.inj hi
   clear hdn hl3;rw[gs0];clear gs0;refine Zab rfl ?_
   go_wp2_with fail
   exact Zaa ⟨_,rfl,Below.refl _ _,rfl⟩
  ·obtain rfl:=Option.some.inj hi
   have dv0:f' 8 = .pointer (some ⟨A,0,none⟩):=hdn 0 _ 8 rfl (hl3 0 (by rfl)) rfl;clear hdn hl3;rw[dv0];clear dv0 gs0;refine Zab rfl ?_
   go_wp2_with fail
   exact Zaa ⟨_,rfl,Below.refl _ _,rfl⟩
  ·obtain rfl:=Option.some.inj hi
   have dv1:f' 9 = .pointer (some ⟨A,0,none⟩):=hdn 1 _ 9 rfl (hl3 1 (by rfl)) rfl;clear hdn hl3;rw[dv1];clear dv1 gs0;refine Zab rfl ?_
   go_wp2_with fail
   exact Zaa ⟨_,rfl,Below.refl _ _,rfl⟩
  ·obtain rfl:=Option.some.inj hi
   have dv2:f' 10 = .pointer (some ⟨A,0,none⟩):=hdn 2 _ 10 rfl (hl3 2 (by rfl)) rfl;clear hdn hl3;rw[dv2];clear dv2 gs0;have ha:=AW.o w' hb.o;have c0:=ha.cell 0 _ rfl;have c1:=ha.cell 1 _ rfl;have c2:=ha.cell 2 _ rfl;clear ha;refine Zab rfl ?_
   go_wp2_with fail
   exact Zaa ⟨_,rfl,Below.refl _ _,rfl⟩
  ·obtain rfl:=Option.some.inj hi
   clear hdn hl3;rw[gs0];clear gs0;refine Zab rfl ?_
   go_wp2_with fail
   exact Zaa ⟨_,rfl,Below.refl _ _,rfl⟩
  ·obtain rfl:=Option.some.inj hi
   have dv4:f' 12 = .pointer (some ⟨A,0,none⟩):=hdn 4 _ 12 rfl (hl3 4 (by rfl)) rfl;clear hdn hl3;rw[dv4];clear dv4 gs0;refine Zab rfl ?_
   go_wp2_with fail
   exact Zaa ⟨_,rfl,Below.refl _ _,rfl⟩
  ·obtain rfl:=Option.some.inj hi
   have dv5:f' 13 = .pointer (some ⟨A,0,none⟩):=hdn 5 _ 13 rfl (hl3 5 (by rfl)) rfl;clear hdn hl3;rw[dv5];clear dv5 gs0;refine Zab rfl ?_
   go_wp2_with fail
   exact Zaa ⟨_,rfl,Below.refl _ _,rfl⟩
  ·obtain rfl:=Option.some.inj hi
   have dv6:f' 14 = .pointer (some ⟨A,3,none⟩):=hdn 6 _ 14 rfl (hl3 6 (by rfl)) rfl;clear hdn hl3;rw[dv6];clear dv6 gs0;have ha:=AW.o w' hb.o;have c3:=ha.cell 3 _ rfl;clear ha;refine Zab rfl ?_
   go_wp2_with fail
   exact Zaa ⟨_,rfl,Below.refl _ _,rfl⟩
  ·obtain rfl:=Option.some.inj hi
   clear hdn hl3;rw[gs0];clear gs0;refine Zab rfl ?_
   go_wp2_with fail
   exact Zaa ⟨_,rfl,Below.refl _ _,rfl⟩
  ·obtain rfl:=Option.some.inj hi
   have dv8:f' 16 = .pointer (some ⟨A,0,none⟩):=hdn 8 _ 16 rfl (hl3 8 (by rfl)) rfl;clear hdn hl3;rw[dv8];clear dv8 gs0;refine Zab rfl ?_
   go_wp2_with fail
   exact Zaa ⟨_,rfl,Below.refl _ _,rfl⟩
  ·obtain rfl:=Option.some.inj hi
   have dv9:f' 17 = .pointer (some ⟨A,0,none⟩):=hdn 9 _ 17 rfl (hl3 9 (by rfl)) rfl;clear hdn hl3;rw[dv9];clear dv9 gs0;refine Zab rfl ?_
   go_wp2_with fail
   exact Zaa ⟨_,rfl,Below.refl _ _,rfl⟩
  ·obtain rfl:=Option.some.inj hi
   have dv10:f' 18 = .pointer (some ⟨A,4,none⟩):=hdn 10 _ 18 rfl (hl3 10 (by rfl)) rfl;clear hdn hl3;rw[dv10];clear dv10 gs0;have ha:=AW.o w' hb.o;have c4:=ha.cell 4 _ rfl;clear ha;refine Zab rfl ?_
   go_wp2_with fail
   exact Zaa ⟨_,rfl,Below.refl _ _,rfl⟩
  ·obtain rfl:=Option.some.inj hi
   have dv11:f' 19 = .slice co nc cc:=hdn 11 _ 19 rfl (hl3 11 (by rfl)) rfl;clear hdn hl3;rw[dv11];clear dv11 gs0;refine Zab rfl ?_
   go_wp2_with fail
   refine (CLN.o w' hb.o).mono ?_;rintro e w4 ⟨ko,kc,rfl,hko,b4⟩;have HK:=ħ hko;have HB4:=ħ b4;clear hko b4
   go_wp2_with fail
   exact Zaa ⟨_,rfl,HB4.o,ko,kc,rfl,HK.o⟩
  ·obtain rfl:=Option.some.inj hi
   have dv3:f' 11 = .agg #[.slice qo nq qc,.slice mo nm mc,.slice uo nu uc]:=hdn 3 _ 11 rfl (hl3 3 (by rfl)) rfl;have dv7:f' 15 = .slice ho nh hc:=hdn 7 _ 15 rfl (hl3 7 (by rfl)) rfl;have dv12:Zy8 A w.heap.size qo mo uo ho co nq nm nu nh nc qc mc uc hc cc vals 12 w' (f' 20):=hdn 12 _ 20 rfl (hl3 12 (by rfl)) rfl;obtain⟨ko,kc,dv12,hko⟩:=dv12;clear hdn hl3;rw[dv3,dv7,dv12];clear dv3 dv7 dv12 gs0;have HK:=ħ hko;clear hko;refine Zab rfl ?_
   go_wp2_with fail
   exact Zaa ⟨_,rfl,Below.refl _ _,ko,kc,rfl,HK.o⟩
  ·obtain rfl:=Option.some.inj hi
   have dv13:Zy8 A w.heap.size qo mo uo ho co nq nm nu nh nc qc mc uc hc cc vals 13 w' (f' 21):=hdn 13 _ 21 rfl (hl3 13 (by rfl)) rfl;obtain⟨ko,kc,dv13,hko⟩:=dv13;clear hdn hl3;rw[dv13];clear dv13 gs0;have HK:=ħ hko;clear hko;have bx:=(Below.refl w'.heap.size w').alloc (Nat.le_refl _) (.cells #[.slice qo nq qc,.slice mo nm mc,.slice uo nu uc,.slice ho nh hc,.slice ko nc kc] 113);have HX:Hid (Zaf (w'.alloc (.cells #[.slice qo nq qc,.slice mo nm mc,.slice uo nu uc,.slice ho nh hc,.slice ko nc kc] 113)) w'.heap.size 113 [.slice qo nq qc,.slice mo nm mc,.slice uo nu uc,.slice ho nh hc,.slice ko nc kc]):=ħ (heap_alloc_new _ _);have BX:=ħ bx;have HBS:=ħ hb.o.size;clear bx;refine Zab rfl ?_
   go_wp2_with fail
   exact Zaa ⟨_,rfl,BX.o,w'.heap.size,ko,kc,rfl,HX.o,HK.o.below BX.o,Nat.le_trans HBW.o HBS.o,fun e=>Nat.lt_irrefl _ (HK.o.blk_lt e).2⟩
  ·obtain rfl:=Option.some.inj hi
   have dv14:Zy8 A w.heap.size qo mo uo ho co nq nm nu nh nc qc mc uc hc cc vals 14 w' (f' 22):=hdn 14 _ 22 rfl (hl3 14 (by rfl)) rfl;obtain⟨X,ko,kc,dv14,hX,hko,hXB,hXK⟩:=dv14;clear hdn hl3;rw[dv14];clear dv14 gs0;have HK:=ħ hko;have HX:=ħ hX;have HXB:=ħ hXB;have HXK:=ħ hXK;clear hko hX hXB hXK;refine Zab rfl ?_
   go_wp2_with fail
   exact Zaa ⟨_,rfl,Below.refl _ _,X,ko,kc,rfl,HX.o,HK.o,HXB.o,HXK.o⟩
 case he =>
  intro listed a' w4 H hall;have hd15:Zy8 A w.heap.size qo mo uo ho co nq nm nu nh nc qc mc uc hc cc vals 15 w4 (a'.tmps.getD 7 undef):=H.done 15 _ 7 rfl (hall 15 (by decide)) rfl;have hb4:=ħ H.below;have hact:=H.act [8,9,10,11,12,13,14,15,16,17,18,19,20,21,22,7] (Zex (by kernel_rfl));clear H hall;simp only[List.foldl_cons,List.foldl_nil] at hact;generalize a'.tmps.getD 8 undef=z8 at *;generalize a'.tmps.getD 9 undef=z9 at *;generalize a'.tmps.getD 10 undef=z10 at *;generalize a'.tmps.getD 11 undef=z11 at *;generalize a'.tmps.getD 12 undef=z12 at *;generalize a'.tmps.getD 13 undef=z13 at *;generalize a'.tmps.getD 14 undef=z14 at *;generalize a'.tmps.getD 15 undef=z15 at *;generalize a'.tmps.getD 16 undef=z16 at *;generalize a'.tmps.getD 17 undef=z17 at *;generalize a'.tmps.getD 18 undef=z18 at *;generalize a'.tmps.getD 19 undef=z19 at *;generalize a'.tmps.getD 20 undef=z20 at *;generalize a'.tmps.getD 21 undef=z21 at *;generalize a'.tmps.getD 22 undef=z22 at *;generalize a'.tmps.getD 7 undef=z7 at *;subst hact;obtain⟨X,ko,kc,e15,hX,hko,hXB,hXK⟩:=hd15;subst e15;simp only[Act.put,List.setIfInBounds_toArray,List.set_cons_succ,List.set_cons_zero];have B4:=ħ hb4.o;have XH:=ħ hX;have KO:=ħ hko;have XB:=ħ hXB;have XK:=ħ hXK;clear hb4 hX hko hXB hXK CLN
  have hkl:u<vals.length:=by rw[HVL.o];exact hu
  cases ko with
  | none =>
   exfalso;have h:=KO.o
   cases h with
   | nil h1 h2 h3=>rw[h1] at hkl;simp at hkl
  | some a =>
   obtain⟨gk,ok,hao⟩:∃ gk ok,a=⟨gk,ok,none⟩:=by
    have h:=KO.o
    cases h with
    | «at» g off h1 h2 h3 h4=>exact⟨g,off,rfl⟩
   subst hao;have HGX:Hid (gk≠X):=ħ (fun e=>XK.o (by rw[e];rfl));have HGB:Hid (w.heap.size≤gk∧gk<w4.heap.size):=ħ (KO.o.blk_lt rfl);have AW2:=ħ (fun W (hW:Below w4.heap.size w4 W)=>AW.o W (B4.o.trans (hW.mono B4.o.size)));have XW:=ħ (fun W (hW:Below w4.heap.size w4 W)=>XH.o.step hW);have AW0:=AW;clear AW;have AW:=AW2;clear AW2;have HMK0:=run_make_row' (P:=Tryz.prog) 87 4 (.bool false) 1 Tryz.underlying87 Zdh rfl .i64 .i64 nm (by omega) (by omega);rw[Ze0] at HMK0;have HMK:=ħ HMK0;clear HMK0;obtain⟨WS,hWS⟩:∃ s,w4.heap.size=s:=⟨_,rfl⟩;have HWS:=ħ hWS;clear hWS;generalize w4=wz at *
   have uu:(u:Int)<nc:=by omega
   go_upto_region 2 with (fail)
   refine Zb2 13 0 (Z0a A X gk ok u WS mo nm nc mc kc) (by kernel_rfl) rfl (Zte A X gk ok u WS mo nm nc mc kc) (Zdf (by kernel_rfl)) (Zir (by kernel_rfl)) (Zbm (by kernel_rfl)) (Zer (by kernel_rfl)) ?hs ?he
   case hs =>
    intro i o hin hi listed a' w' H hsn hl2;have hl3:=Zau hl2;have hb:=ħ H.below;have s7:=hsn 7 (Za2 (by kernel_rfl));have s1:=hsn 1 (Za2 (by kernel_rfl));have s0:=hsn 0 (Za2 (by kernel_rfl));have hdn:=H.done;have hdf:=H.defers;have hts:=H.tsize;clear hl2 H hsn;obtain⟨t',df⟩:=a';obtain⟨f',rfl⟩:=Zz9 t' hts;have hdf':df=[]:=hdf;subst hdf';have gs7:f' 7 = .pointer (some ⟨X,0,none⟩):=s7;have gs1:f' 1 = .int .i64 (u:Nat):=s1;have gs0:f' 0 = .pointer (some ⟨A,0,none⟩):=s0;clear s7 s1 s0;clear hdf hts;have hcases:i=0∨i=1∨i=2∨i=3∨i=4∨i=5∨i=6∨i=7∨i=8∨i=9∨i=10∨i=11∨i=12:=Zqx i hin;clear hin;rcases hcases with rfl | rfl | rfl | rfl | rfl | rfl | rfl | rfl | rfl | rfl | rfl | rfl | rfl
    ·obtain rfl:=Option.some.inj hi
     clear hdn hl3;rw[gs7];clear gs7 gs1 gs0;refine Zab rfl ?_
     go_wp2_with fail
     exact Zaa ⟨_,rfl,Below.refl _ _,rfl⟩
    ·obtain rfl:=Option.some.inj hi
     have dv0:f' 23 = .pointer (some ⟨X,0,none⟩):=hdn 0 _ 23 rfl (hl3 0 (by rfl)) rfl;clear hdn hl3;rw[dv0];clear dv0 gs7 gs1 gs0;refine Zab rfl ?_
     go_wp2_with fail
     exact Zaa ⟨_,rfl,Below.refl _ _,rfl⟩
    ·obtain rfl:=Option.some.inj hi
     have dv1:f' 24 = .pointer (some ⟨X,0,none⟩):=hdn 1 _ 24 rfl (hl3 1 (by rfl)) rfl;clear hdn hl3;rw[dv1];clear dv1 gs7 gs1 gs0;refine Zab rfl ?_
     go_wp2_with fail
     exact Zaa ⟨_,rfl,Below.refl _ _,rfl⟩
    ·obtain rfl:=Option.some.inj hi
     have dv2:f' 25 = .pointer (some ⟨X,4,none⟩):=hdn 2 _ 25 rfl (hl3 2 (by rfl)) rfl;clear hdn hl3;rw[dv2];clear dv2 gs7 gs1 gs0;have ha:=XW.o w' hb.o;have c4:=ha.cell 4 _ rfl;clear ha;refine Zab rfl ?_
     go_wp2_with fail
     exact Zaa ⟨_,rfl,Below.refl _ _,rfl⟩
    ·obtain rfl:=Option.some.inj hi
     clear hdn hl3;rw[gs1];clear gs7 gs1 gs0;refine Zab rfl ?_
     go_wp2_with fail
     exact Zaa ⟨_,rfl,Below.refl _ _,rfl⟩
    ·obtain rfl:=Option.some.inj hi
     clear hdn hl3;rw[gs0];clear gs7 gs1 gs0;refine Zab rfl ?_
     go_wp2_with fail
     exact Zaa ⟨_,rfl,Below.refl _ _,rfl⟩
    ·obtain rfl:=Option.some.inj hi
     have dv5:f' 28 = .pointer (some ⟨A,0,none⟩):=hdn 5 _ 28 rfl (hl3 5 (by rfl)) rfl;clear hdn hl3;rw[dv5];clear dv5 gs7 gs1 gs0;refine Zab rfl ?_
     go_wp2_with fail
     exact Zaa ⟨_,rfl,Below.refl _ _,rfl⟩
    ·obtain rfl:=Option.some.inj hi
     have dv6:f' 29 = .pointer (some ⟨A,0,none⟩):=hdn 6 _ 29 rfl (hl3 6 (by rfl)) rfl;clear hdn hl3;rw[dv6];clear dv6 gs7 gs1 gs0;refine Zab rfl ?_
     go_wp2_with fail
     exact Zaa ⟨_,rfl,Below.refl _ _,rfl⟩
    ·obtain rfl:=Option.some.inj hi
     have dv7:f' 30 = .pointer (some ⟨A,0,none⟩):=hdn 7 _ 30 rfl (hl3 7 (by rfl)) rfl;clear hdn hl3;rw[dv7];clear dv7 gs7 gs1 gs0;refine Zab rfl ?_
     go_wp2_with fail
     exact Zaa ⟨_,rfl,Below.refl _ _,rfl⟩
    ·obtain rfl:=Option.some.inj hi
     have dv8:f' 31 = .pointer (some ⟨A,1,none⟩):=hdn 8 _ 31 rfl (hl3 8 (by rfl)) rfl;clear hdn hl3;rw[dv8];clear dv8 gs7 gs1 gs0;have ha:=AW.o w' hb.o;have c1:=ha.cell 1 _ rfl;clear ha;refine Zab rfl ?_
     go_wp2_with fail
     exact Zaa ⟨_,rfl,Below.refl _ _,rfl⟩
    ·obtain rfl:=Option.some.inj hi
     have dv9:f' 32 = .slice mo nm mc:=hdn 9 _ 32 rfl (hl3 9 (by rfl)) rfl;clear hdn hl3;rw[dv9];clear dv9 gs7 gs1 gs0;refine Zab rfl ?_
     go_wp2_with fail
     exact Zaa ⟨_,rfl,Below.refl _ _,rfl⟩
    ·obtain rfl:=Option.some.inj hi
     have dv10:f' 33 = .int .i64 (nm:Nat):=hdn 10 _ 33 rfl (hl3 10 (by rfl)) rfl;clear hdn hl3;rw[dv10];clear dv10 gs7 gs1 gs0;have hmk:=HMK.o;have bx:=(Below.refl w'.heap.size w').alloc (Nat.le_refl _) (.cells (bvs (List.replicate nm false)).toArray 4);have HV:Hid (Zaf (w'.alloc (.cells (bvs (List.replicate nm false)).toArray 4)) w'.heap.size 4 (bvs (List.replicate nm false))):=ħ (heap_alloc_new _ _);have BX:=ħ bx;have HBS:=ħ (show WS≤w'.heap.size by rw[← HWS.o];exact hb.o.size);clear bx;refine Zab rfl ?_
     go_wp2_with fail
     exact Zaa ⟨_,rfl,BX.o,w'.heap.size,rfl,HV.o,HBS.o⟩
    ·obtain rfl:=Option.some.inj hi
     have dv3:f' 26 = .slice (some ⟨gk,ok,none⟩) nc kc:=hdn 3 _ 26 rfl (hl3 3 (by rfl)) rfl;have dv4:f' 27 = .int .i64 (u:Nat):=hdn 4 _ 27 rfl (hl3 4 (by rfl)) rfl;clear hdn hl3;rw[dv3,dv4];clear dv3 dv4 gs7 gs1 gs0;refine Zab rfl ?_
     go_wp2_with fail
     exact Zaa ⟨_,rfl,Below.refl _ _,rfl⟩
   case he =>
    intro listed a' w4 H hsn hall;have hd11:Z0a A X gk ok u WS mo nm nc mc kc 11 w4 (a'.tmps.getD 34 undef):=H.done 11 _ 34 rfl (hall 11 (by decide)) rfl;have hd12:Z0a A X gk ok u WS mo nm nc mc kc 12 w4 (a'.tmps.getD 35 undef):=H.done 12 _ 35 rfl (hall 12 (by decide)) rfl;have hb4:=ħ H.below;have hact:=H.actN hsn [23,24,25,26,27,28,29,30,31,32,33,34,35] (Zis (by kernel_rfl));clear H hall hsn;simp only[List.foldl_cons,List.foldl_nil] at hact;generalize a'.tmps.getD 23 undef=z23 at *;generalize a'.tmps.getD 24 undef=z24 at *;generalize a'.tmps.getD 25 undef=z25 at *;generalize a'.tmps.getD 26 undef=z26 at *;generalize a'.tmps.getD 27 undef=z27 at *;generalize a'.tmps.getD 28 undef=z28 at *;generalize a'.tmps.getD 29 undef=z29 at *;generalize a'.tmps.getD 30 undef=z30 at *;generalize a'.tmps.getD 31 undef=z31 at *;generalize a'.tmps.getD 32 undef=z32 at *;generalize a'.tmps.getD 33 undef=z33 at *;generalize a'.tmps.getD 34 undef=z34 at *;generalize a'.tmps.getD 35 undef=z35 at *;subst hact;obtain⟨V,e11,hV,hVS⟩:=hd11;subst e11;have e12:z35 = .pointer (some ⟨gk,ok+u,none⟩):=hd12;subst e12;clear hd12;simp only[Act.put,List.setIfInBounds_toArray,List.set_cons_succ,List.set_cons_zero];have B5:=ħ (B4.o.trans (hb4.o.mono B4.o.size));have XH5:=ħ (XH.o.step hb4.o);have KO5:=ħ (KO.o.below hb4.o);have HV5:=ħ hV;have HVG:Hid (V≠gk∧V≠X∧w.heap.size≤V):=ħ ⟨fun e=>by have:=HGB.o.2;have:=HWS.o;omega,fun e=>by have:=XH.o.lt;have:=HWS.o;omega,by have:=B4.o.size;have:=HWS.o;omega⟩;clear hb4 hV hVS AW XW HMK;obtain⟨⟨v0,t0⟩,tf,-,hcap⟩:=KO5.o.setW u hkl;have HCAP:=ħ hcap;clear hcap;refine Zat (Zab rfl ?_)
    go_wp2_with fail
    clear t0 tf;have on:=(Only.refl w4 (· = gk)).setCell (a:=⟨gk,ok+u,none⟩) (.slice (some ⟨V,0,none⟩) nm nm) rfl;have KO6:=ħ (KO5.o.setAt u hkl (.slice (some ⟨V,0,none⟩) nm nm));have XH6:=ħ (XH5.o.only on (fun e=>HGX.o e.symm));have HV6:=ħ (HV5.o.only on (fun e=>HVG.o.1 e));have B6:=ħ (Only.later B5.o on (fun g hg=>by have:=HGB.o.1;omega));clear on KO5 XH5 HV5 B5;refine Zaa (Zb9 ?_);generalize w4.setCell ⟨gk,ok+u,none⟩ (.slice (some ⟨V,0,none⟩) nm nm)=w6 at *;have x4:=XH6.o.cell 4 _ rfl;have a4:=(AW0.o w6 B6.o).cell 4 _ rfl;obtain⟨gc,oc,bo,bc,hco,hgc,hrc,hrb⟩:=HCR.o w6 B6.o;obtain⟨gb,ob,hbo,hbc⟩:=hrb.bool m (by rw[HRU.o];exact hm);rw[HRU.o] at hrc;have HCO:=ħ hco;have HBO:=ħ hbo;subst hco;subst hbo
    have hk6:w6.cell? ⟨gk,ok+u,none⟩=some (.slice (some ⟨V,0,none⟩) nm nm):=by
     have h:=KO6.o
     cases h with
     | «at» g off h1 h2 h3 h4=>exact h1.cells u _ (by rw[List.getElem?_set_self hkl])
    obtain⟨bv,hbv⟩:∃ b,ru.getD m false=b:=⟨_,rfl⟩;rw[hbv] at hbc HFX
    have mm:(m:Int)<nm:=by omega
    clear hbv hrb hgc
    go_upto_region 3 with (fail)
    have c1:=cell_regrown x4;have c2:=cell_regrown a4;have c3:=cell_regrown hrc;have c4:=cell_regrown hbc;have c5:=cell_regrown hk6;clear x4 a4 hrc hbc hk6;refine Za4 19 (by kernel_rfl) (by kernel_rfl) ?_;simp only[List.take_succ_cons,List.take_zero,List.drop_succ_cons,List.drop_zero]
    repeat (go_big_quiet_step (fail))
    refine wpQuiet_nil ?_;intro _ hw';obtain⟨⟨dq,osq⟩,hw''⟩:=hw';subst hw'';have hbb:=below_regrown w6 dq osq;have KO7:=ħ (KO6.o.below hbb);have XH7:=ħ (XH6.o.step hbb);have HV7:=ħ (HV6.o.step hbb);have B7:=ħ (B6.o.trans (hbb.mono B6.o.size));clear c1 c2 c3 c4 c5 hbb KO6 XH6 HV6 B6;generalize grow (redrawn w6 dq) osq=wd at *;have t0:=HV7.o.cell m _ (Zds (by simp;exact hm));have tf:=HV7.o.warm m
    go_wp2_with fail
    clear t0 tf;have on:=(Only.refl wd (· = V)).setCell (a:=⟨V,m,none⟩) (.bool bv) rfl;have HV8:Hid (Zaf (wd.setCell ⟨V,m,none⟩ (.bool bv)) V 4 (bvs ((List.replicate nm false).set m bv))):=ħ (by have:=HV7.o.set m (.bool bv);rwa [Zcx]);have KO8:=ħ (OwnK.of_block KO7.o (fun g e hl=>on.block g hl (fun e2=>HVG.o.1 (by have h:gk=g:=Option.some.inj e;omega))) on.size);have XH8:=ħ (XH7.o.only on (fun e=>HVG.o.2.1 e.symm));have B8:=ħ (Only.later B7.o on (fun g hg=>by have:=HVG.o.2.2;omega));clear on KO7 XH7 HV7 B7;generalize wd.setCell ⟨V,m,none⟩ (.bool bv)=w8 at *;have HFL:Hid (FX.length=nc):=ħ (by rw[HFX.o,List.length_set,HNC.o])
    go_wp2_with fail
    go_ret
    exact⟨X,rfl,HFIX.o _ X ⟨gk,ok,kc,V,by unfold Zd5;rw[HFL.o,HNQ.o,HNM.o,HNU.o,HNH.o];exact XH8.o,by rw[HFL.o];exact HCAP.o,KO8.o,fun row hrow=>by
     rw[HFX.o,List.getElem?_set_self (by rw[HNC.o];exact hu)] at hrow;obtain rfl:=Option.some.inj hrow
     exact⟨HV8.o,by rw[List.length_set,List.length_replicate]⟩,HVG.o.2.2⟩,XB.o,B8.o⟩
theorem Zoa (w:World) (A:Nat) (c:Crw) (H C:List (List Bool)) (u m:Nat) (hr:Za9 w A c H C) (hu:u<C.length) (hm:m<c.ms.length) (hC:∀ r∈C,r.length=c.ms.length) (hn:C.length≤1000000) (hml:c.ms.length≤1000000) :
  Calls Tryz.prog 84 #[.pointer (some ⟨A,0,none⟩),.int .i64 u,.int .i64 m] w fun e w'=>∃ X,e = .returned (.pointer (some ⟨X,0,none⟩))∧Za9 w' X c H (Zc1 c C u m)∧w.heap.size≤X∧Below w.heap.size w w':=by
 obtain⟨qo,mo,uo,ho,co,qc,mc,uc,hc,cc,hA,hR,hcu,hcc⟩:=hr;obtain⟨vals,hvl,hvs,hcl⟩:=Zpn w A c H C u m qo mo uo ho co qc mc uc hc cc hA hR hu hm hC hn hml;refine hcl.mono ?_;rintro e w' ⟨X,rfl,⟨gk,ok,kc,V,h1,h2,h3,h4,h5⟩,h6,h7⟩;have HR8:=hR.below h7;refine⟨X,rfl,⟨qo,mo,uo,ho,some ⟨gk,ok,none⟩,qc,mc,uc,hc,kc,h1,⟨HR8.q,HR8.m,HR8.u,HR8.h,Zla h3 (fun i row hi=>?_)⟩,hcu,h2⟩,h6,h7⟩;by_cases e:u=i
 ·subst e
  obtain⟨h8,h9⟩:=h4 row hi;exact⟨some ⟨V,0,none⟩,c.ms.length,by rw[List.getElem?_set_self (by rw[hvl];exact hu),h9],h8.flatB⟩
 ·rw[List.getElem?_set_ne e]
  unfold Zc1 at hi;rw[List.getElem?_set_ne e] at hi;obtain⟨bo',bc',h8,h9,-⟩:=hvs i row hi;exact⟨bo',bc',h8,h9.below h7⟩
theorem Zdi.reck {w:World} {Q:Nat→Prop} {A:Nat} {c:Crw} {H C:List (List Bool)} (h:Zdi w Q A c H C):Za9 w A c H C:=by
 obtain⟨qo,mo,uo,ho,co,qc,mc,uc,hc,cc,h1,h2,h3,h4,h5,h6⟩:=h;exact⟨qo,mo,uo,ho,co,qc,mc,uc,hc,cc,h1,h5 w (Only.refl _ _),h3,h4⟩
theorem Only.glue {w w' W:World} {Q Q':Nat→Prop} (on:Only w w' Q) (on':Only w' W Q') (hQ:∀ g,g<w.heap.size→Q' g→Q g):Only w W Q :=
 ⟨on'.os.trans on.os,on'.tape.trans on.tape,on'.output.trans on.output,Nat.le_trans on.size on'.size,fun g hg hn=>(on'.block g (Nat.lt_of_lt_of_le hg on.size) (fun h=>hn (hQ g hg h))).trans (on.block g hg hn)⟩
theorem Zdi.only {w w':World} {Q Q':Nat→Prop} {A:Nat} {c:Crw} {H C:List (List Bool)} (h:Zdi w Q A c H C) (on:Only w w' Q) (hQ:∀ g,g<w.heap.size→Q' g→Q g):Zdi w' Q' A c H C:=by
 obtain⟨qo,mo,uo,ho,co,qc,mc,uc,hc,cc,h1,h2,h3,h4,h5,h6⟩:=h;refine⟨qo,mo,uo,ho,co,qc,mc,uc,hc,cc,h1.only on h2,fun h=>h2 (hQ A h1.lt h),h3,h4,fun W oW=>h5 W (on.glue oW hQ),?_⟩;rcases h6 with h6 | ⟨g,off,e,hg,hq,h6⟩
 ·exact .inl h6
 ·refine .inr ⟨g,off,e,Nat.lt_of_lt_of_le hg on.size,fun h=>hq (hQ g hg h),fun i row hi=>?_⟩
  obtain⟨bo,bc,h7,h8⟩:=h6 i row hi;exact⟨bo,bc,by rw[World.cell?_of_block (w:=w) (a:=⟨g,off+i,none⟩) (on.block g hg hq)];exact h7,fun W oW=>h8 W (on.glue oW hQ)⟩
theorem Za9.free {w0 w:World} {Q:Nat→Prop} {A:Nat} {c:Crw} {H C:List (List Bool)} (h:Za9 w0 A c H C) (hb:Below w0.heap.size w0 w) (hQ:∀ g,Q g→w0.heap.size≤g):Zdi w Q A c H C:=by
 obtain⟨qo,mo,uo,ho,co,qc,mc,uc,hc,cc,hA,hR,hcu,hcc⟩:=h;refine⟨qo,mo,uo,ho,co,qc,mc,uc,hc,cc,hA.step hb,fun h=>by have:=hQ A h;have:=hA.lt;omega,hcu,hcc,fun W oW=>hR.below (oW.later hb hQ),?_⟩;rcases hR.c with h6 | ⟨g,off,e,hg,h6⟩
 ·exact .inl h6
 ·refine .inr ⟨g,off,e,Nat.lt_of_lt_of_le hg hb.size,fun h=>by have:=hQ g h;omega,fun i row hi=>?_⟩
  obtain⟨bo,bc,h7,h8⟩:=h6 i row hi;exact⟨bo,bc,by rw[World.cell?_of_block (w:=w0) (a:=⟨g,off+i,none⟩) (hb.block g hg)];exact h7,fun W oW=>h8.below (oW.later hb hQ)⟩
theorem Zwv (w:World) (Q:Nat→Prop) (A:Nat) (c:Crw) (H C:List (List Bool)) (u m:Nat) (hr:Zdi w Q A c H C) (hQ:∀ g,Q g→g<w.heap.size) (hu:u<C.length) (hm:m<c.ms.length) (hC:∀ r∈C,r.length=c.ms.length) (hn:C.length≤1000000) (hml:c.ms.length≤1000000) :
  Calls Tryz.prog 84 #[.pointer (some ⟨A,0,none⟩),.int .i64 u,.int .i64 m] w fun e w'=>∃ X,e = .returned (.pointer (some ⟨X,0,none⟩))∧Zdi w' Q X c H (Zc1 c C u m)∧w.heap.size≤X∧Below w.heap.size w w':=by
 obtain⟨qo,mo,uo,ho,co,qc,mc,uc,hc,cc,hA,hQA,hcu,hcc,hRW,hrows⟩:=hr;have hR:=hRW w (Only.refl _ _);obtain⟨vals,hvl,hvs,hcl⟩:=Zpn w A c H C u m qo mo uo ho co qc mc uc hc cc hA hR hu hm hC hn hml;refine hcl.mono ?_;rintro e w' ⟨X,rfl,⟨gk,ok,kc,V,h1,h2,h3,h4,h5⟩,h6,h7⟩
 have hov:∀ W,Only w' W Q→Only w W Q:=fun W oW=>(Only.of_below h7).trans oW
 have hgk:=(h3.blk_lt (g:=gk) rfl)
 have hnq:∀ g,w.heap.size≤g→¬ Q g:=fun g hg h=>by have:=hQ g h;omega
 have hfl:∀ i row,(Zc1 c C u m)[i]?=some row→∃ (bo:Option Addr) (bc:Nat),(vals.set u (.slice (some ⟨V,0,none⟩) c.ms.length c.ms.length))[i]?=some (Value.slice bo row.length bc)∧∀ W,Only w' W Q→Zak Zc6 W bo row:=fun i row hi=>by
  by_cases e:u=i
  ·subst e
   obtain⟨h8,h9⟩:=h4 row hi;exact⟨some ⟨V,0,none⟩,c.ms.length,by rw[List.getElem?_set_self (by rw[hvl];exact hu),h9],fun W oW=>(h8.only oW (hnq V h5)).flatB⟩
  ·rw[List.getElem?_set_ne e]
   unfold Zc1 at hi;rw[List.getElem?_set_ne e] at hi;obtain⟨bo',bc',h8,h9,h10⟩:=hvs i row hi;refine⟨bo',bc',h8,fun W oW=>?_⟩;rcases hrows with h11 | ⟨g,off,e2,hg,hq,h11⟩
   ·rw[h11] at hu;simp at hu
   ·obtain⟨bo2,bc2,h12,h13⟩:=h11 i row hi
    have h14:=h10 g off e2;rw[h12] at h14;injection h14 with h14;injection h14 with h15 h16 h17;rw[← h15];exact h13 W (hov W oW)
 have hro:∀ W,Only w' W Q→OwnK W w.heap.size 1 C.length kc (vals.set u (.slice (some ⟨V,0,none⟩) c.ms.length c.ms.length)) (some ⟨gk,ok,none⟩):=fun W oW=>h3.of_block (fun g e hl=>by
  have h:gk=g:=Option.some.inj e
  exact oW.block g hl (by rw[← h];exact hnq gk hgk.1)) oW.size
 refine⟨X,rfl,⟨qo,mo,uo,ho,some ⟨gk,ok,none⟩,qc,mc,uc,hc,kc,h1,hnq X h6,hcu,h2,fun W oW=>?_,.inr ⟨gk,ok,rfl,hgk.2,hnq gk hgk.1,fun i row hi=>?_⟩⟩,h6,h7⟩
 ·have HR8:=hRW W (hov W oW)
  exact⟨HR8.q,HR8.m,HR8.u,HR8.h,Zla (hro W oW) (fun i row hi=>by
   obtain⟨bo,bc,h8,h9⟩:=hfl i row hi
   exact⟨bo,bc,h8,h9 W oW⟩)⟩
 ·obtain⟨bo,bc,h8,h9⟩:=hfl i row hi
  refine⟨bo,bc,?_,h9⟩
  cases h3 with
  | «at» g off k1 k2 k3 k4=>exact k1.cells i _ h8
end
section
open Go.RowKit Go.Sort Go.Maps
def Za3 (r:List Nat):List Value:=r.map (fun (u:Nat)=>Value.int .i64 (u:Int))
theorem Zcg (r:List Nat) (u:Nat):Za3 r++[.int .i64 (u:Int)]=Za3 (r++[u]):=by unfold Za3;rw[List.map_append];rfl
theorem Zig (r:List Nat):(Za3 r).length=r.length:=by unfold Za3;rw[List.length_map]
theorem Zlb (r:List Nat) (i u:Nat):(Za3 r).set i (.int .i64 (u:Int))=Za3 (r.set i u):=by unfold Za3;rw[List.map_set]
def Zm6 (v:Value):Option (DataW Value×List MemPlace):=some (.held v,[])
theorem Ztf:Keyed Tryz.prog 3:=int_keyed Tryz.underlying3
def Zjv (w:World) (b n M:Nat) (f:Nat→Value):Prop:=∃ D:DataW Value,w.ownsMap Tryz.prog 3 Zm6 b n D∧∀ k,k<M→D.atKey (.int .i64 (k:Int)) (.held (.slice none 0 0)) = .held (f k)
theorem Zjv.lt {w:World} {b n M:Nat} {f:Nat→Value} (h:Zjv w b n M f):b<w.heap.size:=by
 obtain⟨D,h1,-⟩:=h;exact h1.lt
theorem Zjv.of_block {w w':World} {b n M:Nat} {f:Nat→Value} (h:Zjv w b n M f) (hb:w'.heap[b]?=w.heap[b]?):Zjv w' b n M f:=by
 obtain⟨D,⟨es,clock,h1,h2,h3,h4⟩,h5⟩:=h;exact⟨D,⟨es,clock,hb.trans h1,h2,h3,h4⟩,h5⟩
theorem Zjv.mono {w:World} {b n n' M:Nat} {f:Nat→Value} (h:Zjv w b n M f) (hn:n≤n'):Zjv w b n' M f:=by
 obtain⟨D,⟨es,clock,h1,h2,h3,h4⟩,h5⟩:=h;exact⟨D,⟨es,clock,h1,h2,Nat.le_trans h3 hn,h4⟩,h5⟩
theorem Zob {k:Nat} (hk:k≤1000000):keyOf Tryz.prog 3 (.int .i64 (k:Int))=some (.int .i64 (k:Int)):=keyOf_int_mk Tryz.underlying3 (by
 have e1:IntKind.i64.min = -9223372036854775808:=by decide
 have e2:IntKind.i64.max=9223372036854775807:=by decide
 show (decide (IntKind.i64.min≤(k:Int))&&decide ((k:Int)≤IntKind.i64.max))=true
 rw[e1,e2,decide_eq_true (by omega),decide_eq_true (by omega)];rfl)
theorem Ztg (w:World):(zeroValue 33).run Tryz.prog w = .ok (.slice none 0 0) w:=Tryz.zeroValue33 w
theorem Zjv.look {w:World} {b n M:Nat} {f:Nat→Value} (h:Zjv w b n M f) {k:Nat} (hk:k<M) (hM:M≤1000000) :
  (Instr.lookup 188 (.map (some b)) (.int .i64 (k:Int)) false).run Tryz.prog w = .ok (f k) w:=by
 obtain⟨D,h1,h2⟩:=h;obtain⟨v,ps,hrun,hv⟩:=h1.lookup Ztf Tryz.underlying188 (Ztg w) (zd:=.held (.slice none 0 0)) (zp:=[]) rfl (Zob (k:=k) (by omega));rw[h2 k hk] at hv
 have e:v=f k:=by
  have:=Option.some.inj hv;exact DataW.held.inj (Prod.mk.inj this).1
 rw[hrun,e]
theorem Zjv.new (w:World) (M:Nat):Zjv (w.alloc (.map #[] 0)) w.heap.size 0 M (fun _=>.slice none 0 0) :=
 ⟨.map [],World.ownsMap_made w Tryz.prog 3 Zm6,fun k _=>rfl⟩
theorem Zjv.put {w w':World} {b n M:Nat} {f:Nat→Value} {D:DataW Value} {k:Nat} {v:Value} (h:w.ownsMap Tryz.prog 3 Zm6 b n D) (hat:∀ k,k<M→D.atKey (.int .i64 (k:Int)) (.held (.slice none 0 0)) = .held (f k)) (hk:k<M) (hM:M≤1000000)
  (h':w'.ownsMap Tryz.prog 3 Zm6 b (n+1) (D.put (.int .i64 (k:Int)) (.held v))):Zjv w' b (n+1) M (Zan f k v):=by
 refine⟨_,h',fun j hj=>?_⟩;by_cases e:j=k
 ·subst e
  rw[atKey_put_same h.isMap (Ztf.key (Zob (by omega))),Zad]
 ·rw[atKey_put_other (fun h=>e (by injection h with _ h;exact Int.ofNat.inj h)),Zae _ _ _ e]
  exact hat j hj
structure PlcB where
 R:Nat
 RB:Nat
 T:Nat
 TV:Nat
 GB:Nat
 GV:Nat
 AB:Nat
 AV:Nat
 PB:Nat
 A:Nat
 mb:Nat→Nat
def PlcB.ptrs (b:PlcB):Array Value:=#[.pointer (some ⟨b.R,0,none⟩),.pointer (some ⟨b.RB,0,none⟩),.pointer (some ⟨b.T,0,none⟩),.pointer (some ⟨b.GB,0,none⟩),.pointer (some ⟨b.AB,0,none⟩),.pointer (some ⟨b.PB,0,none⟩)]
structure PlcD (lo hi:Nat) (b:PlcB):Prop where
 range:∀ g,g∈[b.R,b.RB,b.T,b.TV,b.GB,b.GV,b.AB,b.AV,b.PB]→lo≤g∧g<hi
 mbr:∀ i,i<16→lo≤b.mb i∧b.mb i<hi
 r:∀ g,g∈[b.RB,b.T,b.TV,b.GB,b.GV,b.AB,b.AV,b.PB]→g≠b.R
 tv:∀ g,g∈[b.R,b.RB,b.T,b.GB,b.GV,b.AB,b.AV,b.PB]→g≠b.TV
 av:∀ g,g∈[b.R,b.RB,b.T,b.TV,b.GB,b.GV,b.AB,b.PB]→g≠b.AV
 mb:∀ i,i<16→∀ g,g∈[b.R,b.RB,b.T,b.TV,b.GB,b.GV,b.AB,b.AV,b.PB]→g≠b.mb i
 mbj:∀ i j,i<16→j<16→i≠j→b.mb i≠b.mb j
structure PlcW (w0 w:World) (B:Nat) (b:PlcB) (U M:Nat) (G:Nat→Nat→List Nat) (a:Nat→Int) (t:Nat→Bool) (r:List Nat) (n:Nat) (ad:Nat→Nat→Option Addr) (cp:Nat→Nat→Nat) (ro:Option Addr) (rc:Nat):Prop where
 reach:Zaf w b.R 33 [.slice ro r.length rc]
 rown:OwnK w B 1 r.length rc (Za3 r) ro
 rbox:Zaf w b.RB 102 [.pointer (some ⟨b.A,0,none⟩)]
 tbox:Zaf w b.T 87 [.slice (some ⟨b.TV,0,none⟩) M M]
 tv:Zaf w b.TV 4 (bvs ((List.range M).map t))
 gbox:Zaf w b.GB 187 [.slice (some ⟨b.GV,0,none⟩) 16 16]
 gv:Zaf w b.GV 188 ((List.range 16).map (fun i=>Value.map (some (b.mb i))))
 maps:∀ i,i<16→Zjv w (b.mb i) n M (fun m=>.slice (ad i m) (G i m).length (cp i m))
 own:∀ i m,i<16→m<M→OwnK w B 1 (G i m).length (cp i m) (Za3 (G i m)) (ad i m)
 sep:∀ i m i' m',i<16→m<M→i'<16→m'<M→(i≠i'∨m≠m')→∀ g,blk (ad i m)=some g→blk (ad i' m')≠some g
 rsep:∀ i m,i<16→m<M→∀ g,blk (ad i m)=some g→blk ro≠some g
 abox:Zaf w b.AB 33 [.slice (some ⟨b.AV,0,none⟩) U U]
 av:Zaf w b.AV 3 (ivs ((List.range U).map a))
 pbox:Zaf w b.PB 114 [.func (.func 168) #[] b.ptrs]
 below:Below w0.heap.size w0 w
 big:B≤w.heap.size
section
variable {w0 w w':World} {B:Nat} {b:PlcB} {U M:Nat} {G:Nat→Nat→List Nat} {a:Nat→Int} {t:Nat→Bool} {r:List Nat} {n:Nat} {ad:Nat→Nat→Option Addr} {cp:Nat→Nat→Nat} {ro:Option Addr} {rc:Nat}
theorem PlcW.step (h:PlcW w0 w B b U M G a t r n ad cp ro rc) (hb:Below w.heap.size w w'):PlcW w0 w' B b U M G a t r n ad cp ro rc :=
 ⟨h.reach.step hb,h.rown.below hb,h.rbox.step hb,h.tbox.step hb,h.tv.step hb,h.gbox.step hb,h.gv.step hb,fun i hi=>(h.maps i hi).of_block (hb.block _ (h.maps i hi).lt),fun i m hi hm=>(h.own i m hi hm).below hb,h.sep,h.rsep,h.abox.step hb,h.av.step hb,h.pbox.step hb,h.below.trans (hb.mono h.below.size),Nat.le_trans h.big hb.size⟩
theorem Zf2 {α:Type} (f:Nat→α) (M k:Nat) (v:α):((List.range M).map f).set k v=(List.range M).map (Zan f k v):=by
 apply List.ext_getElem?;intro i;rw[List.getElem?_set,List.getElem?_map];by_cases hi:i<M
 ·rw[List.getElem?_map,List.getElem?_range hi]
  by_cases e:k=i
  ·subst e
   rw[if_pos rfl,if_pos (by simp;exact hi)];show _=some (Zan f k v k);rw[Zad]
  ·rw[if_neg e]
   show _=some (Zan f k v i);rw[Zae _ _ _ (fun e2=>e e2.symm)];rfl
 ·rw[List.getElem?_map,List.getElem?_eq_none (by simp;omega:(List.range M).length≤i)]
  split
  ·rw[if_neg (by simp;omega)];rfl
  ·rfl
theorem PlcW.setT (h:PlcW w0 w B b U M G a t r n ad cp ro rc) (hd:PlcD w0.heap.size B b) (m:Nat):PlcW w0 (w.setCell ⟨b.TV,m,none⟩ (.bool true)) B b U M G a (Zan t m true) r n ad cp ro rc:=by
 have on:=(Only.refl w (· = b.TV)).setCell (a:=⟨b.TV,m,none⟩) (.bool true) rfl;have hr:=hd.range b.TV (by simp);refine⟨h.reach.only on (hd.tv _ (by simp)),h.rown.of_block (fun g e hl=>on.block g hl (fun e2=>by have:=(h.rown.blk_lt e).1;omega)) on.size,h.rbox.only on (hd.tv _ (by simp)),h.tbox.only on (hd.tv _ (by simp)),?_,h.gbox.only on (hd.tv _ (by simp)),h.gv.only on (hd.tv _ (by simp)),fun i hi=>(h.maps i hi).of_block (on.block _ (h.maps i hi).lt (fun e=>hd.mb i hi b.TV (by simp) e.symm)),fun i m hi hm=>(h.own i m hi hm).of_block (fun g e hl=>on.block g hl (fun e2=>by have:=((h.own i m hi hm).blk_lt e).1;omega)) on.size,h.sep,h.rsep,h.abox.only on (hd.tv _ (by simp)),h.av.only on (hd.tv _ (by simp)),h.pbox.only on (hd.tv _ (by simp)),Only.later h.below on (fun g hg=>by omega),by rw[World.size_setCell];exact h.big⟩;have:=h.tv.set m (.bool true)
 rwa [← Zcx,Zf2] at this
theorem PlcW.setA (h:PlcW w0 w B b U M G a t r n ad cp ro rc) (hd:PlcD w0.heap.size B b) (u:Nat) (x:Int):PlcW w0 (w.setCell ⟨b.AV,u,none⟩ (.int .i64 x)) B b U M G (Zan a u x) t r n ad cp ro rc:=by
 have on:=(Only.refl w (· = b.AV)).setCell (a:=⟨b.AV,u,none⟩) (.int .i64 x) rfl;have hr:=hd.range b.AV (by simp);refine⟨h.reach.only on (hd.av _ (by simp)),h.rown.of_block (fun g e hl=>on.block g hl (fun e2=>by have:=(h.rown.blk_lt e).1;omega)) on.size,h.rbox.only on (hd.av _ (by simp)),h.tbox.only on (hd.av _ (by simp)),h.tv.only on (hd.av _ (by simp)),h.gbox.only on (hd.av _ (by simp)),h.gv.only on (hd.av _ (by simp)),fun i hi=>(h.maps i hi).of_block (on.block _ (h.maps i hi).lt (fun e=>hd.mb i hi b.AV (by simp) e.symm)),fun i m hi hm=>(h.own i m hi hm).of_block (fun g e hl=>on.block g hl (fun e2=>by have:=((h.own i m hi hm).blk_lt e).1;omega)) on.size,h.sep,h.rsep,h.abox.only on (hd.av _ (by simp)),?_,h.pbox.only on (hd.av _ (by simp)),Only.later h.below on (fun g hg=>by omega),by rw[World.size_setCell];exact h.big⟩;have:=h.av.set u (.int .i64 x);unfold ivs at this ⊢
 rwa [← List.map_set,Zf2] at this
theorem PlcW.setG (h:PlcW w0 w B b U M G a t r n ad cp ro rc) (hd:PlcD w0.heap.size B b) (x m i u g off:Nat) (hx:x<16) (hm:m<M) (hi:i<(G x m).length) (hg:ad x m=some ⟨g,off,none⟩) :
  PlcW w0 (w.setCell ⟨g,off+i,none⟩ (.int .i64 (u:Int))) B b U M (Zan G x (Zan (G x) m ((G x m).set i u))) a t r n ad cp ro rc:=by
 have on:=(Only.refl w (· = g)).setCell (a:=⟨g,off+i,none⟩) (.int .i64 (u:Int)) rfl;have ho:=h.own x m hx hm;rw[hg] at ho;have hgB:=(ho.blk_lt (g:=g) rfl).1
 have hne:∀ y,y∈[b.R,b.RB,b.T,b.TV,b.GB,b.GV,b.AB,b.AV,b.PB]→y≠g:=fun y hy e=>by have:=(hd.range y hy).2;omega
 have hlo:w0.heap.size≤g:=by have:=(hd.range b.R (by simp));omega
 have hlen:∀ i' m',(Zan G x (Zan (G x) m ((G x m).set i u)) i' m').length=(G i' m').length:=fun i' m'=>by
  by_cases e:i'=x
  ·subst e
   rw[Zad];by_cases e2:m'=m
   ·subst e2;rw[Zad,List.length_set]
   ·rw[Zae _ _ _ e2]
  ·rw[Zae _ _ _ e]
 refine⟨h.reach.only on (hne _ (by simp)),h.rown.of_block (fun g' e hl=>on.block g' hl (fun e2=>?_)) on.size,h.rbox.only on (hne _ (by simp)),h.tbox.only on (hne _ (by simp)),h.tv.only on (hne _ (by simp)),h.gbox.only on (hne _ (by simp)),h.gv.only on (hne _ (by simp)),fun i' hi'=>?_,fun i' m' hi' hm'=>?_,h.sep,h.rsep,h.abox.only on (hne _ (by simp)),h.av.only on (hne _ (by simp)),h.pbox.only on (hne _ (by simp)),Only.later h.below on (fun g' hg'=>by omega),by rw[World.size_setCell];exact h.big⟩
 ·subst e2
  exact h.rsep x m hx hm g' (by rw[hg];rfl) e
 ·have:=(h.maps i' hi').of_block (on.block _ (h.maps i' hi').lt (fun e=>by have:=(hd.mbr i' hi').2;omega))
  simp only[hlen];exact this
 ·rw[hlen]
  by_cases e:i'=x∧m'=m
  ·obtain⟨rfl,rfl⟩:=e
   rw[Zad,Zad,← Zlb,hg];exact ho.setAt i (by rw[Zig];exact hi) _
  ·have hG:Zan G x (Zan (G x) m ((G x m).set i u)) i' m'=G i' m':=by
    by_cases e1:i'=x
    ·subst e1
     rw[Zad,Zae _ _ _ (fun e2=>e ⟨rfl,e2⟩)]
    ·rw[Zae _ _ _ e1]
   rw[hG];refine (h.own i' m' hi' hm').of_block (fun g' e1 hl=>on.block g' hl (fun e2=>?_)) on.size;subst e2;exact h.sep x m i' m' hx hm hi' hm' (by by_cases e3:x=i';exact .inr (fun e4=>e ⟨e3.symm,e4.symm⟩);exact .inl e3) g' (by rw[hg];rfl) e1
theorem PlcW.addR (h:PlcW w0 w B b U M G a t r n ad cp ro rc) (hd:PlcD w0.heap.size B b) {wa:World} {u g5 off5 c5:Nat} (ho:OwnK wa B 1 (r.length+1) c5 (Za3 r++[.int .i64 (u:Int)]) (some ⟨g5,off5,none⟩)) (hg:w.grownBy wa (blk ro)) (hb:Below B w wa) (hor:blk ro=some g5∨w.heap.size≤g5) :
  PlcW w0 (wa.setCell ⟨b.R,0,none⟩ (.slice (some ⟨g5,off5,none⟩) (r.length+1) c5)) B b U M G a t (r++[u]) n ad cp (some ⟨g5,off5,none⟩) c5:=by
 have on:=(Only.refl wa (· = b.R)).setCell (a:=⟨b.R,0,none⟩) (.slice (some ⟨g5,off5,none⟩) (r.length+1) c5) rfl;have hR:=hd.range b.R (by simp)
 have hv:∀ {g:Nat} {T:TypeId} {cs:List Value},g∈[b.RB,b.T,b.TV,b.GB,b.GV,b.AB,b.AV,b.PB]→Zaf w g T cs→Zaf (wa.setCell ⟨b.R,0,none⟩ (.slice (some ⟨g5,off5,none⟩) (r.length+1) c5)) g T cs:=fun {g T cs} hm hh=>(hh.below hb (hd.range g (List.mem_cons_of_mem _ hm)).2).only on (hd.r g hm)
 have h5:=(ho.blk_lt (g:=g5) rfl).1;refine⟨?_,?_,hv (by simp) h.rbox,hv (by simp) h.tbox,hv (by simp) h.tv,hv (by simp) h.gbox,hv (by simp) h.gv,fun i hi=>?_,fun i m hi hm=>?_,h.sep,fun i m hi hm g e e2=>?_,hv (by simp) h.abox,hv (by simp) h.av,hv (by simp) h.pbox,?_,by rw[World.size_setCell];exact Nat.le_trans h.big hb.size⟩
 ·rw[List.length_append]
  exact (h.reach.below hb hR.2).set 0 _
 ·rw[List.length_append,← Zcg]
  exact ho.of_block (fun g e hl=>on.block g hl (fun e2=>by have h6:g5=g:=Option.some.inj e;omega)) on.size
 ·refine ((h.maps i hi).of_block (hb.block _ (hd.mbr i hi).2)).of_block (on.block _ ?_ (fun e=>hd.mb i hi b.R (by simp) e.symm))
  have:=hb.size;have:=(h.maps i hi).lt;omega
 ·have hx:blk (ad i m)≠blk ro∨blk (ad i m)=none:=by
   cases hb2:blk (ad i m) with
   | none=>exact .inr rfl
   | some g=>exact .inl (fun e=>h.rsep i m hi hm g hb2 e.symm)
  exact ((h.own i m hi hm).grown hg hx).of_block (fun g e hl=>on.block g hl (fun e2=>by have:=((h.own i m hi hm).blk_lt e).1;omega)) on.size
 ·have h6:g5=g:=Option.some.inj e2
  subst h6;rcases hor with h7 | h7
  ·exact h.rsep i m hi hm g5 e h7
  ·have:=((h.own i m hi hm).blk_lt e).2;omega
 ·exact Only.later (h.below.trans (hb.mono (by omega))) on (fun g hg=>by omega)
theorem PlcW.addG (h:PlcW w0 w B b U M G a t r n ad cp ro rc) (hd:PlcD w0.heap.size B b) {wa wb:World} {x m u g5 off5 c5:Nat} (hx:x<16) (hm:m<M) (ho:OwnK wa B 1 ((G x m).length+1) c5 (Za3 (G x m)++[.int .i64 (u:Int)]) (some ⟨g5,off5,none⟩)) (hg:w.grownBy wa (blk (ad x m))) (hb:Below B w wa) (hor:blk (ad x m)=some g5∨w.heap.size≤g5)
  (hM:Zjv wb (b.mb x) (n+1) M (Zan (fun m=>Value.slice (ad x m) (G x m).length (cp x m)) m (.slice (some ⟨g5,off5,none⟩) ((G x m).length+1) c5))) (on:Only wa wb (· = b.mb x)) :
  PlcW w0 wb B b U M (Zan G x (Zan (G x) m (G x m++[u]))) a t r (n+1) (Zan ad x (Zan (ad x) m (some ⟨g5,off5,none⟩))) (Zan cp x (Zan (cp x) m c5)) ro rc:=by
 have hmb:=hd.mbr x hx
 have hv:∀ {g:Nat} {T:TypeId} {cs:List Value},g∈[b.R,b.RB,b.T,b.TV,b.GB,b.GV,b.AB,b.AV,b.PB]→Zaf w g T cs→Zaf wb g T cs:=fun {g T cs} hm hh=>(hh.below hb (hd.range g hm).2).only on (hd.mb x hx g hm)
 have h5:=(ho.blk_lt (g:=g5) rfl).1
 have hself:∀ i' m',(i'=x∧m'=m)∨(Zan ad x (Zan (ad x) m (some ⟨g5,off5,none⟩)) i' m'=ad i' m'∧Zan G x (Zan (G x) m (G x m++[u])) i' m'=G i' m'∧Zan cp x (Zan (cp x) m c5) i' m'=cp i' m'∧¬ (i'=x∧m'=m)):=fun i' m'=>by
  by_cases e:i'=x∧m'=m
  ·exact .inl e
  ·right
   by_cases e1:i'=x
   ·subst e1
    have e2:m'≠m:=fun e2=>e ⟨rfl,e2⟩
    rw[Zad,Zad,Zad,Zae _ _ _ e2,Zae _ _ _ e2,Zae _ _ _ e2];exact⟨rfl,rfl,rfl,e⟩
   ·rw[Zae _ _ _ e1,Zae _ _ _ e1,Zae _ _ _ e1]
    exact⟨rfl,rfl,rfl,e⟩
 have hnew:∀ i' m',i'<16→m'<M→¬ (i'=x∧m'=m)→∀ g,blk (ad i' m')=some g→g≠g5:=fun i' m' hi' hm' e g hg' e2=>by
  subst e2;rcases hor with h7 | h7
  ·exact h.sep x m i' m' hx hm hi' hm' (by by_cases e3:x=i';exact .inr (fun e4=>e ⟨e3.symm,e4.symm⟩);exact .inl e3) g h7 hg'
  ·have:=((h.own i' m' hi' hm').blk_lt hg').2;omega
 refine⟨hv (by simp) h.reach,?_,hv (by simp) h.rbox,hv (by simp) h.tbox,hv (by simp) h.tv,hv (by simp) h.gbox,hv (by simp) h.gv,fun i hi=>?_,fun i' m' hi' hm'=>?_,fun i' m' i2 m2 hi' hm' hi2 hm2 hne g e e2=>?_,fun i' m' hi' hm' g e e2=>?_,hv (by simp) h.abox,hv (by simp) h.av,hv (by simp) h.pbox,?_,Nat.le_trans h.big (Nat.le_trans hb.size on.size)⟩
 ·have hxr:blk ro≠blk (ad x m)∨blk ro=none:=by
   cases hb2:blk ro with
   | none=>exact .inr rfl
   | some g=>exact .inl (fun e=>h.rsep x m hx hm g e.symm hb2)
  exact (h.rown.grown hg hxr).of_block (fun g e hl=>on.block g hl (fun e2=>by have:=(h.rown.blk_lt e).1;omega)) on.size
 ·by_cases e:i=x
  ·subst e
   have hf:(fun m'=>Value.slice (Zan ad i (Zan (ad i) m (some ⟨g5,off5,none⟩)) i m') (Zan G i (Zan (G i) m (G i m++[u])) i m').length (Zan cp i (Zan (cp i) m c5) i m'))=Zan (fun m=>Value.slice (ad i m) (G i m).length (cp i m)) m (.slice (some ⟨g5,off5,none⟩) ((G i m).length+1) c5):=by
    funext m'
    rw[Zad,Zad,Zad];by_cases e2:m'=m
    ·subst e2;rw[Zad,Zad,Zad,Zad,List.length_append];rfl
    ·rw[Zae _ _ _ e2,Zae _ _ _ e2,Zae _ _ _ e2,Zae _ _ _ e2]
   rw[hf];exact hM
  ·have hf:(fun m'=>Value.slice (Zan ad x (Zan (ad x) m (some ⟨g5,off5,none⟩)) i m') (Zan G x (Zan (G x) m (G x m++[u])) i m').length (Zan cp x (Zan (cp x) m c5) i m'))=(fun m=>Value.slice (ad i m) (G i m).length (cp i m)):=by
    funext m'
    rw[Zae _ _ _ e,Zae _ _ _ e,Zae _ _ _ e]
   rw[hf];have h1:=(h.maps i hi).of_block (hb.block _ (hd.mbr i hi).2);exact (h1.of_block (on.block _ h1.lt (hd.mbj i x hi hx e))).mono (Nat.le_succ n)
 ·rcases hself i' m' with ⟨rfl,rfl⟩ | ⟨e1,e2,e3,e4⟩
  ·rw[Zad,Zad,Zad,Zad,Zad,Zad,List.length_append,← Zcg]
   exact ho.of_block (fun g e hl=>on.block g hl (fun e2=>by have h6:g5=g:=Option.some.inj e;omega)) on.size
  ·rw[e1,e2,e3]
   have hxr:blk (ad i' m')≠blk (ad x m)∨blk (ad i' m')=none:=by
    cases hb2:blk (ad i' m') with
    | none=>exact .inr rfl
    | some g=>exact .inl (fun e=>h.sep x m i' m' hx hm hi' hm' (by by_cases e3:x=i';exact .inr (fun e5=>e4 ⟨e3.symm,e5.symm⟩);exact .inl e3) g e.symm hb2)
   exact ((h.own i' m' hi' hm').grown hg hxr).of_block (fun g e hl=>on.block g hl (fun e2=>by have:=((h.own i' m' hi' hm').blk_lt e).1;omega)) on.size
 ·rcases hself i' m' with ⟨rfl,rfl⟩ | ⟨e1,-,-,e4⟩
  ·rcases hself i2 m2 with ⟨rfl,rfl⟩ | ⟨f1,-,-,f4⟩
   ·rcases hne with h8 | h8<;>exact h8 rfl
   ·rw[Zad,Zad] at e
    rw[f1] at e2;have h6:g5=g:=Option.some.inj e;exact hnew i2 m2 hi2 hm2 f4 g e2 h6.symm
  ·rw[e1] at e
   rcases hself i2 m2 with ⟨rfl,rfl⟩ | ⟨f1,-,-,f4⟩
   ·rw[Zad,Zad] at e2
    have h6:g5=g:=Option.some.inj e2;exact hnew i' m' hi' hm' e4 g e h6.symm
   ·rw[f1] at e2
    exact h.sep i' m' i2 m2 hi' hm' hi2 hm2 hne g e e2
 ·rcases hself i' m' with ⟨rfl,rfl⟩ | ⟨e1,-,-,e4⟩
  ·rw[Zad,Zad] at e
   have h6:g5=g:=Option.some.inj e;subst h6;rcases hor with h7 | h7
   ·exact h.rsep i' m' hi' hm' g5 h7 e2
   ·have:=(h.rown.blk_lt e2).2;omega
  ·rw[e1] at e
   exact h.rsep i' m' hi' hm' g e e2
 ·exact Only.later (h.below.trans (hb.mono (by have:=(hd.range b.R (by simp));omega))) on (fun g hg=>by omega)
end
end
end Go.Proofs.YtbcgocpihobjnaaGreatDoor
