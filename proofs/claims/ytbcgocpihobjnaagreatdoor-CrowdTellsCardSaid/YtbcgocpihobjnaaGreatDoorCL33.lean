import Derived.BigQuiet
import Derived.Test.YtbcgocpihobjnaaGreatDoorCL32
import Derived.Test.YtbcgocpihobjnaaGreatDoorCL26
import Derived.Test.YtbcgocpihobjnaaGreatDoorCL24
import Derived.Test.YtbcgocpihobjnaaGreatDoorCL25
import Derived.Test.YtbcgocpihobjnaaGreatDoorCL27
import Derived.Test.YtbcgocpihobjnaaGreatDoorCL0
import Derived.Test.YtbcgocpihobjnaaGreatDoorCL22
import Derived.Test.YtbcgocpihobjnaaGreatDoorCL16
import Derived.Test.YtbcgocpihobjnaaGreatDoorCL11
import Derived.Test.YtbcgocpihobjnaaGreatDoorCL28
import Derived.Test.YtbcgocpihobjnaaGreatDoorCL23
import Derived.Test.YtbcgocpihobjnaaGreatDoorCL21
import Derived.Test.YtbcgocpihobjnaaGreatDoorCL2
import Derived.Test.YtbcgocpihobjnaaGreatDoorCL12
import Derived.Test.YtbcgocpihobjnaaGreatDoorShelf
import Derived.Test.YtbcgocpihobjnaaGreatDoorCL31
set_option linter.all false
set_option maxHeartbeats 32000000
set_option maxRecDepth 100000
namespace Go.Proofs.YtbcgocpihobjnaaGreatDoor
section
open Go.RowKit Go.Sort
theorem OwnK.setAt{w:World}{B k n cap g off:Nat}{xs:List Value}(h:OwnK w B k n cap xs (some ⟨g,off,none⟩))(i:Nat)(hi:i<xs.length)(v:Value) :
  OwnK (w.setCell ⟨g,off+i,none⟩ v) B k n cap (xs.set i v) (some ⟨g,off,none⟩):=by
 cases h with
 | «at» g off h h1 h2 h3 =>
  have t6:=h.cells i xs[i] (aL hi);have wF:=World.cell?_setCell_same w ⟨g,off+i,none⟩ v t6
  have Xp:∀ j,i≠j->(w.setCell ⟨g,off+i,none⟩ v).cell? ⟨g,off+j,none⟩=w.cell? ⟨g,off+j,none⟩:=fun j hj=>World.cell?_setCell_other w _ _ v (fun e=>hj (by have:=congrArg Addr.off e;simp at this;exact this))
  refine .at g off ⟨h.own,by rw[World.size_setCell];exact h.lt,by rw[List.length_set];exact h.le,fun j u hj=>?_,fun j hj=>?_,fun j hj=>?_⟩ (by rw[List.length_set];exact h1) h2 h3
  ·rw[List.getElem?_set] at hj
   by_cases e:i=j
   ·subst e
    rw[if_pos rfl,if_pos hi] at hj;cases hj;exact wF
   ·rw[if_neg e] at hj
    rw[Xp j e];exact h.cells j u hj
  ·by_cases e:i=j
   ·subst e;rw[wF];rfl
   ·rw[Xp j e];exact h.room j hj
  ·show(w.setCells g (off+i) [v]).frozen? _=_
   rw[World.frozen?_setCells];exact h.warm j hj
end
section
open Go.RowKit Go.Sort
theorem XC(i:Nat)(h:i<8):i=0\/i=1\/i=2\/i=3\/i=4\/i=5\/i=6\/i=7:=by omega
end
section
open Go.RowKit Go.Sort
theorem Zty(i:Nat)(h:i<12):i=0\/i=1\/i=2\/i=3\/i=4\/i=5\/i=6\/i=7\/i=8\/i=9\/i=10\/i=11:=by omega
end
section
open Go.RowKit Go.Sort
theorem tK.mono{w:World}{P P':Nat->Prop}{l:List Prd}{ao:Option Addr}(h:tK w P l ao)(hp:∀ g,P g->g<w.heap.size->P' g):tK w P' l ao:=by
 rcases h with h | ⟨g,off,h1,h2,h3,h4⟩
 ·exact .inl h
 ·exact .inr ⟨g,off,h1,hp g h2 h3,h3,gE.keep (fun g _ hg=>rfl) (aO _) hp l g off h2 h3 h4⟩
theorem Fk{bs:List Bool}{i:Nat}(h:i<bs.length):(bvs bs)[i]?=some (.bool (bs.getD i false)):=by
 unfold bvs;rw[dK,aL h,bR,aL h];rfl
end
section
open Go.RowKit Go.Sort
def lY(w:World)(rows:List (List Bool))(ao:Option Addr):Prop:=rows=[]\/∃ g off,ao=some ⟨g,off,none⟩/\g<w.heap.size/\∀ i row,rows[i]?=some row->∃ bo bc,w.cell? ⟨g,off+i,none⟩=some (.slice bo row.length bc)/\aY lO w bo row
theorem lY.below{w w':World}{rows:List (List Bool)}{ao:Option Addr}(h:lY w rows ao)(hb:Below w.heap.size w w'):lY w' rows ao:=by
 rcases h with h | ⟨g,off,h1,h2,h3⟩
 ·exact .inl h
 ·refine .inr ⟨g,off,h1,gR h2 hb.size,fun i row hi=>?_⟩
  obtain⟨bo,bc,h4,h5⟩:=h3 i row hi;exact⟨bo,bc,by rw[rJ (w:=w) (a:=⟨g,off+i,none⟩) (hb.block g h2)];exact h4,h5.below hb⟩
theorem lY.at{w:World}{rows:List (List Bool)}{ao:Option Addr}(h:lY w rows ao)(i:Nat)(row:List Bool)(hi:rows[i]?=some row):∃ g off bo bc,ao=some ⟨g,off,none⟩/\g<w.heap.size/\w.cell? ⟨g,off+i,none⟩=some (.slice bo row.length bc)/\aY lO w bo row:=by
 rcases h with h | ⟨g,off,h1,h2,h3⟩
 ·rw[h] at hi;simp at hi
 ·obtain⟨bo,bc,h4,h5⟩:=h3 i row hi
  exact⟨g,off,bo,bc,h1,h2,h4,h5⟩
theorem EM(l:List Bool):bvs l=l.flatMap lO:=by
 induction l with
 | nil=>rfl
 | cons x l ih=>show _::bvs l=_;rw[ih];rfl
theorem aC.flatB{w:World}{V:Nat}{l:List Bool}(h:aC w V 4 (bvs l)):aY lO w (some ⟨V,0,none⟩) l:=.inr ⟨V,0,rfl,h.lt,by rw[<- EM];exact h.readsR⟩
structure ReckC (w:World) (c:Crw) (H C:List (List Bool)) (qo mo uo ho co:Option Addr):Prop where
 q:tK w (fun _=>True) c.qs qo
 m:uA w c.ms mo
 u:aY cQ w uo c.us
 h:lY w H ho
 c:lY w C co
theorem ReckC.below{w w':World}{c:Crw}{H C:List (List Bool)}{qo mo uo ho co:Option Addr}(h:ReckC w c H C qo mo uo ho co)(hb:Below w.heap.size w w'):ReckC w' c H C qo mo uo ho co :=
 ⟨h.q.below hb,h.m.below hb,h.u.below hb,h.h.below hb,h.c.below hb⟩
def qO(c:Crw)(H C:List (List Bool))(qo mo uo ho co:Option Addr)(qc mc uc hc cc:Nat):List Value:=[.slice qo c.qs.length qc,.slice mo c.ms.length mc,.slice uo c.us.length uc,.slice ho H.length hc,.slice co C.length cc]
def fG(w:World)(A:Nat)(c:Crw)(H C:List (List Bool)):Prop:=∃ qo mo uo ho co qc mc uc hc cc,aC w A 113 (qO c H C qo mo uo ho co qc mc uc hc cc)/\ReckC w c H C qo mo uo ho co/\c.us.length<=uc/\C.length<=cc
theorem fG.below{w w':World}{A:Nat}{c:Crw}{H C:List (List Bool)}(h:fG w A c H C)(hb:Below w.heap.size w w'):fG w' A c H C:=by
 obtain⟨qo,mo,uo,ho,co,qc,mc,uc,hc,cc,h1,h2,h3⟩:=h;exact⟨qo,mo,uo,ho,co,qc,mc,uc,hc,cc,h1.step hb,h2.below hb,h3⟩
def Fl(hb:Bool)(r f h:Int)(k:Nat):Bool:=hb&&(r == -1||decide (f<=r))&&(h == -1||h==(k:Int))
def uB(c:Crw)(H:List (List Bool))(x:Use)(k:Nat):Bool:=Fl ((H.getD x.q.toNat []).getD k false) (c.ms.getD k ⟨[],[],0⟩).r x.f x.h k
def eY(c:Crw)(H:List (List Bool))(x:Use):List Bool:=(List.range c.ms.length).map (uB c H x)
theorem Sy(c:Crw)(H:List (List Bool))(x:Use):(eY c H x).length=c.ms.length:=by unfold eY;rw[eB,List.length_range]
theorem EN(w:World)(A:Nat)(c:Crw)(H C:List (List Bool))(x:Use)(hr:fG w A c H C)(dL:0<=x.q)(kL:x.q.toNat<H.length)(hH:∀ r∈H,r.length=c.ms.length)(hm:c.ms.length<=1000000) :
  Calls Tryz.prog 120 #[.pointer (some ⟨A,0,none⟩),.agg (cQ x).toArray] w fun e w'=>∃ bo,e = .returned (.slice bo c.ms.length c.ms.length)/\aY lO w' bo (eY c H x)/\(∃ V,bo=some ⟨V,0,none⟩/\w.heap.size<=V/\aC w' V 4 (bvs (eY c H x)))/\Below w.heap.size w w':=by
 obtain⟨qo,mo,uo,ho,co,qc,mc,uc,hc,cc,hA,hR,-⟩:=hr;obtain⟨aS,sR⟩:∃ r,H[x.q.toNat]?=some r:=⟨_,aL kL⟩;have eX:Hid (aS.length=c.ms.length):=I (hH _ (bU sR));obtain⟨qn,Xq⟩:∃ n:Nat,x.q=(n:Int):=⟨x.q.toNat,by omega⟩
 have Qf:x.q.toNat=qn:=by omega
 rw[Qf] at sR kL
 have yZ:Hid (∀ k,uB c H x k=Fl (aS.getD k false) (c.ms.getD k ⟨[],[],0⟩).r x.f x.h k):=I (fun k=>by
  unfold uB
  rw[Qf,bR (l:=H),sR];rfl)
 have HM:=I (fun W (hW:Below w.heap.size w W)=>hR.m.below hW);have HH:=I (fun W (hW:Below w.heap.size w W)=>(hR.h.below hW).at qn aS sR);have HA:=I (fun W (hW:Below w.heap.size w W)=>hA.step hW);have HF:Hid (eY c H x=(List.range c.ms.length).map (uB c H x)):=I rfl;generalize uB c H x=E at *;generalize eY c H x=RF at *;unfold qO at HA;have Gh:Hid (∀ k,k<c.ms.length->∃ m,c.ms[k]?=some m/\c.ms.getD k ⟨[],[],0⟩=m):=I (fun k hk=>⟨c.ms[k],aL hk,by rw[bR,aL hk];rfl⟩);have ic:Hid (qn<H.length):=I kL
 have hql:(qn:Int)<(H.length:Nat):=by omega
 clear hR hA sR hH kL;unfold cQ;rw[Xq];generalize x.w=x1 at *;generalize x.f=xf at *;generalize x.h=xh at *;generalize H.length=nh at *;generalize C.length=ncn at *;generalize c.qs.length=nq at *;generalize c.us.length=nu at *;clear Xq Qf dL;generalize t7:c.ms=ms at *;generalize cY:ms.length=nm at *;clear t7;have bx:=bwA w (.cells #[.int .i64 (qn:Int),.int .i64 x1,.int .i64 xf,.int .i64 xh] 39);have B1:=I bx;have X1:=hnw w 39 [.int .i64 (qn:Int),.int .i64 x1,.int .i64 xf,.int .i64 xh];clear bx
 go_enter Tryz.func120,Tryz.ntmps120
 go_upto_region 1 with(fail)
 generalize w.alloc (.cells #[.int .i64 (qn:Int),.int .i64 x1,.int .i64 xf,.int .i64 xh] 39)=w1 at *;have a1:=(HA.o w1 B1.o).cell 1 _ rfl;have gW:=run_make_row' (P:=Tryz.prog) 87 4 (.bool false) 1 Tryz.underlying87 Kx rfl .i64 .i64 nm (by omega) (by omega);rw[Vv] at gW;have bx:=bwA w1 (.cells (bvs (List.replicate nm false)).toArray 4);have B2:=B1.tr bx;have X2:=X1.st bx;have V2:Hid (aC (w1.alloc (.cells (bvs (List.replicate nm false)).toArray 4)) w1.heap.size 4 (bvs (List.replicate nm false))):=I (heap_alloc_new _ _);have jG:Hid (w.heap.size<=w1.heap.size/\w.heap.size<w1.heap.size):=I ⟨B1.o.size,X1.o.lt⟩;have a2:=(HA.o _ B2.o).cell 1 _ rfl;clear bx B1 X1
 go_wp2_with fail
 generalize yX:w1.alloc (.cells (bvs (List.replicate nm false)).toArray 4)=w2 at *;clear gW a1 a2 yX;generalize w1.heap.size=V at *
 go_loopw [21] (fun kv wr=>∃ (k:Nat) (bs:List Bool),kv = .int .i64 k/\k<=nm/\Hid (bs.length=nm)/\Hid (∀ j,j<k->bs[j]?=some (E j))/\Hid (aC wr w.heap.size 39 [.int .i64 (qn:Int),.int .i64 x1,.int .i64 xf,.int .i64 xh])/\Hid (aC wr V 4 (bvs bs))/\Hid (Below w.heap.size w wr)) (fun k _=>(nm-intOf k).toNat)
 case atStart=>exact⟨0,List.replicate nm false,rfl,by omega,I (by simp),I (fun j hj=>absurd hj (jU j)),X2,V2,B2⟩
 case round =>
  clear X2 V2 B2;obtain⟨k,bs,rfl,hk,kB,Jk,X3,V3,B3⟩:=hrel;have e2:=w1i k (by omega);by_cases aE:k<nm
  ·have kk:(k:Int)<nm:=by omega
   obtain⟨m,gW,IK⟩:=Gh.o k aE;have Me:Hid (E k=Fl (aS.getD k false) m.r xf xh k):=I (by rw[yZ.o,IK]);obtain⟨gm,om,cs,lC,gI,dX,aH⟩:=(HM.o wr B3.o).at k m gW;obtain⟨bo,bc,to',tc,rfl,-,-⟩:=dX;have s0:=aH 0 _ rfl;have s1:=aH 1 _ rfl;have s2:=aH 2 _ rfl;rw[Nat.add_zero] at s0;have Gi:=I lC;generalize m.b.length=nb at *;generalize m.t.length=nt at *;generalize m.r=mr at *;have bx:=bwA wr (.cells #[.slice bo nb bc,.slice to' nt tc,.int .i64 mr] 44);have S2:=hnw wr 44 [.slice bo nb bc,.slice to' nt tc,.int .i64 mr];have X4:=X3.st bx;have V4:=I (V3.o.step bx);have B4:=B3.tr bx;clear aH gI gW IK bx X3 V3;subst lC
   go_upto_region 5 with(fail)
   clear s0 s1 s2;generalize hW2:wr.alloc (.cells #[.slice bo nb bc,.slice to' nt tc,.int .i64 mr] 44)=W2 at *;clear hW2;generalize wr.heap.size=Mb at *;have a3:=(HA.o W2 B4.o).cell 3 _ rfl;obtain⟨gh,oh,rb,rc,Mf,Xr,fS,iA⟩:=HH.o W2 B4.o;obtain⟨gb,ob,dE,iR⟩:=iA.bool k (by rw[eX.o];omega);rw[eX.o] at fS;have Gj:=I Mf;have qX:=I dE;subst Mf;subst dE;have x0:=X4.o.cell 0 _ rfl;have x2:=X4.o.cell 2 _ rfl;have x3:=X4.o.cell 3 _ rfl;have m2:=S2.o.cell 2 _ rfl;generalize aS.getD k false=hb at *;have c1:=cell_regrown a3;have c2:=cell_regrown fS;have c3:=cell_regrown iR;have c4:=cell_regrown x0;have c5:=cell_regrown x2;have c6:=cell_regrown x3;have c7:=cell_regrown m2;clear a3 fS iR x0 x2 x3 m2 iA Xr;have kn:(k:Int)<(nm:Int):=kk
   cases hb with
   | false =>
    have HE:Hid (E k=false):=I (by rw[Me.o];rfl);refine Kw 37 (by kernel_rfl) (by kernel_rfl) ?_;simp only[List.take_succ_cons,List.take_zero,List.drop_succ_cons,List.drop_zero]
    repeat (go_big_quiet_step (fail))
    refine wpQuiet_nil ?_;intro _ bM;obtain⟨⟨dq,osq⟩,dF⟩:=bM;subst dF;have dJ:=below_regrown W2 dq osq;have X5:=X4.st dJ;have V5:=I (V4.o.step dJ);have B5:=B4.tr dJ;clear c1 c2 c3 c4 c5 c6 c7 dJ X4 V4 B4 S2;generalize grow (redrawn W2 dq) osq=wd at *;have t0:=V5.o.cell k _ (Fk (by rw[kB.o];exact aE));have tf:=V5.o.warm k
    go_wp2_with fail
    clear t0 tf;have on:=(Only.refl wd (· = V)).setCell (a:=⟨V,k,none⟩) (.bool false) rfl;have V6:Hid (aC (wd.setCell ⟨V,k,none⟩ (.bool false)) V 4 (bvs (bs.set k false))):=I (by have:=V5.o.set k (.bool false);rwa [zY]);have X6:=I (X5.o.only on (fun e=>by have:=jG.o.2;omega));have B6:=I (Only.later B5.o on (fun g hg=>by have:=jG.o.1;omega));clear on;go_roundw
    case rel=>exact⟨k+1,bs.set k false,by go_num,by omega,I (by rw[List.length_set];exact kB.o),I (fun j hj=>by
     rcases gQ j k with h | h
     ·rw[List.getElem?_set_ne (by omega)];exact Jk.o j h
     ·obtain rfl:j=k:=by omega
      rw[List.getElem?_set_self (by rw[kB.o];exact aE),HE.o]),X6,V6,B6⟩
    case measure=>simp only[intOf];omega
   | true =>
    by_cases h1:mr = -1
    ·have n1:(mr==(-1:Int))=true:=by rw[h1];rfl
     have h2:True:=trivial;by_cases h3:xh = -1
     ·have n3:(xh==(-1:Int))=true:=by rw[h3];rfl
      have HE:Hid (E k=true):=I (by rw[Me.o];unfold Fl;simp[h1,h2,h3]<;>omega);refine Kw 37 (by kernel_rfl) (by kernel_rfl) ?_;simp only[List.take_succ_cons,List.take_zero,List.drop_succ_cons,List.drop_zero]
      repeat (go_big_quiet_step (fail))
      refine wpQuiet_nil ?_;intro _ bM;obtain⟨⟨dq,osq⟩,dF⟩:=bM;subst dF;have dJ:=below_regrown W2 dq osq;have X5:=X4.st dJ;have V5:=I (V4.o.step dJ);have B5:=B4.tr dJ;clear c1 c2 c3 c4 c5 c6 c7 dJ X4 V4 B4 S2;generalize grow (redrawn W2 dq) osq=wd at *;have t0:=V5.o.cell k _ (Fk (by rw[kB.o];exact aE));have tf:=V5.o.warm k
      go_wp2_with fail
      clear t0 tf;have on:=(Only.refl wd (· = V)).setCell (a:=⟨V,k,none⟩) (.bool true) rfl;have V6:Hid (aC (wd.setCell ⟨V,k,none⟩ (.bool true)) V 4 (bvs (bs.set k true))):=I (by have:=V5.o.set k (.bool true);rwa [zY]);have X6:=I (X5.o.only on (fun e=>by have:=jG.o.2;omega));have B6:=I (Only.later B5.o on (fun g hg=>by have:=jG.o.1;omega));clear on;go_roundw
      case rel=>exact⟨k+1,bs.set k true,by go_num,by omega,I (by rw[List.length_set];exact kB.o),I (fun j hj=>by
       rcases gQ j k with h | h
       ·rw[List.getElem?_set_ne (by omega)];exact Jk.o j h
       ·obtain rfl:j=k:=by omega
        rw[List.getElem?_set_self (by rw[kB.o];exact aE),HE.o]),X6,V6,B6⟩
      case measure=>simp only[intOf];omega
     ·have n3:(xh==(-1:Int))=false:=by simpa using h3
      by_cases h4:xh=(k:Int)
      ·have n4:(xh==(k:Int))=true:=by rw[h4];simp
       have HE:Hid (E k=true):=I (by rw[Me.o];unfold Fl;simp[h1,h2,h3,h4]<;>omega);clear h4;refine Kw 37 (by kernel_rfl) (by kernel_rfl) ?_;simp only[List.take_succ_cons,List.take_zero,List.drop_succ_cons,List.drop_zero]
       repeat (go_big_quiet_step (fail))
       refine wpQuiet_nil ?_;intro _ bM;obtain⟨⟨dq,osq⟩,dF⟩:=bM;subst dF;have dJ:=below_regrown W2 dq osq;have X5:=X4.st dJ;have V5:=I (V4.o.step dJ);have B5:=B4.tr dJ;clear c1 c2 c3 c4 c5 c6 c7 dJ X4 V4 B4 S2;generalize grow (redrawn W2 dq) osq=wd at *;have t0:=V5.o.cell k _ (Fk (by rw[kB.o];exact aE));have tf:=V5.o.warm k
       go_wp2_with fail
       clear t0 tf;have on:=(Only.refl wd (· = V)).setCell (a:=⟨V,k,none⟩) (.bool true) rfl;have V6:Hid (aC (wd.setCell ⟨V,k,none⟩ (.bool true)) V 4 (bvs (bs.set k true))):=I (by have:=V5.o.set k (.bool true);rwa [zY]);have X6:=I (X5.o.only on (fun e=>by have:=jG.o.2;omega));have B6:=I (Only.later B5.o on (fun g hg=>by have:=jG.o.1;omega));clear on;go_roundw
       case rel=>exact⟨k+1,bs.set k true,by go_num,by omega,I (by rw[List.length_set];exact kB.o),I (fun j hj=>by
        rcases gQ j k with h | h
        ·rw[List.getElem?_set_ne (by omega)];exact Jk.o j h
        ·obtain rfl:j=k:=by omega
         rw[List.getElem?_set_self (by rw[kB.o];exact aE),HE.o]),X6,V6,B6⟩
       case measure=>simp only[intOf];omega
      ·have n4:(xh==(k:Int))=false:=by simpa using h4
       have HE:Hid (E k=false):=I (by rw[Me.o];unfold Fl;simp[h1,h2,h3,h4]<;>omega);refine Kw 37 (by kernel_rfl) (by kernel_rfl) ?_;simp only[List.take_succ_cons,List.take_zero,List.drop_succ_cons,List.drop_zero]
       repeat (go_big_quiet_step (fail))
       refine wpQuiet_nil ?_;intro _ bM;obtain⟨⟨dq,osq⟩,dF⟩:=bM;subst dF;have dJ:=below_regrown W2 dq osq;have X5:=X4.st dJ;have V5:=I (V4.o.step dJ);have B5:=B4.tr dJ;clear c1 c2 c3 c4 c5 c6 c7 dJ X4 V4 B4 S2;generalize grow (redrawn W2 dq) osq=wd at *;have t0:=V5.o.cell k _ (Fk (by rw[kB.o];exact aE));have tf:=V5.o.warm k
       go_wp2_with fail
       clear t0 tf;have on:=(Only.refl wd (· = V)).setCell (a:=⟨V,k,none⟩) (.bool false) rfl;have V6:Hid (aC (wd.setCell ⟨V,k,none⟩ (.bool false)) V 4 (bvs (bs.set k false))):=I (by have:=V5.o.set k (.bool false);rwa [zY]);have X6:=I (X5.o.only on (fun e=>by have:=jG.o.2;omega));have B6:=I (Only.later B5.o on (fun g hg=>by have:=jG.o.1;omega));clear on;go_roundw
       case rel=>exact⟨k+1,bs.set k false,by go_num,by omega,I (by rw[List.length_set];exact kB.o),I (fun j hj=>by
        rcases gQ j k with h | h
        ·rw[List.getElem?_set_ne (by omega)];exact Jk.o j h
        ·obtain rfl:j=k:=by omega
         rw[List.getElem?_set_self (by rw[kB.o];exact aE),HE.o]),X6,V6,B6⟩
       case measure=>simp only[intOf];omega
    ·have n1:(mr==(-1:Int))=false:=by simpa using h1
     by_cases h2:xf<=mr
     ·have i2:xf<=mr:=h2
      by_cases h3:xh = -1
      ·have n3:(xh==(-1:Int))=true:=by rw[h3];rfl
       have HE:Hid (E k=true):=I (by rw[Me.o];unfold Fl;simp[h1,h2,h3]<;>omega);refine Kw 37 (by kernel_rfl) (by kernel_rfl) ?_;simp only[List.take_succ_cons,List.take_zero,List.drop_succ_cons,List.drop_zero]
       repeat (go_big_quiet_step (fail))
       refine wpQuiet_nil ?_;intro _ bM;obtain⟨⟨dq,osq⟩,dF⟩:=bM;subst dF;have dJ:=below_regrown W2 dq osq;have X5:=X4.st dJ;have V5:=I (V4.o.step dJ);have B5:=B4.tr dJ;clear c1 c2 c3 c4 c5 c6 c7 dJ X4 V4 B4 S2;generalize grow (redrawn W2 dq) osq=wd at *;have t0:=V5.o.cell k _ (Fk (by rw[kB.o];exact aE));have tf:=V5.o.warm k
       go_wp2_with fail
       clear t0 tf;have on:=(Only.refl wd (· = V)).setCell (a:=⟨V,k,none⟩) (.bool true) rfl;have V6:Hid (aC (wd.setCell ⟨V,k,none⟩ (.bool true)) V 4 (bvs (bs.set k true))):=I (by have:=V5.o.set k (.bool true);rwa [zY]);have X6:=I (X5.o.only on (fun e=>by have:=jG.o.2;omega));have B6:=I (Only.later B5.o on (fun g hg=>by have:=jG.o.1;omega));clear on;go_roundw
       case rel=>exact⟨k+1,bs.set k true,by go_num,by omega,I (by rw[List.length_set];exact kB.o),I (fun j hj=>by
        rcases gQ j k with h | h
        ·rw[List.getElem?_set_ne (by omega)];exact Jk.o j h
        ·obtain rfl:j=k:=by omega
         rw[List.getElem?_set_self (by rw[kB.o];exact aE),HE.o]),X6,V6,B6⟩
       case measure=>simp only[intOf];omega
      ·have n3:(xh==(-1:Int))=false:=by simpa using h3
       by_cases h4:xh=(k:Int)
       ·have n4:(xh==(k:Int))=true:=by rw[h4];simp
        have HE:Hid (E k=true):=I (by rw[Me.o];unfold Fl;simp[h1,h2,h3,h4]<;>omega);clear h4;refine Kw 37 (by kernel_rfl) (by kernel_rfl) ?_;simp only[List.take_succ_cons,List.take_zero,List.drop_succ_cons,List.drop_zero]
        repeat (go_big_quiet_step (fail))
        refine wpQuiet_nil ?_;intro _ bM;obtain⟨⟨dq,osq⟩,dF⟩:=bM;subst dF;have dJ:=below_regrown W2 dq osq;have X5:=X4.st dJ;have V5:=I (V4.o.step dJ);have B5:=B4.tr dJ;clear c1 c2 c3 c4 c5 c6 c7 dJ X4 V4 B4 S2;generalize grow (redrawn W2 dq) osq=wd at *;have t0:=V5.o.cell k _ (Fk (by rw[kB.o];exact aE));have tf:=V5.o.warm k
        go_wp2_with fail
        clear t0 tf;have on:=(Only.refl wd (· = V)).setCell (a:=⟨V,k,none⟩) (.bool true) rfl;have V6:Hid (aC (wd.setCell ⟨V,k,none⟩ (.bool true)) V 4 (bvs (bs.set k true))):=I (by have:=V5.o.set k (.bool true);rwa [zY]);have X6:=I (X5.o.only on (fun e=>by have:=jG.o.2;omega));have B6:=I (Only.later B5.o on (fun g hg=>by have:=jG.o.1;omega));clear on;go_roundw
        case rel=>exact⟨k+1,bs.set k true,by go_num,by omega,I (by rw[List.length_set];exact kB.o),I (fun j hj=>by
         rcases gQ j k with h | h
         ·rw[List.getElem?_set_ne (by omega)];exact Jk.o j h
         ·obtain rfl:j=k:=by omega
          rw[List.getElem?_set_self (by rw[kB.o];exact aE),HE.o]),X6,V6,B6⟩
        case measure=>simp only[intOf];omega
       ·have n4:(xh==(k:Int))=false:=by simpa using h4
        have HE:Hid (E k=false):=I (by rw[Me.o];unfold Fl;simp[h1,h2,h3,h4]<;>omega);refine Kw 37 (by kernel_rfl) (by kernel_rfl) ?_;simp only[List.take_succ_cons,List.take_zero,List.drop_succ_cons,List.drop_zero]
        repeat (go_big_quiet_step (fail))
        refine wpQuiet_nil ?_;intro _ bM;obtain⟨⟨dq,osq⟩,dF⟩:=bM;subst dF;have dJ:=below_regrown W2 dq osq;have X5:=X4.st dJ;have V5:=I (V4.o.step dJ);have B5:=B4.tr dJ;clear c1 c2 c3 c4 c5 c6 c7 dJ X4 V4 B4 S2;generalize grow (redrawn W2 dq) osq=wd at *;have t0:=V5.o.cell k _ (Fk (by rw[kB.o];exact aE));have tf:=V5.o.warm k
        go_wp2_with fail
        clear t0 tf;have on:=(Only.refl wd (· = V)).setCell (a:=⟨V,k,none⟩) (.bool false) rfl;have V6:Hid (aC (wd.setCell ⟨V,k,none⟩ (.bool false)) V 4 (bvs (bs.set k false))):=I (by have:=V5.o.set k (.bool false);rwa [zY]);have X6:=I (X5.o.only on (fun e=>by have:=jG.o.2;omega));have B6:=I (Only.later B5.o on (fun g hg=>by have:=jG.o.1;omega));clear on;go_roundw
        case rel=>exact⟨k+1,bs.set k false,by go_num,by omega,I (by rw[List.length_set];exact kB.o),I (fun j hj=>by
         rcases gQ j k with h | h
         ·rw[List.getElem?_set_ne (by omega)];exact Jk.o j h
         ·obtain rfl:j=k:=by omega
          rw[List.getElem?_set_self (by rw[kB.o];exact aE),HE.o]),X6,V6,B6⟩
        case measure=>simp only[intOf];omega
     ·have i2:¬ xf<=mr:=h2
      have HE:Hid (E k=false):=I (by rw[Me.o];unfold Fl;simp[h1,h2]<;>omega);refine Kw 37 (by kernel_rfl) (by kernel_rfl) ?_;simp only[List.take_succ_cons,List.take_zero,List.drop_succ_cons,List.drop_zero]
      repeat (go_big_quiet_step (fail))
      refine wpQuiet_nil ?_;intro _ bM;obtain⟨⟨dq,osq⟩,dF⟩:=bM;subst dF;have dJ:=below_regrown W2 dq osq;have X5:=X4.st dJ;have V5:=I (V4.o.step dJ);have B5:=B4.tr dJ;clear c1 c2 c3 c4 c5 c6 c7 dJ X4 V4 B4 S2;generalize grow (redrawn W2 dq) osq=wd at *;have t0:=V5.o.cell k _ (Fk (by rw[kB.o];exact aE));have tf:=V5.o.warm k
      go_wp2_with fail
      clear t0 tf;have on:=(Only.refl wd (· = V)).setCell (a:=⟨V,k,none⟩) (.bool false) rfl;have V6:Hid (aC (wd.setCell ⟨V,k,none⟩ (.bool false)) V 4 (bvs (bs.set k false))):=I (by have:=V5.o.set k (.bool false);rwa [zY]);have X6:=I (X5.o.only on (fun e=>by have:=jG.o.2;omega));have B6:=I (Only.later B5.o on (fun g hg=>by have:=jG.o.1;omega));clear on;go_roundw
      case rel=>exact⟨k+1,bs.set k false,by go_num,by omega,I (by rw[List.length_set];exact kB.o),I (fun j hj=>by
       rcases gQ j k with h | h
       ·rw[List.getElem?_set_ne (by omega)];exact Jk.o j h
       ·obtain rfl:j=k:=by omega
        rw[List.getElem?_set_self (by rw[kB.o];exact aE),HE.o]),X6,V6,B6⟩
      case measure=>simp only[intOf];omega
  ·have kk:¬ (k:Int)<nm:=by omega
   obtain rfl:nm=k:=by omega
   have iB:Hid (RF=bs):=I (by
    rw[HF.o];apply List.ext_getElem?;intro j;by_cases hj:j<nm
    ·rw[Jk.o j hj,dK,List.getElem?_range hj];rfl
    ·rw[List.getElem?_eq_none (by simp;omega),List.getElem?_eq_none (by rw[kB.o];omega)])
   go_wp2_with fail
   go_ret;exact⟨some ⟨V,0,none⟩,rfl,by rw[iB.o];exact V3.o.flatB,⟨V,rfl,jG.o.1,by rw[iB.o];exact V3.o⟩,B3.o⟩
end
section
open Go.RowKit Go.Sort
def hmB(p:Prd)(m:Mem):Bool:=(rI p m.b).1&&((rI p m.b).2==0)
def bS(c:Crw):List (List Bool):=c.qs.map (fun p=>c.ms.map (hmB p))
def aW(c:Crw):List (List Bool):=c.us.map (eY c (bS c))
theorem Zwp{l:List Nat}(h:iG l=true):NmB l:=by
 obtain⟨a,b,rfl,-,-,h1,h2,h3,h4⟩:=TL h;refine⟨fun y hy=>?_,?_⟩
 ·rcases kI.1 hy with h5 | h5
  ·have:=(h1 y h5).1;omega
  ·rcases List.mem_cons.1 h5 with h6 | h6
   ·omega
   ·have:=(h2 y h6).1;omega
 ·rw[gL,List.length_cons];omega
theorem XD{l:List Bnd}(h:vbP l=true):BndOk l:=⟨fun b hb=>Zwp (nf [] l h b hb).1⟩
theorem tL{c:Crw}(h:bG c=true):c.qs.length<=128/\c.ms.length<=64/\c.us.length<=4096/\(∀ p∈c.qs,jV p=true)/\(∀ m∈c.ms,vR m=true)/\∀ x∈c.us,nG c.qs.length c.ms.length x=true:=by
 unfold bG at h;simp only[dB,decide_eq_true_eq,Bool.not_eq_true',List.any_eq_false,Bool.not_eq_true,Bool.not_eq_false'] at h;obtain⟨⟨⟨⟨⟨h1,h2⟩,h3⟩,h4⟩,h5⟩,h6⟩:=h;exact⟨h1,h2,h3,fun p hp=>by simpa using h4 p hp,fun m hm=>by simpa using h5 m hm,fun x hx=>by simpa using h6 x hx⟩
theorem Le{nq nm:Nat}{x:Use}(h:nG nq nm x=true):0<=x.q/\x.q.toNat<nq/\0<=x.w/\x.w<=15/\-1<=x.h/\x.h<=(nm:Int)-1:=by
 unfold nG inB at h;simp only[dB,decide_eq_true_eq] at h;omega
theorem XE{m:Mem}(h:vR m=true):vbP m.b=true:=by
 unfold vR at h;simp only[dB] at h;exact h.1.1.1
def BlE(w:World)(P:Nat->Prop)(c:List Bool)(vs:List Value):Prop:=∃ ao cap,vs=[.slice ao c.length cap]/\(c=[]\/∃ g off,ao=some ⟨g,off,none⟩/\P g/\g<w.heap.size/\dD w g off (c.flatMap lO))
theorem BlE.keeps:Vu BlE:=fun w w' P P' c vs hb hs hP ⟨ao,cap,hv,hk⟩=>⟨ao,cap,hv,by
 rcases hk with hk | ⟨g,off,h1,h2,h3,h4⟩
 ·exact .inl hk
 ·exact .inr ⟨g,off,h1,hP g h2 h3,gR h3 hs,h4.of_block (hb g h2 h3)⟩⟩
theorem RowM.rowsB{base lo n cp:Nat}{w:World}{bad:Nat->Prop}{ao:Option Addr}{rows:List (List Bool)}{vss:List (List Value)}(h:RowM BlE 1 base w lo bad ao n cp rows vss):lY w rows ao:=by
 rcases Nat.eq_zero_or_pos rows.length with h0 | h0
 ·exact .inl (List.eq_nil_of_length_eq_zero h0)
 ·obtain⟨g,off,vs,h1,h2,-⟩:=h.at 0 rows[0] (aL h0)
  refine .inr ⟨g,off,h1,h2,fun i row hi=>?_⟩;obtain⟨g',off',vs',kM,Pn,-,-,-,Cb,bo,bc,rfl,h5⟩:=h.at i row hi;rw[h1] at kM;cases kM;have:=Cb 0 _ rfl;rw[Nat.mul_one,Nat.add_zero] at this;refine⟨bo,bc,this,?_⟩;rcases h5 with h6 | ⟨g2,off2,h6,-,h7,h8⟩
  ·exact .inl h6
  ·exact .inr ⟨g2,off2,h6,h7,h8⟩
theorem Hr:(Tryz.prog.info? 87).map (fun i=>(i.zero,i.size,i.bytes))=some (some (.slice none 0 0),1,24):=by kernel_rfl
theorem XF{w:World}{B n cap:Nat}{l:List Bool}{ao:Option Addr}(h:OwnK w B 1 n cap (bvs l) ao)(hn:n=l.length)(P:Nat->Prop)(hP:∀ g,B<=g->P g):BlE w P l [.slice ao n cap]:=by
 refine⟨ao,cap,by rw[hn],?_⟩;rw[EM] at h;rcases h.flatR Su hn with h1 | ⟨g,off,h1,h2,h3⟩
 ·exact .inl h1
 ·exact .inr ⟨g,off,h1,hP g (h.blk_lt (by rw[h1];rfl)).1,h2,h3⟩
theorem XG{w:World}{l:List Bool}{V cap:Nat}(h:aC w V 4 (bvs l))(P:Nat->Prop)(hP:P V):BlE w P l [.slice (some ⟨V,0,none⟩) l.length cap]:=by
 refine⟨some ⟨V,0,none⟩,cap,rfl,.inr ⟨V,0,rfl,hP,h.lt,?_⟩⟩;rw[<- EM];exact h.readsR
theorem RowM.cap_le{α:Type}{EL:World->(Nat->Prop)->α->List Value->Prop}{k base lo n cp:Nat}{w:World}{bad:Nat->Prop}{ao:Option Addr}{xs:List α}{vss:List (List Value)}(h:RowM EL k base w lo bad ao n cp xs vss):n<=cp:=by
 cases h.own with
 | nil _ h1 h2=>omega
 | «at» g off h1 h2 h3 h4=>exact h4
def Be(w:World)(P:Nat->Prop)(rows:List (List Bool))(ao:Option Addr):Prop:=rows=[]\/∃ g off,ao=some ⟨g,off,none⟩/\P g/\g<w.heap.size/\∀ i row,rows[i]?=some row->∃ bo bc,w.cell? ⟨g,off+i,none⟩=some (.slice bo row.length bc)/\(row=[]\/∃ g2 off2,bo=some ⟨g2,off2,none⟩/\P g2/\g2<w.heap.size/\dD w g2 off2 (row.flatMap lO))
theorem RowM.rowsP{base lo n cp:Nat}{w:World}{bad:Nat->Prop}{ao:Option Addr}{rows:List (List Bool)}{vss:List (List Value)}(h:RowM BlE 1 base w lo bad ao n cp rows vss)(P:Nat->Prop)(h1:∀ g,lo<=g->P g)(h2:∀ g,base<=g->P g):Be w P rows ao:=by
 rcases Nat.eq_zero_or_pos rows.length with h0 | h0
 ·exact .inl (List.eq_nil_of_length_eq_zero h0)
 ·obtain⟨g,off,vs,e1,e2,e3,-⟩:=h.at 0 rows[0] (aL h0)
  refine .inr ⟨g,off,e1,h1 g e3,e2,fun i row hi=>?_⟩;obtain⟨g',off',vs',kM,Pn,-,-,-,Cb,bo,bc,rfl,h5⟩:=h.at i row hi;rw[e1] at kM;cases kM;have:=Cb 0 _ rfl;rw[Nat.mul_one,Nat.add_zero] at this;refine⟨bo,bc,this,?_⟩;rcases h5 with h6 | ⟨g2,off2,h6,h9,h7,h8⟩
  ·exact .inl h6
  ·exact .inr ⟨g2,off2,h6,h2 g2 h9.1,h7,h8⟩
theorem Be.rowsB{w w':World}{P p:Nat->Prop}{rows:List (List Bool)}{ao:Option Addr}(h:Be w P rows ao)(on:Only w w' p)(hp:∀ g,P g->¬ p g):lY w' rows ao:=by
 rcases h with h | ⟨g,off,h1,hP,h2,h3⟩
 ·exact .inl h
 ·refine .inr ⟨g,off,h1,gR h2 on.size,fun i row hi=>?_⟩
  obtain⟨bo,bc,h4,h5⟩:=h3 i row hi;refine⟨bo,bc,by rw[rJ (w:=w) (a:=⟨g,off+i,none⟩) (on.block g h2 (hp g hP))];exact h4,?_⟩;rcases h5 with h6 | ⟨g2,off2,h6,h9,h7,h8⟩
  ·exact .inl h6
  ·exact .inr ⟨g2,off2,h6,gR h7 on.size,h8.of_block (on.block g2 h7 (hp g2 h9))⟩
def oO(w:World)(Q:Nat->Prop)(A:Nat)(c:Crw)(H C:List (List Bool)):Prop:=∃ qo mo uo ho co qc mc uc hc cc,aC w A 113 (qO c H C qo mo uo ho co qc mc uc hc cc)/\¬ Q A/\c.us.length<=uc/\C.length<=cc /\
 (∀ W,Only w W Q->ReckC W c H C qo mo uo ho co)/\(C=[]\/∃ g off,co=some ⟨g,off,none⟩/\g<w.heap.size/\¬ Q g/\∀ i row,C[i]?=some row->∃ bo bc,w.cell? ⟨g,off+i,none⟩=some (.slice bo row.length bc)/\∀ W,Only w W Q->aY lO W bo row)
theorem Be.only{w w':World}{P p:Nat->Prop}{rows:List (List Bool)}{ao:Option Addr}(h:Be w P rows ao)(on:Only w w' p)(hp:∀ g,P g->¬ p g):Be w' P rows ao:=by
 rcases h with h | ⟨g,off,h1,hP,h2,h3⟩
 ·exact .inl h
 ·refine .inr ⟨g,off,h1,hP,gR h2 on.size,fun i row hi=>?_⟩
  obtain⟨bo,bc,h4,h5⟩:=h3 i row hi;refine⟨bo,bc,by rw[rJ (w:=w) (a:=⟨g,off+i,none⟩) (on.block g h2 (hp g hP))];exact h4,?_⟩;rcases h5 with h6 | ⟨g2,off2,h6,h9,h7,h8⟩
  ·exact .inl h6
  ·exact .inr ⟨g2,off2,h6,h9,gR h7 on.size,h8.of_block (on.block g2 h7 (hp g2 h9))⟩
theorem Be.mono{w:World}{P P':Nat->Prop}{rows:List (List Bool)}{ao:Option Addr}(h:Be w P rows ao)(hp:∀ g,P g->P' g):Be w P' rows ao:=by
 rcases h with h | ⟨g,off,h1,hP,h2,h3⟩
 ·exact .inl h
 ·refine .inr ⟨g,off,h1,hp g hP,h2,fun i row hi=>?_⟩
  obtain⟨bo,bc,h4,h5⟩:=h3 i row hi;refine⟨bo,bc,h4,?_⟩;rcases h5 with h6 | ⟨g2,off2,h6,h9,h7,h8⟩
  ·exact .inl h6
  ·exact .inr ⟨g2,off2,h6,hp g2 h9,h7,h8⟩
def Sz(w w':World)(A:Nat)(c:Crw)(cs:List Value):Prop:=∀ (w0:World) (Q:Nat->Prop),mO w0 c cs->Below w0.heap.size w0 w->(∀ g,Q g->w0.heap.size<=g/\g<w.heap.size)->oO w' Q A c (bS c) (aW c)
theorem Z2e {w w':World} {A:Nat} {c:Crw} {H C:List (List Bool)} {qo mo uo ho co:Option Addr} {qc mc uc hc cc:Nat} (hH0:H=bS c) (hC0:C=aW c) (hA:aC w' A 113 (qO c H C qo mo uo ho co qc mc uc hc cc)) (hAA:w.heap.size<=A) (hb:Below w.heap.size w w') (cF:c.us.length<=uc) (eK:C.length<=cc)
  (hH:Be w' (fun g=>w.heap.size<=g) H ho) (hC:Be w' (fun g=>w.heap.size<=g) C co):Sz w w' A c [.slice qo c.qs.length qc,.slice mo c.ms.length mc,.slice uo c.us.length uc]:=by
 subst hH0 hC0;intro w0 Q sN nL hQ;obtain⟨qo',qc',mo',mc',uo',uc',e0,dL,cN,dN,-⟩:=sN;simp only[List.cons.injEq,Value.slice.injEq,and_true] at e0;obtain⟨⟨e1,-⟩,⟨e2,-⟩,⟨e3,-⟩⟩:=e0;subst e1 e2 e3
 have jX:∀ g,w.heap.size<=g->¬ Q g:=fun g h1 h2=>by have:=(hQ g h2).2;omega
 have kO:Below w0.heap.size w0 w':=nL.trans (hb.mono nL.size);refine⟨qo,mo,uo,ho,co,qc,mc,uc,hc,cc,hA,jX A hAA,cF,eK,fun W oW=>?_,?_⟩
 ·have hW:Below w0.heap.size w0 W:=oW.later kO (fun g h=>(hQ g h).1)
  exact⟨dL.below hW,cN.below hW,dN.below hW,hH.rowsB oW jX,hC.rowsB oW jX⟩
 ·rcases hC with h | ⟨g,off,h1,hP,h2,h3⟩
  ·exact .inl h
  ·refine .inr ⟨g,off,h1,h2,jX g hP,fun i row hi=>?_⟩
   obtain⟨bo,bc,h4,h5⟩:=h3 i row hi;refine⟨bo,bc,h4,fun W oW=>?_⟩;rcases h5 with h6 | ⟨g2,off2,h6,h9,h7,h8⟩
   ·exact .inl h6
   ·exact .inr ⟨g2,off2,h6,gR h7 oW.size,h8.of_block (oW.block g2 h7 (jX g2 h9))⟩
def Fm(w:World)(c:Crw)(cs:List Value)(e:Ending)(w':World):Prop :=
 (if bG c=true then ∃ A,e = .returned (.tuple #[.pointer (some ⟨A,0,none⟩),.bool true])/\fG w' A c (bS c) (aW c)/\w.heap.size<=A/\Sz w w' A c cs
  else e = .returned (.tuple #[.pointer none,.bool false]))/\Below w.heap.size w w'
theorem Lf(w:World)(c:Crw)(cs:List Value)(hc:mO w c cs)(B:Nat)(hT:Tab w B)(aJ:CrwOk c) :
  Calls Tryz.prog 81 #[.agg cs.toArray] w fun e w'=>Fm w c cs e w':=by
 have lD:=I (fun W (hW:Below w.heap.size w W)=>WG W c cs (hc.below hW) B (gS.step (w:=w) hT hW) aJ);obtain⟨qo,qc,mo,mc,uo,uc,rfl,hq,hm,hu,kC⟩:=hc;have sS:=I kC;have HQ:=I (fun W (hW:Below w.heap.size w W)=>hq.below hW);have HM:=I (fun W (hW:Below w.heap.size w W)=>hm.below hW);have HU:=I (fun W (hW:Below w.heap.size w W)=>hu.below hW);have HT:=I (fun W (hW:Below w.heap.size w W)=>(show Tab W B from gS.step (w:=w) hT hW));have eW:=aJ.nq;have cY:=aJ.nm;have dH:=aJ.nu;have lQ:=I (fun p (hp:p∈c.qs)=>(aJ.q p hp).2);have Ub:=I (fun m (hm:m∈c.ms)=>(aJ.m m hm).2.1);unfold Fm;have nM:=I (fun(h:bG c=true)=>tL h);have Xs:Hid (bS c=c.qs.map (fun p=>c.ms.map (hmB p))):=I rfl;have lT:Hid (aW c=c.us.map (eY c (bS c))):=I rfl;generalize bG c=vc at *;generalize hHF:bS c=HF at *;have td:=I hHF.symm;clear hHF;generalize hCF:aW c=CF at *;have t8:=I hCF.symm;clear hCF;clear hq hm hu aJ hT kC;generalize IL:c.qs.length=nq at *;generalize Xt:c.ms.length=nm at *;generalize Xu:c.us.length=nu at *;have Jl:=I IL;have fW:=I Xt;have iC:=I Xu;clear IL Xt Xu;have bx:=bwA w (.cells #[.slice qo nq qc,.slice mo nm mc,.slice uo nu uc] 26);have B1:=I bx;have X1:=hnw w 26 [.slice qo nq qc,.slice mo nm mc,.slice uo nu uc];clear bx
 go_enter Tryz.func81,Tryz.ntmps81
 go_upto_region 1 with(fail)
 generalize w.alloc (.cells #[.slice qo nq qc,.slice mo nm mc,.slice uo nu uc] 26)=w1 at *;obtain⟨c0,c1,c2⟩:=X1.o.c3
 go_wp2_with fail
 refine(lD.o w1 B1.o).mono ?_;rintro e w2 ⟨rfl,b2⟩;have B2:=B1.tr b2;have X2:=X1.st b2;clear b2 c0 c1 c2 B1 X1 lD
 cases vc with
 | false =>
  go_wp2_with fail
  ((try simp only[Exit.inBlock,Exit.then]);refine bodyPost_ret (results_tmp2 rfl _ _ _) rfl ?_)
  exact⟨rfl,B2.o⟩
 | true =>
  obtain⟨h1,h2,h3,h4,h5,h6⟩:=nM.o rfl;have IM:=I h4;have tR:=I h5;have wG:=I h6;clear h4 h5 h6 nM;obtain⟨c0,c1,c2⟩:=X2.o.c3;have bx:=bwA w2 (.cells #[.slice qo nq qc,.slice mo nm mc,.slice uo nu uc,.slice none 0 0,.slice none 0 0] 113);have B3:=B2.tr bx;have X3:=X2.st bx;have A3:=hnw w2 113 [.slice qo nq qc,.slice mo nm mc,.slice uo nu uc,.slice none 0 0,.slice none 0 0];have Ci:Hid (w.heap.size<=w2.heap.size/\w.heap.size<w2.heap.size):=I ⟨B2.o.size,X2.o.lt⟩;clear bx
  go_upto_region 4 with(fail)
  generalize kA:w2.alloc (.cells #[.slice qo nq qc,.slice mo nm mc,.slice uo nu uc,.slice none 0 0,.slice none 0 0] 113)=w3 at *
  have qY:w3.heap.size=w2.heap.size+1:=by rw[<- kA];simp
  have Gk:=I qY;clear kA qY c0 c1 c2 X2 B2;generalize w2.heap.size=A at *;have R3:Hid (RowM BlE 1 (A+1) w3 (A+1) (· = A) none 0 0 (HF.take 0) []):=I (by rw[List.take_zero];exact RowM.nil _ _ _);have c0:=X3.o.cell 0 _ rfl
  go_wp2_with fail
  clear c0
  go_loopw [23] (fun iv wr=>∃ (i:Nat) (ho:Option Addr) (hc:Nat) (vss:List (List Value)),iv = .int .i64 i/\i<=nq/\Hid (aC wr A 113 [.slice qo nq qc,.slice mo nm mc,.slice uo nu uc,.slice ho i hc,.slice none 0 0])/\Hid (RowM BlE 1 (A+1) wr (A+1) (· = A) ho i hc (HF.take i) vss)/\Hid (aC wr w.heap.size 26 [.slice qo nq qc,.slice mo nm mc,.slice uo nu uc])/\Hid (Below w.heap.size w wr)/\Hid (A+1<=wr.heap.size)) (fun i _=>(nq-intOf i).toNat)
  case atStart=>exact⟨0,none,0,[],rfl,by omega,A3,R3,X3,B3,I (by rw[Gk.o];exact aO _)⟩
  case round =>
   clear A3 R3 X3 B3 Gk;obtain⟨i,ho,hc,vss,rfl,hi,A4,R4,X4,B4,L4⟩:=hrel;have e2:=w1i i (by omega);by_cases aE:i<nq
   ·have ii:(i:Int)<nq:=by omega
    obtain⟨p,hp⟩:∃ p,c.qs[i]?=some p:=⟨_,aL (by rw[Jl.o];exact aE)⟩;have IN:=I (bU hp);have Xv:=IM.o p IN.o;have Gj:=I (fun W vs (bH:cK W (fun _=>True) p vs) (hT:Tab W B) m (hm:m∈c.ms) bo bc (hb:tJ W (fun _=>True) m.b bo)=>Zv7 p W (fun _=>True) (fun _=>True) vs B m.b bo m.b.length bc (lQ.o p IN.o) (EA p (DH Xv)) bH hT rfl (Ub.o m hm) (XD (XE (tR.o m hm))) hb);have rU:Hid (HF.take (i+1)=HF.take i++[c.ms.map (hmB p)]):=I (by rw[lN,Xs.o,dK,hp];rfl);obtain⟨g,off,vs,bI,dT,bH,aH⟩:=(HQ.o wr B4.o).at i p hp;obtain⟨xa,xn,xc,mS,-⟩:=bH.form;subst mS;have nO:=I (fun W (hW:Below wr.heap.size wr W)=>bH.below hW);have s0:=aH 0 _ rfl;have s1:=aH 1 _ rfl;have s2:=aH 2 _ rfl;have s3:=aH 3 _ rfl;have s4:=aH 4 _ rfl;rw[Nat.add_zero] at s0;clear hp bH aH dT Xv;subst bI;generalize hR:c.ms.map (hmB p)=RW at *;have eX:Hid (RW.length=nm):=I (by rw[<- hR,eB,fW.o]);have Cj:Hid (∀ k m,c.ms[k]?=some m->RW[k]?=some (hmB p m)):=I (fun k m h=>by rw[<- hR,dK,h];rfl);clear hR;have u4:Hid (∀ m,hmB p m=((rI p m.b).1&&((rI p m.b).2==0))):=I (fun m=>rfl);generalize p.k=q0 at *;generalize aB p.l=q1 at *;generalize aB p.r=q2 at *;generalize p.c=q3 at *;have bx:=bwA wr (.cells #[.int .i64 q0,.string q1,.string q2,.int .i64 q3,.slice xa xn xc] 54);have P5:=hnw wr 54 [.int .i64 q0,.string q1,.string q2,.int .i64 q3,.slice xa xn xc];have BX:=I bx;clear bx
    go_upto_region 7 with(fail)
    clear s0 s1 s2 s3 s4;generalize wr.alloc (.cells #[.int .i64 q0,.string q1,.string q2,.int .i64 q3,.slice xa xn xc] 54)=w5 at *;have X5:=X4.st BX.o;have x1:=X5.o.cell 1 _ rfl
    go_wp2_with fail
    clear x1;have u5:=I (fun W (hW:Below w5.heap.size w5 W)=>nO.o W (BX.o.trans (hW.mono BX.o.size)));have B5:=B4.tr BX.o;have A5:=I (A4.o.step BX.o);have R5:=I (R4.o.step BlE.keeps BX.o);have u6:Hid (∀ g,blk ho=some g->g<w5.heap.size):=I (fun g hg=>(R5.o.own.blk_lt hg).2);have L5:Hid (A+1<=w5.heap.size):=I (dQ L4.o BX.o.size);have gO:Hid (wr.heap.size<w5.heap.size):=I P5.o.lt;generalize wr.heap.size=PB at *;clear nO BX A4 R4 X4 B4 L4
    go_loopw [7,30] (fun rv kv wq=>∃ (k:Nat) (ro:Option Addr) (rc:Nat),kv = .int .i64 k/\k<=nm/\rv = .slice ro k rc/\Hid (OwnK wq w5.heap.size 1 k rc (bvs (RW.take k)) ro)/\Hid (aC wq PB 54 [.int .i64 q0,.string q1,.string q2,.int .i64 q3,.slice xa xn xc])/\Hid (Below w5.heap.size w5 wq)) (fun _ k _=>(nm-intOf k).toNat)
    case atStart=>exact⟨0,none,0,rfl,by omega,rfl,I (.nil (by simp[bvs]) rfl rfl),P5,I (aG _ _)⟩
    case round =>
     clear P5;obtain⟨k,ro,rc,rfl,hk,rfl,O6,P6,W6⟩:=hrel;have e3:=w1i k (by omega);by_cases bT:k<nm
     ·have kk:(k:Int)<nm:=by omega
      obtain⟨m,gW⟩:∃ m,c.ms[k]?=some m:=⟨_,aL (by rw[fW.o];exact bT)⟩;have cU:Hid (bvs (RW.take k)++[.bool (hmB p m)]=bvs (RW.take (k+1))):=I (by rw[lN,Cj.o k m gW];simp[bvs]);rw[u4.o] at cU;have B6:=B5.tr W6.o;obtain⟨gm,om,tg,lC,gI,dX,aH⟩:=(HM.o wr B6.o).at k m gW;obtain⟨bo,bc,to',tc,rfl,Ck,-⟩:=dX;have s0:=aH 0 _ rfl;have s1:=aH 1 _ rfl;have s2:=aH 2 _ rfl;rw[Nat.add_zero] at s0;have bx:=bwA wr (.cells #[.slice bo m.b.length bc,.slice to' m.t.length tc,.int .i64 m.r] 44);have yW:=I (Gj.o _ _ (u5.o _ (W6.o.trans (bx.mono W6.o.size))) (HT.o _ (B6.o.trans (bx.mono B6.o.size))) m (bU gW) bo bc (Ck.below bx));have M7:=hnw wr 44 [.slice bo m.b.length bc,.slice to' m.t.length tc,.int .i64 m.r];have P7:=I (P6.o.step bx);have O7:=I (O6.o.below bx);have W7:=W6.tr bx;clear aH gI Ck bx gW P6 O6 W6 B6;have Gi:=I lC;subst lC;generalize m.t.length=nt at *;generalize m.r=mr at *
      go_upto_region 11 with(fail)
      clear s0 s1 s2;generalize wr.alloc (.cells #[.slice bo m.b.length bc,.slice to' nt tc,.int .i64 mr] 44)=w7 at *;generalize (rI p m.b).1=r1 at *;generalize (rI p m.b).2=r2 at *;generalize m.b.length=nb at *;obtain⟨y0,y1,y2,y3,y4⟩:=P7.o.c5;have m0:=M7.o.cell 0 _ rfl
      go_wp2_with fail
      refine yW.o.mono ?_;rintro e w8 ⟨rfl,b8⟩;have O8:=I (O7.o.below b8);have P8:=I (P7.o.step b8);have W8:=W7.tr b8;clear b8 y0 y1 y2 y3 y4 m0 O7 P7 W7 yW M7 Gi
      cases r1 with
      | false =>
       go_wp2_with (at_builtin;refine jM 87 4 (.bool false) 1 1 Tryz.underlying87 Kx rfl (by omega) (by omega) w8 w5.heap.size rfl (.tmp 41) (.tmp 47) rfl ro rc k (bvs (RW.take k)) ?q1 O8.o W8.o.size 1 1 #[.bool false] 4 ?q2 rfl (by omega) ?q3 ?q4 ?_;(case q1=>rfl);(case q2=>rfl);(case q3=>simp[Value.oneCell']);(case q4=>omega);intro g5 off5 c5 wa o8 aX b8 bW;have O9:=I o8;have B9:=I b8;have P9:=I (P8.o.grownBy aX (fun e=>by have h:=(O8.o.blk_lt e).1;have:=gO.o;omega));clear o8 aX b8 bW)
       have W9:=I (W8.o.trans B9.o);go_roundw
       case rel=>exact⟨k+1,some ⟨g5,off5,none⟩,c5,by go_num,by omega,rfl,I (by have h:=cU.o;rw[dS] at h;rw[<- h];exact O9.o),P9,W9⟩
       case measure=>simp only[intOf];omega
      | true =>
       by_cases ie:r2=0
       ·have n2:(r2==(0:Int))=true:=by rw[ie];rfl
        have Qg:Hid (bvs (RW.take k)++[.bool true]=bvs (RW.take (k+1))):=I (by have:=cU.o;rwa [n2] at this);clear ie
        go_wp2_with (at_builtin;refine jM 87 4 (.bool false) 1 1 Tryz.underlying87 Kx rfl (by omega) (by omega) w8 w5.heap.size rfl (.tmp 41) (.tmp 47) rfl ro rc k (bvs (RW.take k)) ?q1 O8.o W8.o.size 1 1 #[.bool true] 4 ?q2 rfl (by omega) ?q3 ?q4 ?_;(case q1=>rfl);(case q2=>rfl);(case q3=>simp[Value.oneCell']);(case q4=>omega);intro g5 off5 c5 wa o8 aX b8 bW;have O9:=I o8;have B9:=I b8;have P9:=I (P8.o.grownBy aX (fun e=>by have h:=(O8.o.blk_lt e).1;have:=gO.o;omega));clear o8 aX b8 bW)
        have W9:=I (W8.o.trans B9.o);go_roundw
        case rel=>exact⟨k+1,some ⟨g5,off5,none⟩,c5,by go_num,by omega,rfl,I (by rw[<- Qg.o];exact O9.o),P9,W9⟩
        case measure=>simp only[intOf];omega
       ·have n2:(r2==(0:Int))=false:=by simpa using ie
        have Qg:Hid (bvs (RW.take k)++[.bool false]=bvs (RW.take (k+1))):=I (by have:=cU.o;rwa [n2] at this);clear ie
        go_wp2_with (at_builtin;refine jM 87 4 (.bool false) 1 1 Tryz.underlying87 Kx rfl (by omega) (by omega) w8 w5.heap.size rfl (.tmp 41) (.tmp 47) rfl ro rc k (bvs (RW.take k)) ?q1 O8.o W8.o.size 1 1 #[.bool false] 4 ?q2 rfl (by omega) ?q3 ?q4 ?_;(case q1=>rfl);(case q2=>rfl);(case q3=>simp[Value.oneCell']);(case q4=>omega);intro g5 off5 c5 wa o8 aX b8 bW;have O9:=I o8;have B9:=I b8;have P9:=I (P8.o.grownBy aX (fun e=>by have h:=(O8.o.blk_lt e).1;have:=gO.o;omega));clear o8 aX b8 bW)
        have W9:=I (W8.o.trans B9.o);go_roundw
        case rel=>exact⟨k+1,some ⟨g5,off5,none⟩,c5,by go_num,by omega,rfl,I (by rw[<- Qg.o];exact O9.o),P9,W9⟩
        case measure=>simp only[intOf];omega
     ·have kk:¬ ((k:Int)<nm):=by omega
      obtain rfl:nm=k:=by omega
      have dM:Hid (RW.take nm=RW):=I (List.take_of_length_le (by rw[eX.o];exact aO _));have B6:=B5.tr W6.o;have A6:=I (A5.o.step W6.o);have X6:=X5.st W6.o;have R6:=I (R5.o.step BlE.keeps W6.o);have E6:Hid (BlE wr (fun g=>w5.heap.size<=g) RW [.slice ro nm rc]):=I (XF (by have:=O6.o;rwa [dM.o] at this) eX.o.symm _ (fun g hg=>hg));have L6:Hid (A+1<=wr.heap.size):=I (dQ L5.o W6.o.size);clear A5 X5 R5 O6;have a3:=A6.o.cell 3 _ rfl
      go_upto_region 15 with(first | fail | (at_builtin;refine jM 86 87 (.slice none 0 0) 1 24 Tryz.underlying86 Hr rfl (by omega) (by omega) wr (A+1) rfl (.tmp 54) (.tmp 56) rfl ho hc i vss.flatten ?t1 R6.o.own ?t5 1 1 #[.slice ro nm rc] 87 ?t2 rfl (by omega) ?t3 ?t4 ?_;(case t1=>rfl);(case t5=>exact L6.o);(case t2=>rfl);(case t3=>intro u hu;simp at hu;subst hu;rfl);(case t4=>omega);intro g5 off5 c5 wa o8 aX b8 bW;have Cl:Hid (A+1<=g5):=I (o8.blk_lt (g:=g5) rfl).1;have R8:=I (RowM.add BlE.keeps R6.o u6.o L5.o (fun g hg=>by have:=L5.o;omega) E6.o rfl o8 aX bW);have A8:=I (A6.o.grownBy aX (fun e=>by have:=(R6.o.own.blk_lt e).1;omega));have X8:=I (X6.o.grownBy aX (fun e=>by have:=(R6.o.own.blk_lt e).1;have:=Ci.o.2;omega));have B8:=I (B6.o.trans (b8.mono (by have:=Ci.o.1;omega)));have t3:=A8.o.cell 3 _ rfl;have tf:=A8.o.warm 3;clear a3 o8 aX b8 bW))
      clear t3 tf;have on:=(Only.refl wa (· = A)).setCell (a:=⟨A,3,none⟩) (.slice (some ⟨g5,off5,none⟩) (i+1) c5) rfl;have A9:=I (A8.o.set 3 (.slice (some ⟨g5,off5,none⟩) (i+1) c5));have R9:=I (RowM.turn BlE.keeps R8.o on (fun g hg=>.inl hg) (fun g hg e=>by have:=Cl.o;have h:g5=g:=bF hg;omega));have X9:=I (X8.o.only on (fun e=>by have:=Ci.o.2;omega));have B9:=I (Only.later B8.o on (fun g hg=>by have:=Ci.o.1;omega));have L9:Hid (A+1<=(wa.setCell ⟨A,3,none⟩ (.slice (some ⟨g5,off5,none⟩) (i+1) c5)).heap.size):=I (by have:=A9.o.lt;omega);clear on A8 R8 X8 B8
      go_wp2_with fail
      go_roundw
      case rel=>exact⟨i+1,some ⟨g5,off5,none⟩,c5,vss++[[.slice ro nm rc]],by go_num,by omega,A9,I (by rw[rU.o];exact R9.o),X9,B9,L9⟩
      case measure=>simp only[intOf];omega
   ·have ii:¬ ((i:Int)<nq):=by omega
    obtain rfl:nq=i:=by omega
    have IP:Hid (HF.take nq=HF):=I (List.take_of_length_le (by rw[Xs.o,eB,Jl.o];exact aO _));have Cm:Hid (Be wr (fun g=>A+1<=g) HF ho):=I (by have:=R4.o.rowsP (fun g=>A+1<=g) (fun g h=>h) (fun g h=>h);rwa [IP.o] at this)
    have zA:Hid (∀ r∈HF,r.length=c.ms.length):=I (by
     rw[Xs.o];intro r hr;obtain⟨p,-,rfl⟩:=List.mem_map.1 hr
     rw[eB])
    have rW:Hid (HF.length=nq):=I (by rw[Xs.o,eB,Jl.o]);have x2:=X4.o.cell 2 _ rfl
    go_wp2_with fail
    clear x2 R4 IP Xs IM tR lQ Ub HT;have Jm:Hid (A<wr.heap.size/\w.heap.size<wr.heap.size):=I ⟨A4.o.lt,X4.o.lt⟩;generalize wr=wo at *;have RC:Hid (RowM BlE 1 wo.heap.size wo wo.heap.size (· = A) none 0 0 (CF.take 0) []):=I (by rw[List.take_zero];exact RowM.nil _ _ _)
    go_loopw [64] (fun jv wr=>∃ (j:Nat) (co:Option Addr) (cc:Nat) (vss:List (List Value)),jv = .int .i64 j/\j<=nu/\Hid (aC wr A 113 [.slice qo nq qc,.slice mo nm mc,.slice uo nu uc,.slice ho nq hc,.slice co j cc])/\Hid (RowM BlE 1 wo.heap.size wr wo.heap.size (· = A) co j cc (CF.take j) vss)/\Hid (aC wr w.heap.size 26 [.slice qo nq qc,.slice mo nm mc,.slice uo nu uc])/\Hid (Only wo wr (· = A))/\Hid (Below w.heap.size w wr)/\Hid (wo.heap.size<=wr.heap.size)) (fun j _=>(nu-intOf j).toNat)
    case atStart=>exact⟨0,none,0,[],rfl,by omega,A4,RC,X4,I (Only.refl _ _),B4,I (aO _)⟩
    case round =>
     clear A4 RC X4 B4;obtain⟨j,co,cc,vss,rfl,hj,A5,R5,X5,F5,B5,L5⟩:=hrel;have e3:=w1i j (by omega);by_cases rM:j<nu
     ·have jj:(j:Int)<nu:=by omega
      obtain⟨x,hx⟩:∃ x,c.us[j]?=some x:=⟨_,aL (by rw[iC.o];exact rM)⟩;have IQ:=I (Le (wG.o x (bU hx)));have u7:Hid (CF.take (j+1)=CF.take j++[eY c HF x]):=I (by rw[lN,lT.o,dK,hx];rfl);have cA:Hid ((CF.take j).length=j):=I (by rw[List.length_take,lT.o,eB,iC.o];omega);obtain⟨gu,ou,eV,iZ,cF⟩:=(HU.o wr B5.o).at mN j x hx;have s0:=cF 0 _ rfl;have s1:=cF 1 _ rfl;have s2:=cF 2 _ rfl;have s3:=cF 3 _ rfl;rw[Nat.add_zero] at s0;have Mg:=I eV;have bx:=bwA wr (.cells #[.int .i64 x.q,.int .i64 x.w,.int .i64 x.f,.int .i64 x.h] 39);have U6:=hnw wr 39 [.int .i64 x.q,.int .i64 x.w,.int .i64 x.f,.int .i64 x.h];have A6:=I (A5.o.step bx);have R6:=I (R5.o.step BlE.keeps bx);have X6:=X5.st bx;have F6:=I (F5.o.step bx);have B6:=B5.tr bx;have L6:Hid (wr.heap.size<=(wr.alloc (.cells #[.int .i64 x.q,.int .i64 x.w,.int .i64 x.f,.int .i64 x.h] 39)).heap.size):=I bx.size;have Lt:Hid (∀ g,blk co=some g->g<wr.heap.size):=I (fun g hg=>(R5.o.own.blk_lt hg).2);have Qh:Hid (A<wr.heap.size/\w.heap.size<wr.heap.size):=I ⟨A5.o.lt,X5.o.lt⟩;clear hx iZ cF bx A5 R5 X5 F5 B5;subst eV;have mD:=I (fun W (hr:fG W A c HF (CF.take j))=>EN W A c HF (CF.take j) x hr IQ.o.1 (by rw[rW.o];exact IQ.o.2.1) zA.o (by rw[fW.o];exact cY));rw[fW.o] at mD;have eX:=I (Sy c HF x);rw[fW.o] at eX;generalize hRX:eY c HF x=RX at *;clear hRX;unfold cQ at mD;generalize x.q=u0 at *;generalize x.w=u1 at *;generalize x.f=u2 at *;generalize x.h=u3 at *
      go_upto_region 19 with(fail)
      clear s0 s1 s2 s3;generalize wr.alloc (.cells #[.int .i64 u0,.int .i64 u1,.int .i64 u2,.int .i64 u3] 39)=wx at *;refine Ku [0,1,2,3,4,5,6] [7,8,9,10,11,12] (fun w'=>aC w' A 113 [.slice qo nq qc,.slice mo nm mc,.slice (some ⟨gu,ou,none⟩) nu uc,.slice ho nq hc,.slice co j cc]/\aC w' wr.heap.size 39 [.int .i64 u0,.int .i64 u1,.int .i64 u2,.int .i64 u3]) (by kernel_rfl) (by kernel_rfl) (by kernel_rfl) (fun _ _ d _ _ h=>by cases d<;>exact h) ⟨A6.o.step (aG _ _).drew,U6.o.step (aG _ _).drew⟩ ?_;simp only[iH,List.filterMap_cons,List.filterMap_nil,List.getElem?_cons_zero,List.getElem?_cons_succ,Option.map_some,List.map_cons,List.map_nil];apply Exists.intro;refine⟨?hh,?ht⟩
      case hh =>
       intro w' bM;have c4:=bM.1.cell 4 _ rfl;obtain⟨p0,p1,p2,p3⟩:=bM.2.c4;clear bM
       repeat still_step
       exact wpStill_nil rfl
      case ht =>
       have BD:=(aG wx.heap.size wx).drew;have A7:=I (A6.o.step BD);have U7:=I (U6.o.step BD);have R7:=I (R6.o.step BlE.keeps BD);have X7:=X6.st BD;have F7:=I (F6.o.step BD);have B7:=B6.tr BD;have L7:Hid (wr.heap.size<=wx.drew.heap.size):=I (dQ L6.o BD.size);clear BD A6 U6 R6 X6 F6 B6 L6;generalize wx.drew=wd at *;have IR:=I (mD.o wd ⟨qo,mo,some ⟨gu,ou,none⟩,ho,co,qc,mc,uc,hc,cc,by unfold qO;rw[rW.o,cA.o,Jl.o,fW.o,iC.o];exact A7.o,⟨HQ.o wd B7.o,HM.o wd B7.o,HU.o wd B7.o,Cm.o.rowsB F7.o (fun g hg e=>by omega),R7.o.rowsB⟩,by rw[iC.o];exact sS.o,by rw[cA.o];exact R7.o.cap_le⟩);refine jT ?_
       go_wp2_with fail
       refine IR.o.mono ?_;rintro e w6 ⟨bo,rfl,-,⟨V,rfl,hV,hVB⟩,b6⟩;have A8:=I (A7.o.step b6);have U8:=I (U7.o.step b6);have R8:=I (R7.o.step BlE.keeps b6);have X8:=X7.st b6;have F8:=I (F7.o.step b6);have B8:=B7.tr b6;have E8:Hid (BlE w6 (fun g=>wr.heap.size<=g) RX [.slice (some ⟨V,0,none⟩) nm nm]):=I (by have:=XG (cap:=nm) hVB (fun g=>wr.heap.size<=g) (dQ L7.o hV);rwa [eX.o] at this);clear hV hVB b6 IR mD A7 U7 R7 X7 F7 B7
       go_wp2_with fail
       refine aI ⟨⟨A8.o,U8.o⟩,?_⟩;refine jT ?_
       go_wp2_with fail
       have bz:=bwA w6 (.cells #[.slice (some ⟨V,0,none⟩) nm nm] 87);refine aI ⟨⟨A8.o.step bz,U8.o.step bz⟩,?_⟩;clear bz;refine jT ?_
       go_wp2_with (at_builtin;go_loud (refine jM 86 87 (.slice none 0 0) 1 24 Tryz.underlying86 Hr rfl (by omega) (by omega) w6 wo.heap.size rfl (.tmp 72) (.tmp 76) rfl co cc j vss.flatten ?t1 R8.o.own ?t5 1 1 #[.slice (some ⟨V,0,none⟩) nm nm] 87 ?t2 rfl (by omega) ?t3 ?t4 ?_;(case t1=>rfl);(case t5=>exact dQ L5.o (Nat.le_of_lt U8.o.lt));(case t2=>rfl);(case t3=>intro u hu;simp at hu;subst hu;rfl);(case t4=>omega);intro g5 off5 c5 wa o8 aX b8 bW;have Cl:Hid (wo.heap.size<=g5):=I (o8.blk_lt (g:=g5) rfl).1;have qV:Hid (∀ g,g<wo.heap.size->blk co≠some g):=I (fun g hg e=>by have:=(R8.o.own.blk_lt e).1;omega);have R9:=I (RowM.add BlE.keeps R8.o Lt.o L5.o (fun g hg=>by have:=Qh.o.1;omega) E8.o rfl o8 aX bW);have A9:=I (A8.o.grownBy aX (qV.o A Jm.o.1));have X9:=I (X8.o.grownBy aX (qV.o w.heap.size Jm.o.2));have U9:=I (U8.o.grownBy aX (fun e=>by have:=Lt.o wr.heap.size e;omega));have B9:=I (B8.o.trans (b8.mono (by have:=Jm.o.2;omega)));have F9:=I (F8.o.belowB b8);clear o8 aX b8 bW))
       refine aI ⟨⟨A9.o,U9.o⟩,?_⟩;refine jT ?_
       go_wp2_with fail
       refine aI ⟨⟨A9.o,U9.o⟩,?_⟩;refine jT ?_
       go_wp2_with fail
       refine aI ⟨⟨A9.o,U9.o⟩,?_⟩;refine Kt ?_;have t3:=A9.o.cell 4 _ rfl;have tf:=A9.o.warm 4;have on:=(Only.refl wa (· = A)).setCell (a:=⟨A,4,none⟩) (.slice (some ⟨g5,off5,none⟩) (j+1) c5) rfl;have v7:=I (A9.o.set 4 (.slice (some ⟨g5,off5,none⟩) (j+1) c5));have ig:=I (RowM.turn BlE.keeps R9.o on (fun g hg=>.inl hg) (fun g hg e=>by have:=Cl.o;have:=Jm.o.1;have h:g5=g:=bF hg;omega));have Xw:=I (X9.o.only on (fun e=>by have:=Ci.o.2;omega));have zB:=I (Only.later B9.o on (fun g hg=>by have:=Ci.o.1;omega));have IS:=I (F9.o.setCell (a:=⟨A,4,none⟩) (.slice (some ⟨g5,off5,none⟩) (j+1) c5) rfl);have v8:Hid (wo.heap.size<=(wa.setCell ⟨A,4,none⟩ (.slice (some ⟨g5,off5,none⟩) (j+1) c5)).heap.size):=I IS.o.size;clear on A8 U8 R8 X8 F8 B8 E8
       go_wp2_with fail
       go_roundw
       case rel=>exact⟨j+1,some ⟨g5,off5,none⟩,c5,vss++[[.slice (some ⟨V,0,none⟩) nm nm]],by go_num,by omega,v7,I (by rw[u7.o];exact ig.o),Xw,IS,zB,v8⟩
       case measure=>simp only[intOf];omega
     ·have jj:¬ ((j:Int)<nu):=by omega
      obtain rfl:nu=j:=by omega
      have Gl:Hid (CF.take nu=CF):=I (List.take_of_length_le (by rw[lT.o,eB,iC.o];exact aO _));have lQ:Hid (CF.length=nu):=I (by rw[lT.o,eB,iC.o])
      go_wp2_with fail
      ((try simp only[Exit.inBlock,Exit.then]);refine bodyPost_ret (results_tmp2 rfl _ _ _) rfl ?_)
      exact⟨⟨A,rfl,⟨qo,mo,uo,ho,co,qc,mc,uc,hc,cc,by unfold qO;rw[rW.o,lQ.o,Jl.o,fW.o,iC.o];exact A5.o,⟨HQ.o wr B5.o,HM.o wr B5.o,HU.o wr B5.o,Cm.o.rowsB F5.o (fun g hg e=>by omega),by have:=R5.o.rowsB;rwa [Gl.o] at this⟩,by rw[iC.o];exact sS.o,by rw[lQ.o];exact R5.o.cap_le⟩,Ci.o.1,by rw[<- Jl.o,<- fW.o,<- iC.o];exact Z2e td.o t8.o (by unfold qO;rw[rW.o,lQ.o,Jl.o,fW.o,iC.o];exact A5.o) Ci.o.1 B5.o (by rw[iC.o];exact sS.o) (by rw[lQ.o];exact R5.o.cap_le) ((Cm.o.only F5.o (fun g hg e=>by omega)).mono (fun g hg=>by have:=Ci.o.1;omega)) (by have:=R5.o.rowsP (fun g=>w.heap.size<=g) (fun g h=>by have:=Jm.o;omega) (fun g h=>by have:=Jm.o;omega);rwa [Gl.o] at this)⟩,B5.o⟩
end
section
open Go.RowKit Go.Sort
theorem Ztz(w:World)(B:Nat)(hB:B<=w.heap.size)(co:Option Addr)(n c:Nat)(rows:List (List Bool))(hn:n=rows.length)(rB:0<n)(bN:n<=1000000)(h:lY w rows co) :
  ∃ vals:List Value,vals.length=n/\(∀ (i:Nat) (row:List Bool),rows[i]?=some row->∃ (bo:Option Addr) (bc:Nat),vals[i]?=some (Value.slice bo row.length bc)/\aY lO w bo row/\∀ g off,co=some ⟨g,off,none⟩->w.cell? ⟨g,off+i,none⟩=some (.slice bo row.length bc))/\∀ W,Below w.heap.size w W->Calls Tryz.prog 141 #[.slice co n c] W fun e w'=>∃ ko kc,e = .returned (.slice ko n kc)/\OwnK w' B 1 n kc vals ko/\Below W.heap.size W w':=by
 obtain⟨i0,hi,Cn,nP,pH⟩:=eq Hr;rcases h with h | ⟨g,off,rfl,hg,hr⟩
 ·rw[h] at hn;simp at hn;omega
 have Bz:∀ i,i<rows.length->∃ v:Value,∀ row,rows[i]?=some row->∃ (bo:Option Addr) (bc:Nat),w.cell? ⟨g,off+i,none⟩=some v/\v = .slice bo row.length bc/\aY lO w bo row:=fun i hi=>by
  obtain⟨bo,bc,h1,h2⟩:=hr i rows[i] (aL hi);refine⟨.slice bo rows[i].length bc,fun row aS=>?_⟩;rw[aL hi] at aS;obtain rfl:=bF aS;exact⟨bo,bc,h1,rfl,h2⟩
 let vals:List Value:=(List.range rows.length).map (fun i=>if h:i<rows.length then(Bz i h).choose else undef)
 have hv:∀ (i:Nat) (row:List Bool),rows[i]?=some row->∃ (bo:Option Addr) (bc:Nat),vals[i]?=some (Value.slice bo row.length bc)/\w.cell? ⟨g,off+i,none⟩=some (.slice bo row.length bc)/\aY lO w bo row:=fun i row aS=>by
  have aE:=(fD.1 aS).1;obtain⟨bo,bc,h1,h2,h3⟩:=(Bz i aE).choose_spec row aS;refine⟨bo,bc,?_,by rw[h1,h2],h3⟩;show((List.range rows.length).map _)[i]?=_;rw[dK,List.getElem?_range aE];show some (if h:i<rows.length then _ else _)=_;rw[dif_pos aE,h2]
 have kD:vals.length=n:=by show((List.range rows.length).map _).length=n;rw[eB,List.length_range,hn]
 refine⟨vals,kD,fun i row aS=>?_,fun W hW=>?_⟩
 ·obtain⟨bo,bc,h1,h2,h3⟩:=hv i row aS
  exact⟨bo,bc,h1,h3,fun g' off' e=>by
   obtain⟨rfl,rfl⟩:g=g'/\off=off':=by injection e with e;injection e with e1 e2;exact⟨e1,e2⟩
   exact h2⟩
 ·refine(Tryz.slices_Clone_f141 i0 (.slice none 0 0) 1 24 hi Cn nP pH rfl (by omega) ?zz g off n c vals W (by rw[kD];omega) (by simp only[maxLen];omega) (by omega) (fun j u hj=>?_) (fun u hu=>?_)).mono ?_
  case zz=>exact fun W'=>Tryz.sizeOf87 W'
  ·have pF:j<rows.length:=by have:=(fD.1 hj).1;rw[kD,hn] at this;exact this
   obtain⟨bo,bc,h1,h2,-⟩:=hv j rows[j] (aL pF);rw[h1] at hj;obtain rfl:=bF hj;rw[rJ (w:=w) (a:=⟨g,off+j,none⟩) (hW.block g hg)];exact h2
  ·obtain⟨j,hj⟩:=pV.1 hu
   have pF:j<rows.length:=by have:=(fD.1 hj).1;rw[kD,hn] at this;exact this
   obtain⟨bo,bc,h1,-,-⟩:=hv j rows[j] (aL pF);rw[h1] at hj;obtain rfl:=bF hj;rfl
  ·rintro e w' ⟨v',rfl,ho,-,hb⟩
   obtain⟨g',cap',rfl,hw,uJ,kX,qB⟩:=OwnK.of_row ho (by omega);exact⟨some ⟨g',0,none⟩,cap',rfl,(OwnK.at g' 0 hw (by rw[kD];omega) kX qB).lower (dQ hB hW.size) ,hb⟩
theorem EO{w:World}{B n kc g off:Nat}{vs:List Value}{rows:List (List Bool)}(h:OwnK w B 1 n kc vs (some ⟨g,off,none⟩))(hr:∀ (i:Nat) (row:List Bool),rows[i]?=some row->∃ (bo:Option Addr) (bc:Nat),vs[i]?=some (Value.slice bo row.length bc)/\aY lO w bo row):lY w rows (some ⟨g,off,none⟩):=by
 cases h with
 | «at» g off h1 h2 h3 h4 =>
  refine .inr ⟨g,off,rfl,h1.lt,fun i row hi=>?_⟩;obtain⟨bo,bc,h5,h6⟩:=hr i row hi;exact⟨bo,bc,h1.cells i _ h5,h6⟩
theorem OwnK.setW{w:World}{B k n cap g off:Nat}{xs:List Value}(h:OwnK w B k n cap xs (some ⟨g,off,none⟩))(i:Nat)(hi:i<xs.length):(∃ v,w.cell? ⟨g,off+i,none⟩=some v)/\w.frozen? ⟨g,off+i,none⟩=false/\B<=g/\n<=cap:=by
 cases h with
 | «at» g off h1 h2 h3 h4=>exact⟨⟨_,h1.cells i _ (aL hi)⟩,h1.warm i (by have:=h1.le;omega),h1.own,h4⟩
def bV(c:Crw)(C:List (List Bool))(u m:Nat):List (List Bool):=C.set u ((List.replicate c.ms.length false).set m ((C.getD u []).getD m false))
theorem XI(t:Array Value)(h:t.size=56):∃ f:Nat->Value,t=#[f 0,f 1,f 2,f 3,f 4,f 5,f 6,f 7,f 8,f 9,f 10,f 11,f 12,f 13,f 14,f 15,f 16,f 17,f 18,f 19,f 20,f 21,f 22,f 23,f 24,f 25,f 26,f 27,f 28,f 29,f 30,f 31,f 32,f 33,f 34,f 35,f 36,f 37,f 38,f 39,f 40,f 41,f 42,f 43,f 44,f 45,f 46,f 47,f 48,f 49,f 50,f 51,f 52,f 53,f 54,f 55]/\∀ d,t.getD d undef=f d:=by
 obtain⟨l⟩:=t;have hl:l.length=56:=h
 have e:l=(List.range 56).map (fun i=>l.getD i undef):=by
  apply List.ext_getElem
  ·simp[hl]
  ·intro i h1 h2
   simp[List.getD,h1]
 exact⟨fun i=>l.getD i undef,congrArg List.toArray e,fun d=>by simp⟩
theorem ny(i:Nat)(h:i<16):i=0\/i=1\/i=2\/i=3\/i=4\/i=5\/i=6\/i=7\/i=8\/i=9\/i=10\/i=11\/i=12\/i=13\/i=14\/i=15:=by omega
theorem XJ(i:Nat)(h:i<13):i=0\/i=1\/i=2\/i=3\/i=4\/i=5\/i=6\/i=7\/i=8\/i=9\/i=10\/i=11\/i=12:=by omega
def Wd(A B:Nat)(qo mo uo ho co:Option Addr)(nq nm nu nh nc qc mc uc hc cc:Nat)(vals:List Value)(i:Nat)(W:World)(v:Value):Prop:=match i with
 | 0=>v = .pointer (some ⟨A,0,none⟩)
 | 1=>v = .pointer (some ⟨A,0,none⟩)
 | 2=>v = .pointer (some ⟨A,0,none⟩)
 | 3=>v = .agg #[.slice qo nq qc,.slice mo nm mc,.slice uo nu uc]
 | 4=>v = .pointer (some ⟨A,0,none⟩)
 | 5=>v = .pointer (some ⟨A,0,none⟩)
 | 6=>v = .pointer (some ⟨A,3,none⟩)
 | 7=>v = .slice ho nh hc
 | 8=>v = .pointer (some ⟨A,0,none⟩)
 | 9=>v = .pointer (some ⟨A,0,none⟩)
 | 10=>v = .pointer (some ⟨A,4,none⟩)
 | 11=>v = .slice co nc cc
 | 12=>∃ ko kc,v = .slice ko nc kc/\OwnK W B 1 nc kc vals ko
 | 13=>∃ ko kc,v = .agg #[.slice qo nq qc,.slice mo nm mc,.slice uo nu uc,.slice ho nh hc,.slice ko nc kc]/\OwnK W B 1 nc kc vals ko
 | 14=>∃ X ko kc,v = .pointer (some ⟨X,0,none⟩)/\aC W X 113 [.slice qo nq qc,.slice mo nm mc,.slice uo nu uc,.slice ho nh hc,.slice ko nc kc]/\OwnK W B 1 nc kc vals ko/\B<=X/\blk ko≠some X
 | 15=>∃ X ko kc,v = .pointer (some ⟨X,0,none⟩)/\aC W X 113 [.slice qo nq qc,.slice mo nm mc,.slice uo nu uc,.slice ho nh hc,.slice ko nc kc]/\OwnK W B 1 nc kc vals ko/\B<=X/\blk ko≠some X
 | _=>True
theorem Zws(A B:Nat)(qo mo uo ho co:Option Addr)(nq nm nu nh nc qc mc uc hc cc:Nat)(vals:List Value):∀ i w w' v,Wd A B qo mo uo ho co nq nm nu nh nc qc mc uc hc cc vals i w v->Below w.heap.size w w'->Wd A B qo mo uo ho co nq nm nu nh nc qc mc uc hc cc vals i w' v:=by
 intro i w w' v h hb
 match i with
 | 0=>exact h
 | 1=>exact h
 | 2=>exact h
 | 3=>exact h
 | 4=>exact h
 | 5=>exact h
 | 6=>exact h
 | 7=>exact h
 | 8=>exact h
 | 9=>exact h
 | 10=>exact h
 | 11=>exact h
 | 12=>obtain⟨ko,kc,h1,h2⟩:=h;exact⟨ko,kc,h1,h2.below hb⟩
 | 13=>obtain⟨ko,kc,h1,h2⟩:=h;exact⟨ko,kc,h1,h2.below hb⟩
 | 14=>obtain⟨X,ko,kc,h1,h2,h3,h4⟩:=h;exact⟨X,ko,kc,h1,h2.step hb,h3.below hb,h4⟩
 | 15=>obtain⟨X,ko,kc,h1,h2,h3,h4⟩:=h;exact⟨X,ko,kc,h1,h2.step hb,h3.below hb,h4⟩
 | k+16=>trivial
def EP(A X gk ok u WS:Nat)(mo:Option Addr)(nm nc mc kc:Nat)(i:Nat)(W:World)(v:Value):Prop:=match i with
 | 0=>v = .pointer (some ⟨X,0,none⟩)
 | 1=>v = .pointer (some ⟨X,0,none⟩)
 | 2=>v = .pointer (some ⟨X,4,none⟩)
 | 3=>v = .slice (some ⟨gk,ok,none⟩) nc kc
 | 4=>v = .int .i64 (u:Nat)
 | 5=>v = .pointer (some ⟨A,0,none⟩)
 | 6=>v = .pointer (some ⟨A,0,none⟩)
 | 7=>v = .pointer (some ⟨A,0,none⟩)
 | 8=>v = .pointer (some ⟨A,1,none⟩)
 | 9=>v = .slice mo nm mc
 | 10=>v = .int .i64 (nm:Nat)
 | 11=>∃ V,v = .slice (some ⟨V,0,none⟩) nm nm/\aC W V 4 (bvs (List.replicate nm false))/\WS<=V
 | 12=>v = .pointer (some ⟨gk,ok+u,none⟩)
 | _=>True
theorem Zwt(A X gk ok u WS:Nat)(mo:Option Addr)(nm nc mc kc:Nat):∀ i w w' v,EP A X gk ok u WS mo nm nc mc kc i w v->Below w.heap.size w w'->EP A X gk ok u WS mo nm nc mc kc i w' v:=by
 intro i w w' v h hb
 match i with
 | 0=>exact h
 | 1=>exact h
 | 2=>exact h
 | 3=>exact h
 | 4=>exact h
 | 5=>exact h
 | 6=>exact h
 | 7=>exact h
 | 8=>exact h
 | 9=>exact h
 | 10=>exact h
 | 11=>obtain⟨V,h1,h2,h3⟩:=h;exact⟨V,h1,h2.step hb,h3⟩
 | 12=>exact h
 | k+13=>trivial
def XL(w w':World)(c:Crw)(H C:List (List Bool))(qo mo uo ho:Option Addr)(qc mc uc hc:Nat)(vals:List Value)(u m X:Nat):Prop:=∃ gk ok kc V,aC w' X 113 (qO c H (bV c C u m) qo mo uo ho (some ⟨gk,ok,none⟩) qc mc uc hc kc)/\(bV c C u m).length<=kc /\
 OwnK w' w.heap.size 1 C.length kc (vals.set u (.slice (some ⟨V,0,none⟩) c.ms.length c.ms.length)) (some ⟨gk,ok,none⟩)/\(∀ row,(bV c C u m)[u]?=some row->aC w' V 4 (bvs row)/\row.length=c.ms.length)/\w.heap.size<=V
theorem XN(w:World)(A:Nat)(c:Crw)(H C:List (List Bool))(u m:Nat)(qo mo uo ho co:Option Addr)(qc mc uc hc cc:Nat)(hA:aC w A 113 (qO c H C qo mo uo ho co qc mc uc hc cc))(hR:ReckC w c H C qo mo uo ho co)(hu:u<C.length)(hm:m<c.ms.length)(hC:∀ r∈C,r.length=c.ms.length)(hn:C.length<=1000000)(tS:c.ms.length<=1000000) :
  ∃ vals:List Value,vals.length=C.length/\(∀ (i:Nat) (row:List Bool),C[i]?=some row->∃ (bo:Option Addr) (bc:Nat),vals[i]?=some (Value.slice bo row.length bc)/\aY lO w bo row/\∀ g off,co=some ⟨g,off,none⟩->w.cell? ⟨g,off+i,none⟩=some (.slice bo row.length bc)) /\
  Calls Tryz.prog 84 #[.pointer (some ⟨A,0,none⟩),.int .i64 u,.int .i64 m] w fun e w'=>∃ X,e = .returned (.pointer (some ⟨X,0,none⟩))/\XL w w' c H C qo mo uo ho qc mc uc hc vals u m X/\w.heap.size<=X/\Below w.heap.size w w':=by
 obtain⟨vals,kD,xV,dW⟩:=Ztz w w.heap.size (aO _) co C.length cc C rfl (by omega) hn hR.c;refine⟨vals,kD,xV,?_⟩;obtain⟨ru,fJ⟩:∃ r,C[u]?=some r:=⟨_,aL hu⟩;have Mh:Hid (ru.length=c.ms.length):=I (hC ru (bU fJ));have jH:Hid (bV c C u m=C.set u ((List.replicate c.ms.length false).set m (ru.getD m false))):=I (by unfold bV;rw[bR (l:=C),fJ];rfl);have IT:=I dW;have Lz:=I xV;have jG:=I kD;have AW:=I (fun W (hW:Below w.heap.size w W)=>hA.step hW);have ij:=I (fun W (hW:Below w.heap.size w W)=>hR.below hW);have ik:=I (fun W (hW:Below w.heap.size w W)=>(hR.c.below hW).at u ru fJ);unfold qO at AW;have th:Hid (∀ w' X,(∃ gk ok kc V,aC w' X 113 (qO c H (bV c C u m) qo mo uo ho (some ⟨gk,ok,none⟩) qc mc uc hc kc)/\(bV c C u m).length<=kc/\OwnK w' w.heap.size 1 C.length kc (vals.set u (.slice (some ⟨V,0,none⟩) c.ms.length c.ms.length)) (some ⟨gk,ok,none⟩)/\(∀ row,(bV c C u m)[u]?=some row->aC w' V 4 (bvs row)/\row.length=c.ms.length)/\w.heap.size<=V)->XL w w' c H C qo mo uo ho qc mc uc hc vals u m X):=I (fun w' X h=>h);clear hA hR dW xV kD hC fJ;generalize hFX:bV c C u m=FX at *;clear hFX;have x7:Hid (c.qs.length=c.qs.length):=I rfl;generalize eW:c.qs.length=nq at *;generalize cY:c.ms.length=nm at *;generalize dH:c.us.length=nu at *;generalize IU:H.length=nh at *;generalize Xx:C.length=nc at *;have Jl:=I eW;have fW:=I cY;have iC:=I dH;have x8:=I IU;have IV:=I Xx;have kP:Hid (w.heap.size<=w.heap.size):=I (aO _);clear eW cY dH IU Xx x7
 go_enter Tryz.func84,Tryz.ntmps84
 go_upto_region 1 with(fail)
 refine oK (Wd A w.heap.size qo mo uo ho co nq nm nu nh nc qc mc uc hc cc vals) (by kernel_rfl) (Zws A w.heap.size qo mo uo ho co nq nm nu nh nc qc mc uc hc cc vals) (jD (by kernel_rfl)) (oJ (by kernel_rfl)) (iV (by kernel_rfl)) ?hs ?he
 case hs =>
  intro i o hi listed a' w' H aU;have hb:=I H.below;obtain⟨t',df⟩:=a';obtain⟨f',rfl,-⟩:=XI t' H.tsize;obtain rfl:df=[]:=H.defers;have gJ:f' 0 = .pointer (some ⟨A,0,none⟩):=H.sm 0 (by kernel_rfl);have aA:=H.hC aU;clear aU H;rcases ny i (lI.1 hi).1 with rfl | rfl | rfl | rfl | rfl | rfl | rfl | rfl | rfl | rfl | rfl | rfl | rfl | rfl | rfl | rfl<;>obtain rfl:=bF hi;rw[gJ]
  rotate_left
  rw[show f' 8=_ from aA 0 8 rfl]
  rotate_left
  rw[show f' 9=_ from aA 1 9 rfl]
  rotate_left
  rw[show f' 10=_ from aA 2 10 rfl];have ha:=AW.o w' hb.o;obtain⟨c0,c1,c2⟩:=ha.c3;clear ha
  rotate_left
  rw[gJ]
  rotate_left
  rw[show f' 12=_ from aA 4 12 rfl]
  rotate_left
  rw[show f' 13=_ from aA 5 13 rfl]
  rotate_left
  rw[show f' 14=_ from aA 6 14 rfl];have ha:=AW.o w' hb.o;have c3:=ha.cell 3 _ rfl;clear ha
  rotate_left
  rw[gJ]
  rotate_left
  rw[show f' 16=_ from aA 8 16 rfl]
  rotate_left
  rw[show f' 17=_ from aA 9 17 rfl]
  rotate_left
  rw[show f' 18=_ from aA 10 18 rfl];have ha:=AW.o w' hb.o;have c4:=ha.cell 4 _ rfl;clear ha
  rotate_left
  ·have eE:f' 19=_:=aA 11 19 rfl
   clear aA;rw[eE];clear eE gJ;refine aP rfl ?_
   go_wp2_with fail
   refine(IT.o w' hb.o).mono ?_;rintro e w4 ⟨ko,kc,rfl,wH,b4⟩;have HK:=I wH;have bC:=I b4;clear wH b4
   go_wp2_with fail
   exact aI ⟨_,rfl,bC.o,ko,kc,rfl,HK.o⟩
  ·have dC:f' 11=_:=aA 3 11 rfl
   have jA:f' 15=_:=aA 7 15 rfl;have cW:Wd A w.heap.size qo mo uo ho co nq nm nu nh nc qc mc uc hc cc vals 12 w' (f' 20):=aA 12 20 rfl;obtain⟨ko,kc,cW,wH⟩:=cW;clear aA;rw[dC,jA,cW];clear dC jA cW gJ;have HK:=I wH;clear wH;refine aP rfl ?_
   go_wp2_with fail
   exact aI ⟨_,rfl,aG _ _,ko,kc,rfl,HK.o⟩
  ·have lU:Wd A w.heap.size qo mo uo ho co nq nm nu nh nc qc mc uc hc cc vals 13 w' (f' 21):=aA 13 21 rfl
   obtain⟨ko,kc,lU,wH⟩:=lU;clear aA;rw[lU];clear lU gJ;have HK:=I wH;clear wH;have bx:=bwA w' (.cells #[.slice qo nq qc,.slice mo nm mc,.slice uo nu uc,.slice ho nh hc,.slice ko nc kc] 113);have HX:=hnw w' 113 [.slice qo nq qc,.slice mo nm mc,.slice uo nu uc,.slice ho nh hc,.slice ko nc kc];have BX:=I bx;have ti:=I hb.o.size;clear bx;refine aP rfl ?_
   go_wp2_with fail
   exact aI ⟨_,rfl,BX.o,w'.heap.size,ko,kc,rfl,HX.o,HK.o.below BX.o,dQ kP.o ti.o,fun e=>Nat.lt_irrefl _ (HK.o.blk_lt e).2⟩
  ·have kE:Wd A w.heap.size qo mo uo ho co nq nm nu nh nc qc mc uc hc cc vals 14 w' (f' 22):=aA 14 22 rfl
   obtain⟨X,ko,kc,kE,hX,wH,hXB,hXK⟩:=kE;clear aA;rw[kE];clear kE gJ;have HK:=I wH;have HX:=I hX;have bZ:=I hXB;have x9:=I hXK;clear wH hX hXB hXK;refine aP rfl ?_
   go_wp2_with fail
   exact aI ⟨_,rfl,aG _ _,X,ko,kc,rfl,HX.o,HK.o,bZ.o,x9.o⟩
  all_goals clear aA gJ
  all_goals (refine aP rfl ?_;go_wp2_with fail;exact aI ⟨_,rfl,aG _ _,rfl⟩)
 case he =>
  intro listed a' w4 H aD;have iD:=H.done 15 _ 7 rfl (aD 15 (by decide)) rfl;have aK:=I H.below;obtain⟨zf,hz,rfl⟩:=H.actz [8,9,10,11,12,13,14,15,16,17,18,19,20,21,22,7] (oL (by kernel_rfl));rw[hz] at iD;clear H aD hz;simp only[fcL,fnL,Act.put,sbT,scS,scZ];obtain⟨X,ko,kc,IW,hX,wH,hXB,hXK⟩:=iD;rw[IW];clear IW;have B4:=I aK.o;have XH:=I hX;have KO:=I wH;have XB:=I hXB;have XK:=I hXK;clear aK hX wH hXB hXK IT
  have iQ:u<vals.length:=by rw[jG.o];exact hu
  cases ko with
  | none =>
   exfalso;have h:=KO.o
   cases h with
   | nil h1 h2 h3=>rw[h1] at iQ;simp at iQ
  | some a =>
   obtain⟨gk,ok,bI⟩:∃ gk ok,a=⟨gk,ok,none⟩:=by
    have h:=KO.o
    cases h with
    | «at» g off h1 h2 h3 h4=>exact⟨g,off,rfl⟩
   subst bI;have z6:Hid (gk≠X):=I (fun e=>XK.o (by rw[e];rfl));have xW:Hid (w.heap.size<=gk/\gk<w4.heap.size):=I (KO.o.blk_lt rfl);have IX:=I (fun W (hW:Below w4.heap.size w4 W)=>AW.o W (B4.o.trans (hW.mono B4.o.size)));have XW:=I (fun W (hW:Below w4.heap.size w4 W)=>XH.o.step hW);have z7:=AW;clear AW;have AW:=IX;clear IX;have Qi:=run_make_row' (P:=Tryz.prog) 87 4 (.bool false) 1 Tryz.underlying87 Kx rfl .i64 .i64 nm (by omega) (by omega);rw[Vv] at Qi;have IY:=I Qi;clear Qi;obtain⟨WS,hWS⟩:=exq (w4.heap.size);have il:=I hWS;clear hWS;generalize w4=wz at *
   have uu:(u:Int)<nc:=by omega
   go_upto_region 2 with(fail)
   refine Ff 13 0 (EP A X gk ok u WS mo nm nc mc kc) (by kernel_rfl) rfl (Zwt A X gk ok u WS mo nm nc mc kc) (jD (by kernel_rfl)) (Fe (by kernel_rfl)) (iV (by kernel_rfl)) (Fg (by kernel_rfl)) ?hs ?he
   case hs =>
    intro i o aT hi listed a' w' H bA aU;have hb:=I H.below;obtain⟨t',df⟩:=a';obtain⟨f',rfl,-⟩:=XI t' H.tsize;obtain rfl:df=[]:=H.defers;have cZ:f' 7 = .pointer (some ⟨X,0,none⟩):=bA 7 (gK (by kernel_rfl));have cG:f' 1 = .int .i64 (u:Nat):=bA 1 (gK (by kernel_rfl));have gJ:f' 0 = .pointer (some ⟨A,0,none⟩):=bA 0 (gK (by kernel_rfl));have aA:=H.hC aU;clear aU H bA;have bP:i=0\/i=1\/i=2\/i=3\/i=4\/i=5\/i=6\/i=7\/i=8\/i=9\/i=10\/i=11\/i=12:=XJ i aT;clear aT;rcases bP with rfl | rfl | rfl | rfl | rfl | rfl | rfl | rfl | rfl | rfl | rfl | rfl | rfl<;>obtain rfl:=bF hi;rw[cZ]
    rotate_left
    rw[show f' 23=_ from aA 0 23 rfl]
    rotate_left
    rw[show f' 24=_ from aA 1 24 rfl]
    rotate_left
    rw[show f' 25=_ from aA 2 25 rfl];have ha:=XW.o w' hb.o;have c4:=ha.cell 4 _ rfl;clear ha
    rotate_left
    rw[cG]
    rotate_left
    rw[gJ]
    rotate_left
    rw[show f' 28=_ from aA 5 28 rfl]
    rotate_left
    rw[show f' 29=_ from aA 6 29 rfl]
    rotate_left
    rw[show f' 30=_ from aA 7 30 rfl]
    rotate_left
    rw[show f' 31=_ from aA 8 31 rfl];have ha:=AW.o w' hb.o;have c1:=ha.cell 1 _ rfl;clear ha
    rotate_left
    rw[show f' 32=_ from aA 9 32 rfl]
    rotate_left
    ·have fK:f' 33=_:=aA 10 33 rfl
     clear aA;rw[fK];clear fK cZ cG gJ;have gW:=IY.o;have bx:=bwA w' (.cells (bvs (List.replicate nm false)).toArray 4);have HV:Hid (aC (w'.alloc (.cells (bvs (List.replicate nm false)).toArray 4)) w'.heap.size 4 (bvs (List.replicate nm false))):=I (heap_alloc_new _ _);have BX:=I bx;have ti:=I (show WS<=w'.heap.size by rw[<- il.o];exact hb.o.size);clear bx;refine aP rfl ?_
     go_wp2_with fail
     exact aI ⟨_,rfl,BX.o,w'.heap.size,rfl,HV.o,ti.o⟩
    rw[show f' 26=_ from aA 3 26 rfl,show f' 27=_ from aA 4 27 rfl]
    rotate_left
    all_goals clear aA cZ cG gJ
    all_goals (refine aP rfl ?_;go_wp2_with fail;exact aI ⟨_,rfl,aG _ _,rfl⟩)
   case he =>
    intro listed a' w4 H bA aD;have xX:=H.done 11 _ 34 rfl (aD 11 (by decide)) rfl;have uY:=H.done 12 _ 35 rfl (aD 12 (by decide)) rfl;have aK:=I H.below;obtain⟨zf,hz,rfl⟩:=H.actNz bA [23,24,25,26,27,28,29,30,31,32,33,34,35] (Fh (by kernel_rfl));rw[hz] at xX uY;clear H aD bA hz;simp only[fcL,fnL,Act.put,sbT,scS,scZ];obtain⟨V,IZ,hV,hVS⟩:=xX;rw[IZ];clear IZ;rw[show zf 35=_ from uY];clear uY;have B5:=B4.tr aK.o;have JA:=XH.st aK.o;have tj:=I (KO.o.below aK.o);have io:=I hV;have Xy:Hid (V≠gk/\V≠X/\w.heap.size<=V):=I ⟨fun e=>by have:=xW.o.2;have:=il.o;omega,fun e=>by have:=XH.o.lt;have:=il.o;omega,by have:=B4.o.size;have:=il.o;omega⟩;clear aK hV hVS AW XW IY;obtain⟨⟨v0,t0⟩,tf,-,kC⟩:=tj.o.setW u iQ;have sS:=I kC;clear kC;refine nE (aP rfl ?_)
    go_wp2_with fail
    clear t0 tf;have on:=(Only.refl w4 (· = gk)).setCell (a:=⟨gk,ok+u,none⟩) (.slice (some ⟨V,0,none⟩) nm nm) rfl;have tm:=I (tj.o.setAt u iQ (.slice (some ⟨V,0,none⟩) nm nm));have tp:=I (JA.o.only on (fun e=>z6.o e.symm));have JB:=I (io.o.only on (fun e=>Xy.o.1 e));have B6:=I (Only.later B5.o on (fun g hg=>by have:=xW.o.1;omega));clear on tj JA io B5;refine aI (vM ?_);generalize w4.setCell ⟨gk,ok+u,none⟩ (.slice (some ⟨V,0,none⟩) nm nm)=w6 at *;have x4:=tp.o.cell 4 _ rfl;have a4:=(z7.o w6 B6.o).cell 4 _ rfl;obtain⟨gc,oc,bo,bc,iE,mU,fS,iA⟩:=ik.o w6 B6.o;obtain⟨gb,ob,dE,iR⟩:=iA.bool m (by rw[Mh.o];exact hm);rw[Mh.o] at fS;have rQ:=I iE;have qX:=I dE;subst iE;subst dE
    have JC:w6.cell? ⟨gk,ok+u,none⟩=some (.slice (some ⟨V,0,none⟩) nm nm):=by
     have h:=tm.o
     cases h with
     | «at» g off h1 h2 h3 h4=>exact h1.cells u _ (by rw[List.getElem?_set_self iQ])
    obtain⟨bv,Xz⟩:=exq (ru.getD m false);rw[Xz] at iR jH
    have mm:(m:Int)<nm:=by omega
    clear Xz iA mU
    go_upto_region 3 with(fail)
    have c1:=cell_regrown x4;have c2:=cell_regrown a4;have c3:=cell_regrown fS;have c4:=cell_regrown iR;have c5:=cell_regrown JC;clear x4 a4 fS iR JC;refine Kw 19 (by kernel_rfl) (by kernel_rfl) ?_;simp only[List.take_succ_cons,List.take_zero,List.drop_succ_cons,List.drop_zero]
    repeat (go_big_quiet_step (fail))
    refine wpQuiet_nil ?_;intro _ bM;obtain⟨⟨dq,osq⟩,dF⟩:=bM;subst dF;have dJ:=below_regrown w6 dq osq;have JD:=I (tm.o.below dJ);have JE:=tp.st dJ;have ip:=I (JB.o.step dJ);have B7:=B6.tr dJ;clear c1 c2 c3 c4 c5 dJ tm tp JB B6;generalize grow (redrawn w6 dq) osq=wd at *;have t0:=ip.o.cell m _ (Fk (by simp;exact hm));have tf:=ip.o.warm m
    go_wp2_with fail
    clear t0 tf;have on:=(Only.refl wd (· = V)).setCell (a:=⟨V,m,none⟩) (.bool bv) rfl;have Co:Hid (aC (wd.setCell ⟨V,m,none⟩ (.bool bv)) V 4 (bvs ((List.replicate nm false).set m bv))):=I (by have:=ip.o.set m (.bool bv);rwa [zY]);have z8:=I (OwnK.of_block JD.o (fun g e hl=>on.block g hl (fun e2=>Xy.o.1 (by have h:gk=g:=bF e;omega))) on.size);have A0:=I (JE.o.only on (fun e=>Xy.o.2.1 e.symm));have B8:=I (Only.later B7.o on (fun g hg=>by have:=Xy.o.2.2;omega));clear on JD JE ip B7;generalize wd.setCell ⟨V,m,none⟩ (.bool bv)=w8 at *;have zA:Hid (FX.length=nc):=I (by rw[jH.o,List.length_set,IV.o])
    go_wp2_with fail
    go_ret
    exact⟨X,rfl,th.o _ X ⟨gk,ok,kc,V,by unfold qO;rw[zA.o,Jl.o,fW.o,iC.o,x8.o];exact A0.o,by rw[zA.o];exact sS.o,z8.o,fun row aS=>by
     rw[jH.o,List.getElem?_set_self (by rw[IV.o];exact hu)] at aS;obtain rfl:=bF aS
     exact⟨Co.o,by rw[List.length_set,List.length_replicate]⟩,Xy.o.2.2⟩,XB.o,B8.o⟩
theorem EQ(w:World)(A:Nat)(c:Crw)(H C:List (List Bool))(u m:Nat)(hr:fG w A c H C)(hu:u<C.length)(hm:m<c.ms.length)(hC:∀ r∈C,r.length=c.ms.length)(hn:C.length<=1000000)(tS:c.ms.length<=1000000) :
  Calls Tryz.prog 84 #[.pointer (some ⟨A,0,none⟩),.int .i64 u,.int .i64 m] w fun e w'=>∃ X,e = .returned (.pointer (some ⟨X,0,none⟩))/\fG w' X c H (bV c C u m)/\w.heap.size<=X/\Below w.heap.size w w':=by
 obtain⟨qo,mo,uo,ho,co,qc,mc,uc,hc,cc,hA,hR,cF,eK⟩:=hr;obtain⟨vals,kD,xV,dW⟩:=XN w A c H C u m qo mo uo ho co qc mc uc hc cc hA hR hu hm hC hn tS;refine dW.mono ?_;rintro e w' ⟨X,rfl,⟨gk,ok,kc,V,h1,h2,h3,h4,h5⟩,h6,h7⟩;have zC:=hR.below h7;refine⟨X,rfl,⟨qo,mo,uo,ho,some ⟨gk,ok,none⟩,qc,mc,uc,hc,kc,h1,⟨zC.q,zC.m,zC.u,zC.h,EO h3 (fun i row hi=>?_)⟩,cF,h2⟩,h6,h7⟩;by_cases e:u=i
 ·subst e
  obtain⟨h8,h9⟩:=h4 row hi;exact⟨some ⟨V,0,none⟩,c.ms.length,by rw[List.getElem?_set_self (by rw[kD];exact hu),h9],h8.flatB⟩
 ·rw[List.getElem?_set_ne e]
  unfold bV at hi;rw[List.getElem?_set_ne e] at hi;obtain⟨bo',bc',h8,h9,-⟩:=xV i row hi;exact⟨bo',bc',h8,h9.below h7⟩
theorem oO.reck{w:World}{Q:Nat->Prop}{A:Nat}{c:Crw}{H C:List (List Bool)}(h:oO w Q A c H C):fG w A c H C:=by
 obtain⟨qo,mo,uo,ho,co,qc,mc,uc,hc,cc,h1,h2,h3,h4,h5,h6⟩:=h;exact⟨qo,mo,uo,ho,co,qc,mc,uc,hc,cc,h1,h5 w (Only.refl _ _),h3,h4⟩
theorem Only.glue{w w' W:World}{Q Q':Nat->Prop}(on:Only w w' Q)(on':Only w' W Q')(hQ:∀ g,g<w.heap.size->Q' g->Q g):Only w W Q :=
 ⟨on'.os.trans on.os,on'.tape.trans on.tape,on'.output.trans on.output,dQ on.size on'.size,fun g hg hn=>(on'.block g (gR hg on.size) (fun h=>hn (hQ g hg h))).trans (on.block g hg hn)⟩
theorem oO.only{w w':World}{Q Q':Nat->Prop}{A:Nat}{c:Crw}{H C:List (List Bool)}(h:oO w Q A c H C)(on:Only w w' Q)(hQ:∀ g,g<w.heap.size->Q' g->Q g):oO w' Q' A c H C:=by
 obtain⟨qo,mo,uo,ho,co,qc,mc,uc,hc,cc,h1,h2,h3,h4,h5,h6⟩:=h;refine⟨qo,mo,uo,ho,co,qc,mc,uc,hc,cc,h1.only on h2,fun h=>h2 (hQ A h1.lt h),h3,h4,fun W oW=>h5 W (on.glue oW hQ),?_⟩;rcases h6 with h6 | ⟨g,off,e,hg,hq,h6⟩
 ·exact .inl h6
 ·refine .inr ⟨g,off,e,gR hg on.size,fun h=>hq (hQ g hg h),fun i row hi=>?_⟩
  obtain⟨bo,bc,h7,h8⟩:=h6 i row hi;exact⟨bo,bc,by rw[rJ (w:=w) (a:=⟨g,off+i,none⟩) (on.block g hg hq)];exact h7,fun W oW=>h8 W (on.glue oW hQ)⟩
theorem fG.free{w0 w:World}{Q:Nat->Prop}{A:Nat}{c:Crw}{H C:List (List Bool)}(h:fG w0 A c H C)(hb:Below w0.heap.size w0 w)(hQ:∀ g,Q g->w0.heap.size<=g):oO w Q A c H C:=by
 obtain⟨qo,mo,uo,ho,co,qc,mc,uc,hc,cc,hA,hR,cF,eK⟩:=h;refine⟨qo,mo,uo,ho,co,qc,mc,uc,hc,cc,hA.step hb,fun h=>by have:=hQ A h;have:=hA.lt;omega,cF,eK,fun W oW=>hR.below (oW.later hb hQ),?_⟩;rcases hR.c with h6 | ⟨g,off,e,hg,h6⟩
 ·exact .inl h6
 ·refine .inr ⟨g,off,e,gR hg hb.size,fun h=>by have:=hQ g h;omega,fun i row hi=>?_⟩
  obtain⟨bo,bc,h7,h8⟩:=h6 i row hi;exact⟨bo,bc,by rw[rJ (w:=w0) (a:=⟨g,off+i,none⟩) (hb.block g hg)];exact h7,fun W oW=>h8.below (oW.later hb hQ)⟩
theorem Zz5(w:World)(Q:Nat->Prop)(A:Nat)(c:Crw)(H C:List (List Bool))(u m:Nat)(hr:oO w Q A c H C)(hQ:∀ g,Q g->g<w.heap.size)(hu:u<C.length)(hm:m<c.ms.length)(hC:∀ r∈C,r.length=c.ms.length)(hn:C.length<=1000000)(tS:c.ms.length<=1000000) :
  Calls Tryz.prog 84 #[.pointer (some ⟨A,0,none⟩),.int .i64 u,.int .i64 m] w fun e w'=>∃ X,e = .returned (.pointer (some ⟨X,0,none⟩))/\oO w' Q X c H (bV c C u m)/\w.heap.size<=X/\Below w.heap.size w w':=by
 obtain⟨qo,mo,uo,ho,co,qc,mc,uc,hc,cc,hA,hQA,cF,eK,hRW,wI⟩:=hr;have hR:=hRW w (Only.refl _ _);obtain⟨vals,kD,xV,dW⟩:=XN w A c H C u m qo mo uo ho co qc mc uc hc cc hA hR hu hm hC hn tS;refine dW.mono ?_;rintro e w' ⟨X,rfl,⟨gk,ok,kc,V,h1,h2,h3,h4,h5⟩,h6,h7⟩
 have Ya:∀ W,Only w' W Q->Only w W Q:=fun W oW=>(Only.of_below h7).trans oW
 have tq:=(h3.blk_lt (g:=gk) rfl)
 have eW:∀ g,w.heap.size<=g->¬ Q g:=fun g hg h=>by have:=hQ g h;omega
 have jZ:∀ i row,(bV c C u m)[i]?=some row->∃ (bo:Option Addr) (bc:Nat),(vals.set u (.slice (some ⟨V,0,none⟩) c.ms.length c.ms.length))[i]?=some (Value.slice bo row.length bc)/\∀ W,Only w' W Q->aY lO W bo row:=fun i row hi=>by
  by_cases e:u=i
  ·subst e
   obtain⟨h8,h9⟩:=h4 row hi;exact⟨some ⟨V,0,none⟩,c.ms.length,by rw[List.getElem?_set_self (by rw[kD];exact hu),h9],fun W oW=>(h8.only oW (eW V h5)).flatB⟩
  ·rw[List.getElem?_set_ne e]
   unfold bV at hi;rw[List.getElem?_set_ne e] at hi;obtain⟨bo',bc',h8,h9,Pm⟩:=xV i row hi;refine⟨bo',bc',h8,fun W oW=>?_⟩;rcases wI with tt | ⟨g,off,e2,hg,hq,tt⟩
   ·rw[tt] at hu;simp at hu
   ·obtain⟨C4,C9,D1,D2⟩:=tt i row hi
    have iq:=Pm g off e2;rw[D1] at iq;injection iq with iq;injection iq with D4 gi h17;rw[<- D4];exact D2 W (Ya W oW)
 have uN:∀ W,Only w' W Q->OwnK W w.heap.size 1 C.length kc (vals.set u (.slice (some ⟨V,0,none⟩) c.ms.length c.ms.length)) (some ⟨gk,ok,none⟩):=fun W oW=>h3.of_block (fun g e hl=>by
  have h:gk=g:=bF e
  exact oW.block g hl (by rw[<- h];exact eW gk tq.1)) oW.size
 refine⟨X,rfl,⟨qo,mo,uo,ho,some ⟨gk,ok,none⟩,qc,mc,uc,hc,kc,h1,eW X h6,cF,h2,fun W oW=>?_,.inr ⟨gk,ok,rfl,tq.2,eW gk tq.1,fun i row hi=>?_⟩⟩,h6,h7⟩
 ·have zC:=hRW W (Ya W oW)
  exact⟨zC.q,zC.m,zC.u,zC.h,EO (uN W oW) (fun i row hi=>by
   obtain⟨bo,bc,h8,h9⟩:=jZ i row hi
   exact⟨bo,bc,h8,h9 W oW⟩)⟩
 ·obtain⟨bo,bc,h8,h9⟩:=jZ i row hi
  refine⟨bo,bc,?_,h9⟩
  cases h3 with
  | «at» g off k1 k2 k3 k4=>exact k1.cells i _ h8
end
section
open Go.RowKit Go.Sort Go.Maps
def bE(r:List Nat):List Value:=r.map (fun(u:Nat)=>Value.int .i64 (u:Int))
theorem Hs(r:List Nat)(u:Nat):bE r++[.int .i64 (u:Int)]=bE (r++[u]):=by unfold bE;rw[List.map_append];rfl
theorem nz(r:List Nat):(bE r).length=r.length:=by unfold bE;rw[eB]
theorem ER(r:List Nat)(i u:Nat):(bE r).set i (.int .i64 (u:Int))=bE (r.set i u):=by unfold bE;rw[List.map_set]
def Nw(v:Value):Option (DataW Value×List MemPlace):=some (.held v,[])
theorem ES:Keyed Tryz.prog 3:=int_keyed Tryz.underlying3
def pX(w:World)(b n M:Nat)(f:Nat->Value):Prop:=∃ D:DataW Value,w.ownsMap Tryz.prog 3 Nw b n D/\∀ k,k<M->D.atKey (.int .i64 (k:Int)) (.held (.slice none 0 0)) = .held (f k)
theorem pX.lt{w:World}{b n M:Nat}{f:Nat->Value}(h:pX w b n M f):b<w.heap.size:=by
 obtain⟨D,h1,-⟩:=h;exact h1.lt
theorem pX.of_block{w w':World}{b n M:Nat}{f:Nat->Value}(h:pX w b n M f)(hb:w'.heap[b]?=w.heap[b]?):pX w' b n M f:=by
 obtain⟨D,⟨es,clock,h1,h2,h3,h4⟩,h5⟩:=h;exact⟨D,⟨es,clock,hb.trans h1,h2,h3,h4⟩,h5⟩
theorem pX.mono{w:World}{b n n' M:Nat}{f:Nat->Value}(h:pX w b n M f)(hn:n<=n'):pX w b n' M f:=by
 obtain⟨D,⟨es,clock,h1,h2,h3,h4⟩,h5⟩:=h;exact⟨D,⟨es,clock,h1,h2,dQ h3 hn,h4⟩,h5⟩
theorem ET{k:Nat}(hk:k<=1000000):keyOf Tryz.prog 3 (.int .i64 (k:Int))=some (.int .i64 (k:Int)):=keyOf_int_mk Tryz.underlying3 (by
 have e1:IntKind.i64.min = -9223372036854775808:=by decide
 have e2:IntKind.i64.max=9223372036854775807:=by decide
 show(decide (IntKind.i64.min<=(k:Int))&&decide ((k:Int)<=IntKind.i64.max))=true
 rw[e1,e2,decide_eq_true (by omega),decide_eq_true (by omega)];rfl)
theorem Zwv(w:World):(zeroValue 33).run Tryz.prog w = .ok (.slice none 0 0) w:=Tryz.zeroValue33 w
theorem pX.look{w:World}{b n M:Nat}{f:Nat->Value}(h:pX w b n M f){k:Nat}(hk:k<M)(hM:M<=1000000) :
  (Instr.lookup 188 (.map (some b)) (.int .i64 (k:Int)) false).run Tryz.prog w = .ok (f k) w:=by
 obtain⟨D,h1,h2⟩:=h;obtain⟨v,ps,nW,hv⟩:=h1.lookup ES Tryz.underlying188 (Zwv w) (zd:=.held (.slice none 0 0)) (zp:=[]) rfl (ET (k:=k) (by omega));rw[h2 k hk] at hv
 have e:v=f k:=by
  have:=bF hv;exact DataW.held.inj (Prod.mk.inj this).1
 rw[nW,e]
theorem pX.new(w:World)(M:Nat):pX (w.alloc (.map #[] 0)) w.heap.size 0 M (fun _=>.slice none 0 0) :=
 ⟨.map [],World.ownsMap_made w Tryz.prog 3 Nw,fun k _=>rfl⟩
theorem pX.put {w w':World} {b n M:Nat} {f:Nat->Value} {D:DataW Value} {k:Nat} {v:Value} (h:w.ownsMap Tryz.prog 3 Nw b n D) (rP:∀ k,k<M->D.atKey (.int .i64 (k:Int)) (.held (.slice none 0 0)) = .held (f k)) (hk:k<M) (hM:M<=1000000)
  (h':w'.ownsMap Tryz.prog 3 Nw b (n+1) (D.put (.int .i64 (k:Int)) (.held v))):pX w' b (n+1) M (aM f k v):=by
 refine⟨_,h',fun j hj=>?_⟩;by_cases e:j=k
 ·subst e
  rw[atKey_put_same h.isMap (ES.key (ET (by omega))),cE]
 ·rw[atKey_put_other (fun h=>e (by injection h with _ h;exact Int.ofNat.inj h)),dA _ _ _ e]
  exact rP j hj
structure PlcB where
 R:Nat
 RB:Nat
 T:Nat
 TV:Nat
 GB:Nat
 GV:Nat
 AB:Nat
 AV:Nat
 PB:Nat
 A:Nat
 mb:Nat->Nat
def PlcB.ptrs(b:PlcB):Array Value:=#[.pointer (some ⟨b.R,0,none⟩),.pointer (some ⟨b.RB,0,none⟩),.pointer (some ⟨b.T,0,none⟩),.pointer (some ⟨b.GB,0,none⟩),.pointer (some ⟨b.AB,0,none⟩),.pointer (some ⟨b.PB,0,none⟩)]
structure PlcD (lo hi:Nat) (b:PlcB):Prop where
 range:∀ g,g∈[b.R,b.RB,b.T,b.TV,b.GB,b.GV,b.AB,b.AV,b.PB]->lo<=g/\g<hi
 mbr:∀ i,i<16->lo<=b.mb i/\b.mb i<hi
 r:∀ g,g∈[b.RB,b.T,b.TV,b.GB,b.GV,b.AB,b.AV,b.PB]->g≠b.R
 tv:∀ g,g∈[b.R,b.RB,b.T,b.GB,b.GV,b.AB,b.AV,b.PB]->g≠b.TV
 av:∀ g,g∈[b.R,b.RB,b.T,b.TV,b.GB,b.GV,b.AB,b.PB]->g≠b.AV
 mb:∀ i,i<16->∀ g,g∈[b.R,b.RB,b.T,b.TV,b.GB,b.GV,b.AB,b.AV,b.PB]->g≠b.mb i
 mbj:∀ i j,i<16->j<16->i≠j->b.mb i≠b.mb j
structure PlcW (w0 w:World) (B:Nat) (b:PlcB) (U M:Nat) (G:Nat->Nat->List Nat) (a:Nat->Int) (t:Nat->Bool) (r:List Nat) (n:Nat) (ad:Nat->Nat->Option Addr) (cp:Nat->Nat->Nat) (ro:Option Addr) (rc:Nat):Prop where
 reach:aC w b.R 33 [.slice ro r.length rc]
 rown:OwnK w B 1 r.length rc (bE r) ro
 rbox:aC w b.RB 102 [.pointer (some ⟨b.A,0,none⟩)]
 tbox:aC w b.T 87 [.slice (some ⟨b.TV,0,none⟩) M M]
 tv:aC w b.TV 4 (bvs ((List.range M).map t))
 gbox:aC w b.GB 187 [.slice (some ⟨b.GV,0,none⟩) 16 16]
 gv:aC w b.GV 188 ((List.range 16).map (fun i=>Value.map (some (b.mb i))))
 maps:∀ i,i<16->pX w (b.mb i) n M (fun m=>.slice (ad i m) (G i m).length (cp i m))
 own:∀ i m,i<16->m<M->OwnK w B 1 (G i m).length (cp i m) (bE (G i m)) (ad i m)
 sep:∀ i m i' m',i<16->m<M->i'<16->m'<M->(i≠i'\/m≠m')->∀ g,blk (ad i m)=some g->blk (ad i' m')≠some g
 rsep:∀ i m,i<16->m<M->∀ g,blk (ad i m)=some g->blk ro≠some g
 abox:aC w b.AB 33 [.slice (some ⟨b.AV,0,none⟩) U U]
 av:aC w b.AV 3 (ivs ((List.range U).map a))
 pbox:aC w b.PB 114 [.func (.func 168) #[] b.ptrs]
 below:Below w0.heap.size w0 w
 big:B<=w.heap.size
section
variable {w0 w w':World} {B:Nat} {b:PlcB} {U M:Nat} {G:Nat->Nat->List Nat} {a:Nat->Int} {t:Nat->Bool} {r:List Nat} {n:Nat} {ad:Nat->Nat->Option Addr} {cp:Nat->Nat->Nat} {ro:Option Addr} {rc:Nat}
theorem PlcW.step(h:PlcW w0 w B b U M G a t r n ad cp ro rc)(hb:Below w.heap.size w w'):PlcW w0 w' B b U M G a t r n ad cp ro rc :=
 ⟨h.reach.step hb,h.rown.below hb,h.rbox.step hb,h.tbox.step hb,h.tv.step hb,h.gbox.step hb,h.gv.step hb,fun i hi=>(h.maps i hi).of_block (hb.block _ (h.maps i hi).lt),fun i m hi hm=>(h.own i m hi hm).below hb,h.sep,h.rsep,h.abox.step hb,h.av.step hb,h.pbox.step hb,h.below.trans (hb.mono h.below.size),dQ h.big hb.size⟩
theorem oe{α:Type}(f:Nat->α)(M k:Nat)(v:α):((List.range M).map f).set k v=(List.range M).map (aM f k v):=by
 apply List.ext_getElem?;intro i;rw[List.getElem?_set,dK];by_cases hi:i<M
 ·rw[dK,List.getElem?_range hi]
  by_cases e:k=i
  ·subst e
   rw[if_pos rfl,if_pos (by simp;exact hi)];show _=some (aM f k v k);rw[cE]
  ·rw[if_neg e]
   show _=some (aM f k v i);rw[dA _ _ _ (fun e2=>e e2.symm)];rfl
 ·rw[dK,List.getElem?_eq_none (by simp;omega:(List.range M).length<=i)]
  split
  ·rw[if_neg (by simp;omega)];rfl
  ·rfl
theorem PlcW.setT(h:PlcW w0 w B b U M G a t r n ad cp ro rc)(hd:PlcD w0.heap.size B b)(m:Nat):PlcW w0 (w.setCell ⟨b.TV,m,none⟩ (.bool true)) B b U M G a (aM t m true) r n ad cp ro rc:=by
 have on:=(Only.refl w (· = b.TV)).setCell (a:=⟨b.TV,m,none⟩) (.bool true) rfl;have hr:=hd.range b.TV (by simp);refine⟨h.reach.only on (hd.tv _ (by simp)),h.rown.of_block (fun g e hl=>on.block g hl (fun e2=>by have:=(h.rown.blk_lt e).1;omega)) on.size,h.rbox.only on (hd.tv _ (by simp)),h.tbox.only on (hd.tv _ (by simp)),?_,h.gbox.only on (hd.tv _ (by simp)),h.gv.only on (hd.tv _ (by simp)),fun i hi=>(h.maps i hi).of_block (on.block _ (h.maps i hi).lt (fun e=>hd.mb i hi b.TV (by simp) e.symm)),fun i m hi hm=>(h.own i m hi hm).of_block (fun g e hl=>on.block g hl (fun e2=>by have:=((h.own i m hi hm).blk_lt e).1;omega)) on.size,h.sep,h.rsep,h.abox.only on (hd.tv _ (by simp)),h.av.only on (hd.tv _ (by simp)),h.pbox.only on (hd.tv _ (by simp)),Only.later h.below on (fun g hg=>by omega),by rw[World.size_setCell];exact h.big⟩;have:=h.tv.set m (.bool true)
 rwa [<- zY,oe] at this
theorem PlcW.setA(h:PlcW w0 w B b U M G a t r n ad cp ro rc)(hd:PlcD w0.heap.size B b)(u:Nat)(x:Int):PlcW w0 (w.setCell ⟨b.AV,u,none⟩ (.int .i64 x)) B b U M G (aM a u x) t r n ad cp ro rc:=by
 have on:=(Only.refl w (· = b.AV)).setCell (a:=⟨b.AV,u,none⟩) (.int .i64 x) rfl;have hr:=hd.range b.AV (by simp);refine⟨h.reach.only on (hd.av _ (by simp)),h.rown.of_block (fun g e hl=>on.block g hl (fun e2=>by have:=(h.rown.blk_lt e).1;omega)) on.size,h.rbox.only on (hd.av _ (by simp)),h.tbox.only on (hd.av _ (by simp)),h.tv.only on (hd.av _ (by simp)),h.gbox.only on (hd.av _ (by simp)),h.gv.only on (hd.av _ (by simp)),fun i hi=>(h.maps i hi).of_block (on.block _ (h.maps i hi).lt (fun e=>hd.mb i hi b.AV (by simp) e.symm)),fun i m hi hm=>(h.own i m hi hm).of_block (fun g e hl=>on.block g hl (fun e2=>by have:=((h.own i m hi hm).blk_lt e).1;omega)) on.size,h.sep,h.rsep,h.abox.only on (hd.av _ (by simp)),?_,h.pbox.only on (hd.av _ (by simp)),Only.later h.below on (fun g hg=>by omega),by rw[World.size_setCell];exact h.big⟩;have:=h.av.set u (.int .i64 x);unfold ivs at this ⊢
 rwa [<- List.map_set,oe] at this
theorem PlcW.setG(h:PlcW w0 w B b U M G a t r n ad cp ro rc)(hd:PlcD w0.heap.size B b)(x m i u g off:Nat)(hx:x<16)(hm:m<M)(hi:i<(G x m).length)(hg:ad x m=some ⟨g,off,none⟩) :
  PlcW w0 (w.setCell ⟨g,off+i,none⟩ (.int .i64 (u:Int))) B b U M (aM G x (aM (G x) m ((G x m).set i u))) a t r n ad cp ro rc:=by
 have on:=(Only.refl w (· = g)).setCell (a:=⟨g,off+i,none⟩) (.int .i64 (u:Int)) rfl;have ho:=h.own x m hx hm;rw[hg] at ho;have hgB:=(ho.blk_lt (g:=g) rfl).1
 have cT:∀ y,y∈[b.R,b.RB,b.T,b.TV,b.GB,b.GV,b.AB,b.AV,b.PB]->y≠g:=fun y hy e=>by have:=(hd.range y hy).2;omega
 have fI:w0.heap.size<=g:=by have:=(hd.range b.R (by simp));omega
 have aQ:∀ i' m',(aM G x (aM (G x) m ((G x m).set i u)) i' m').length=(G i' m').length:=fun i' m'=>by
  by_cases e:i'=x
  ·subst e
   rw[cE];by_cases e2:m'=m
   ·subst e2;rw[cE,List.length_set]
   ·rw[dA _ _ _ e2]
  ·rw[dA _ _ _ e]
 refine⟨h.reach.only on (cT _ (by simp)),h.rown.of_block (fun g' e hl=>on.block g' hl (fun e2=>?_)) on.size,h.rbox.only on (cT _ (by simp)),h.tbox.only on (cT _ (by simp)),h.tv.only on (cT _ (by simp)),h.gbox.only on (cT _ (by simp)),h.gv.only on (cT _ (by simp)),fun i' iP=>?_,fun i' m' iP gU=>?_,h.sep,h.rsep,h.abox.only on (cT _ (by simp)),h.av.only on (cT _ (by simp)),h.pbox.only on (cT _ (by simp)),Only.later h.below on (fun g' tu=>by omega),by rw[World.size_setCell];exact h.big⟩
 ·subst e2
  exact h.rsep x m hx hm g' (by rw[hg];rfl) e
 ·have:=(h.maps i' iP).of_block (on.block _ (h.maps i' iP).lt (fun e=>by have:=(hd.mbr i' iP).2;omega))
  simp only[aQ];exact this
 ·rw[aQ]
  by_cases e:i'=x/\m'=m
  ·obtain⟨rfl,rfl⟩:=e
   rw[cE,cE,<- ER,hg];exact ho.setAt i (by rw[nz];exact hi) _
  ·have hG:aM G x (aM (G x) m ((G x m).set i u)) i' m'=G i' m':=by
    by_cases e1:i'=x
    ·subst e1
     rw[cE,dA _ _ _ (fun e2=>e ⟨rfl,e2⟩)]
    ·rw[dA _ _ _ e1]
   rw[hG];refine(h.own i' m' iP gU).of_block (fun g' e1 hl=>on.block g' hl (fun e2=>?_)) on.size;subst e2;exact h.sep x m i' m' hx hm iP gU (by by_cases e3:x=i';exact .inr (fun e4=>e ⟨e3.symm,e4.symm⟩);exact .inl e3) g' (by rw[hg];rfl) e1
theorem PlcW.addR(h:PlcW w0 w B b U M G a t r n ad cp ro rc)(hd:PlcD w0.heap.size B b){wa:World}{u g5 off5 c5:Nat}(ho:OwnK wa B 1 (r.length+1) c5 (bE r++[.int .i64 (u:Int)]) (some ⟨g5,off5,none⟩))(hg:w.grownBy wa (blk ro))(hb:Below B w wa)(gM:blk ro=some g5\/w.heap.size<=g5) :
  PlcW w0 (wa.setCell ⟨b.R,0,none⟩ (.slice (some ⟨g5,off5,none⟩) (r.length+1) c5)) B b U M G a t (r++[u]) n ad cp (some ⟨g5,off5,none⟩) c5:=by
 have on:=(Only.refl wa (· = b.R)).setCell (a:=⟨b.R,0,none⟩) (.slice (some ⟨g5,off5,none⟩) (r.length+1) c5) rfl;have hR:=hd.range b.R (by simp)
 have hv:∀ {g:Nat} {T:TypeId} {cs:List Value},g∈[b.RB,b.T,b.TV,b.GB,b.GV,b.AB,b.AV,b.PB]->aC w g T cs->aC (wa.setCell ⟨b.R,0,none⟩ (.slice (some ⟨g5,off5,none⟩) (r.length+1) c5)) g T cs:=fun {g T cs} hm hh=>(hh.below hb (hd.range g (List.mem_cons_of_mem _ hm)).2).only on (hd.r g hm)
 have h5:=(ho.blk_lt (g:=g5) rfl).1;refine⟨?_,?_,hv (by simp) h.rbox,hv (by simp) h.tbox,hv (by simp) h.tv,hv (by simp) h.gbox,hv (by simp) h.gv,fun i hi=>?_,fun i m hi hm=>?_,h.sep,fun i m hi hm g e e2=>?_,hv (by simp) h.abox,hv (by simp) h.av,hv (by simp) h.pbox,?_,by rw[World.size_setCell];exact dQ h.big hb.size⟩
 ·rw[gL]
  exact(h.reach.below hb hR.2).set 0 _
 ·rw[gL,<- Hs]
  exact ho.of_block (fun g e hl=>on.block g hl (fun e2=>by have h6:g5=g:=bF e;omega)) on.size
 ·refine((h.maps i hi).of_block (hb.block _ (hd.mbr i hi).2)).of_block (on.block _ ?_ (fun e=>hd.mb i hi b.R (by simp) e.symm))
  have:=hb.size;have:=(h.maps i hi).lt;omega
 ·have hx:blk (ad i m)≠blk ro\/blk (ad i m)=none:=by
   cases fH:blk (ad i m) with
   | none=>exact .inr rfl
   | some g=>exact .inl (fun e=>h.rsep i m hi hm g fH e.symm)
  exact((h.own i m hi hm).grown hg hx).of_block (fun g e hl=>on.block g hl (fun e2=>by have:=((h.own i m hi hm).blk_lt e).1;omega)) on.size
 ·have h6:g5=g:=bF e2
  subst h6;rcases gM with h7 | h7
  ·exact h.rsep i m hi hm g5 e h7
  ·have:=((h.own i m hi hm).blk_lt e).2;omega
 ·exact Only.later (h.below.trans (hb.mono (by omega))) on (fun g hg=>by omega)
theorem PlcW.addG (h:PlcW w0 w B b U M G a t r n ad cp ro rc) (hd:PlcD w0.heap.size B b) {wa wb:World} {x m u g5 off5 c5:Nat} (hx:x<16) (hm:m<M) (ho:OwnK wa B 1 ((G x m).length+1) c5 (bE (G x m)++[.int .i64 (u:Int)]) (some ⟨g5,off5,none⟩)) (hg:w.grownBy wa (blk (ad x m))) (hb:Below B w wa) (gM:blk (ad x m)=some g5\/w.heap.size<=g5)
  (hM:pX wb (b.mb x) (n+1) M (aM (fun m=>Value.slice (ad x m) (G x m).length (cp x m)) m (.slice (some ⟨g5,off5,none⟩) ((G x m).length+1) c5))) (on:Only wa wb (· = b.mb x)) :
  PlcW w0 wb B b U M (aM G x (aM (G x) m (G x m++[u]))) a t r (n+1) (aM ad x (aM (ad x) m (some ⟨g5,off5,none⟩))) (aM cp x (aM (cp x) m c5)) ro rc:=by
 have qZ:=hd.mbr x hx
 have hv:∀ {g:Nat} {T:TypeId} {cs:List Value},g∈[b.R,b.RB,b.T,b.TV,b.GB,b.GV,b.AB,b.AV,b.PB]->aC w g T cs->aC wb g T cs:=fun {g T cs} hm hh=>(hh.below hb (hd.range g hm).2).only on (hd.mb x hx g hm)
 have h5:=(ho.blk_lt (g:=g5) rfl).1
 have sT:∀ i' m',(i'=x/\m'=m)\/(aM ad x (aM (ad x) m (some ⟨g5,off5,none⟩)) i' m'=ad i' m'/\aM G x (aM (G x) m (G x m++[u])) i' m'=G i' m'/\aM cp x (aM (cp x) m c5) i' m'=cp i' m'/\¬ (i'=x/\m'=m)):=fun i' m'=>by
  by_cases e:i'=x/\m'=m
  ·exact .inl e
  ·right
   by_cases e1:i'=x
   ·subst e1
    have e2:m'≠m:=fun e2=>e ⟨rfl,e2⟩
    rw[cE,cE,cE,dA _ _ _ e2,dA _ _ _ e2,dA _ _ _ e2];exact⟨rfl,rfl,rfl,e⟩
   ·rw[dA _ _ _ e1,dA _ _ _ e1,dA _ _ _ e1]
    exact⟨rfl,rfl,rfl,e⟩
 have jX:∀ i' m',i'<16->m'<M->¬ (i'=x/\m'=m)->∀ g,blk (ad i' m')=some g->g≠g5:=fun i' m' iP gU e g tu e2=>by
  subst e2;rcases gM with h7 | h7
  ·exact h.sep x m i' m' hx hm iP gU (by by_cases e3:x=i';exact .inr (fun e4=>e ⟨e3.symm,e4.symm⟩);exact .inl e3) g h7 tu
  ·have:=((h.own i' m' iP gU).blk_lt tu).2;omega
 refine⟨hv (by simp) h.reach,?_,hv (by simp) h.rbox,hv (by simp) h.tbox,hv (by simp) h.tv,hv (by simp) h.gbox,hv (by simp) h.gv,fun i hi=>?_,fun i' m' iP gU=>?_,fun i' m' i2 m2 iP gU fu kN cT g e e2=>?_,fun i' m' iP gU g e e2=>?_,hv (by simp) h.abox,hv (by simp) h.av,hv (by simp) h.pbox,?_,dQ h.big (dQ hb.size on.size)⟩
 ·have Uc:blk ro≠blk (ad x m)\/blk ro=none:=by
   cases fH:blk ro with
   | none=>exact .inr rfl
   | some g=>exact .inl (fun e=>h.rsep x m hx hm g e.symm fH)
  exact(h.rown.grown hg Uc).of_block (fun g e hl=>on.block g hl (fun e2=>by have:=(h.rown.blk_lt e).1;omega)) on.size
 ·by_cases e:i=x
  ·subst e
   have hf:(fun m'=>Value.slice (aM ad i (aM (ad i) m (some ⟨g5,off5,none⟩)) i m') (aM G i (aM (G i) m (G i m++[u])) i m').length (aM cp i (aM (cp i) m c5) i m'))=aM (fun m=>Value.slice (ad i m) (G i m).length (cp i m)) m (.slice (some ⟨g5,off5,none⟩) ((G i m).length+1) c5):=by
    funext m'
    rw[cE,cE,cE];by_cases e2:m'=m
    ·subst e2;rw[cE,cE,cE,cE,gL];rfl
    ·rw[dA _ _ _ e2,dA _ _ _ e2,dA _ _ _ e2,dA _ _ _ e2]
   rw[hf];exact hM
  ·have hf:(fun m'=>Value.slice (aM ad x (aM (ad x) m (some ⟨g5,off5,none⟩)) i m') (aM G x (aM (G x) m (G x m++[u])) i m').length (aM cp x (aM (cp x) m c5) i m'))=(fun m=>Value.slice (ad i m) (G i m).length (cp i m)):=by
    funext m'
    rw[dA _ _ _ e,dA _ _ _ e,dA _ _ _ e]
   rw[hf];have h1:=(h.maps i hi).of_block (hb.block _ (hd.mbr i hi).2);exact(h1.of_block (on.block _ h1.lt (hd.mbj i x hi hx e))).mono (Nat.le_succ n)
 ·rcases sT i' m' with ⟨rfl,rfl⟩ | ⟨e1,e2,e3,e4⟩
  ·rw[cE,cE,cE,cE,cE,cE,gL,<- Hs]
   exact ho.of_block (fun g e hl=>on.block g hl (fun e2=>by have h6:g5=g:=bF e;omega)) on.size
  ·rw[e1,e2,e3]
   have Uc:blk (ad i' m')≠blk (ad x m)\/blk (ad i' m')=none:=by
    cases fH:blk (ad i' m') with
    | none=>exact .inr rfl
    | some g=>exact .inl (fun e=>h.sep x m i' m' hx hm iP gU (by by_cases e3:x=i';exact .inr (fun e5=>e4 ⟨e3.symm,e5.symm⟩);exact .inl e3) g e.symm fH)
   exact((h.own i' m' iP gU).grown hg Uc).of_block (fun g e hl=>on.block g hl (fun e2=>by have:=((h.own i' m' iP gU).blk_lt e).1;omega)) on.size
 ·rcases sT i' m' with ⟨rfl,rfl⟩ | ⟨e1,-,-,e4⟩
  ·rcases sT i2 m2 with ⟨rfl,rfl⟩ | ⟨f1,-,-,f4⟩
   ·rcases cT with h8 | h8<;>exact h8 rfl
   ·rw[cE,cE] at e
    rw[f1] at e2;have h6:g5=g:=bF e;exact jX i2 m2 fu kN f4 g e2 h6.symm
  ·rw[e1] at e
   rcases sT i2 m2 with ⟨rfl,rfl⟩ | ⟨f1,-,-,f4⟩
   ·rw[cE,cE] at e2
    have h6:g5=g:=bF e2;exact jX i' m' iP gU e4 g e h6.symm
   ·rw[f1] at e2
    exact h.sep i' m' i2 m2 iP gU fu kN cT g e e2
 ·rcases sT i' m' with ⟨rfl,rfl⟩ | ⟨e1,-,-,e4⟩
  ·rw[cE,cE] at e
   have h6:g5=g:=bF e;subst h6;rcases gM with h7 | h7
   ·exact h.rsep i' m' iP gU g5 h7 e2
   ·have:=(h.rown.blk_lt e2).2;omega
  ·rw[e1] at e
   exact h.rsep i' m' iP gU g e e2
 ·exact Only.later (h.below.trans (hb.mono (by have:=(hd.range b.R (by simp));omega))) on (fun g hg=>by omega)
end
end
section
open Go.RowKit Go.Sort Go.Maps
def aR(c:Crw)(C:List (List Bool)):Tbl:=⟨c.us.length,c.ms.length,fun u m=>(C.getD u []).getD m false,fun u=>(c.us.getD u ⟨0,0,0,0⟩).w.toNat,fun m w=>(eI (c.ms.getD m ⟨[],[],0⟩).t w).toNat⟩
structure ReckOk (c:Crw) (C:List (List Bool)):Prop where
 len:C.length=c.us.length
 row:∀ r∈C,r.length=c.ms.length
 win:∀ x∈c.us,0<=x.w/\x.w<=15
 tic:∀ m∈c.ms,(∀ t∈m.t,0<=t/\t<=4096)/\m.t.length<=1000
 nm:c.ms.length<=1000
 nu:c.us.length<=1000
theorem XO{α:Type}(f:Nat->α)(k:Nat)(v v':α):aM (aM f k v) k v'=aM f k v':=by
 funext i
 by_cases e:i=k
 ·subst e;rw[cE,cE]
 ·rw[dA _ _ _ e,dA _ _ _ e,dA _ _ _ e]
theorem XP{can:Nat->Nat->Bool}{cap:Nat->Nat}{M U:Nat}{X:Nat->Prop}{s s':Plc}(h:Stuck can cap M X s s')(hr:∀ v,v∈s.r->v<U)(hX:∀ v,X v->v<U)(hg:∀ m v,v∈s.g m->v<U):∀ v,v∈s'.r->v<U:=fun v hv=>by
 by_cases e:v∈s.r
 ·exact hr v e
 ·rcases h.newr v hv e with h1 | ⟨m,-,-,h1⟩
  ·exact hX v h1
  ·exact hg m v h1
theorem XQ{U:Nat}{r:List Nat}(hn:r.Nodup)(h:∀ v,v∈r->v<U):r.length<=U:=by
 have:=Sj r (List.range U) hn (fun v hv=>List.mem_range.2 (h v hv))
 rwa [List.length_range] at this
section
variable {can:Nat->Nat->Bool} {cap:Nat->Nat} {rec:Nat->Plc->Bool×Plc} {M k u:Nat} {s s2:Plc}
theorem EU(hk:k<M):(List.range M).drop k=k::(List.range M).drop (k+1):=by
 rw[List.drop_eq_getElem_cons (by rw[List.length_range];exact hk),List.getElem_range]
theorem XT(hk:k<M)(h:(!can u k||s.t k)=true):qM can cap rec u ((List.range M).drop k) s=qM can cap rec u ((List.range M).drop (k+1)) s:=by
 rw[EU hk]
 conv=>lhs;unfold qM du
 rw[if_pos h]
theorem Zww(hk:k<M)(hc:can u k=true)(ht:s.t k=false)(hl:(s.g k).length<cap k):qM can cap rec u ((List.range M).drop k) s=(true,⟨aM s.g k (s.g k++[u]),aM s.a u (k:Int),aM s.t k true,s.r⟩):=by
 rw[EU hk]
 conv=>lhs;unfold qM du
 rw[if_neg (by rw[hc,ht];decide),if_pos hl]
def of(can:Nat->Nat->Bool)(cap:Nat->Nat)(rec:Nat->Plc->Bool×Plc)(u M k:Nat):Bool×Plc->Bool×Plc
 | (true,s2)=>(true,s2)
 | (false,s2)=>qM can cap rec u ((List.range M).drop (k+1)) s2
theorem Zz7(hk:k<M)(hc:can u k=true)(ht:s.t k=false)(hl:¬ (s.g k).length<cap k):qM can cap rec u ((List.range M).drop k) s=of can cap rec u M k (sC rec k u ((s.g k).drop 0) 0 { s with t:=aM s.t k true }):=by
 rw[EU hk,List.drop_zero]
 conv=>lhs;unfold qM du
 rw[if_neg (by rw[hc,ht];decide),if_neg hl];show(match (some (sC rec k u (s.g k) 0 { s with t:=aM s.t k true }):Option (Bool×Plc)) with | none=>_ | some (true,s2)=>_ | some (false,s2)=>_)=_
 cases sC rec k u (s.g k) 0 { s with t:=aM s.t k true } with
 | mk b s2=>cases b<;>rfl
theorem Z2f{l:List Nat}{i o m:Nat}(ho:l[i]?=some o)(hr:rec o s=(true,s2)):sC rec m u (l.drop i) i s=(true,⟨aM s2.g m ((s2.g m).set i u),aM s2.a u (m:Int),s2.t,s2.r⟩):=by
 have hl:=(fD.1 ho).1;rw[List.drop_eq_getElem_cons hl];have:l[i]=o:=(fD.1 ho).2;rw[this];unfold sC;rw[hr]
theorem Z3h{l:List Nat}{i o m:Nat}(ho:l[i]?=some o)(hr:rec o s=(false,s2)):sC rec m u (l.drop i) i s=sC rec m u (l.drop (i+1)) (i+1) s2:=by
 have hl:=(fD.1 ho).1;rw[List.drop_eq_getElem_cons hl];have:l[i]=o:=(fD.1 ho).2;rw[this]
 conv=>lhs;unfold sC
 rw[hr]
theorem Z2g{l:List Nat}{m:Nat}:sC rec m u (l.drop l.length) l.length s=(false,s):=by
 rw[List.drop_length];rfl
end
theorem PlcW.addG2 {w0 w wa wb:World} {B:Nat} {b:PlcB} {U M:Nat} {G:Nat->Nat->List Nat} {g:Nat->List Nat} {a:Nat->Int} {t:Nat->Bool} {r:List Nat} {n:Nat} {ad:Nat->Nat->Option Addr} {cp:Nat->Nat->Nat} {ro:Option Addr} {rc x m u gn g5 off5 c5:Nat} {D:DataW Value}
  (h:PlcW w0 w B b U M (aM G x g) a t r n ad cp ro rc) (hd:PlcD w0.heap.size B b) (hx:x<16) (hm:m<M) (hM:M<=1000000) (Yb:(g m).length=gn) (ho:OwnK wa B 1 (gn+1) c5 (bE (g m)++[.int .i64 (u:Int)]) (some ⟨g5,off5,none⟩)) (hg:w.grownBy wa (blk (ad x m))) (hb:Below B w wa) (gM:blk (ad x m)=some g5\/w.heap.size<=g5)
  (bD:wa.ownsMap Tryz.prog 3 Nw (b.mb x) n D) (rP:∀ k,k<M->D.atKey (.int .i64 (k:Int)) (.held (.slice none 0 0)) = .held (.slice (ad x k) (aM G x g x k).length (cp x k))) (gG:wb.ownsMap Tryz.prog 3 Nw (b.mb x) (n+1) (D.put (.int .i64 (m:Int)) (.held (.slice (some ⟨g5,off5,none⟩) (gn+1) c5)))) (mE:wa.grownBy wb (some (b.mb x))) :
  PlcW w0 wb B b U M (aM G x (aM g m (g m++[u]))) a t r (n+1) (aM ad x (aM (ad x) m (some ⟨g5,off5,none⟩))) (aM cp x (aM (cp x) m c5)) ro rc:=by
 subst Yb
 have key:=h.addG hd hx hm (u:=u) (g5:=g5) (off5:=off5) (c5:=c5) (wa:=wa) (wb:=wb) (by rw[cE];exact ho) hg hb gM (by
  have:=pX.put (f:=fun m=>.slice (ad x m) (aM G x g x m).length (cp x m)) bD rP hm hM gG;rw[cE] at this ⊢
  exact this) (eh mE)
 rwa [cE,XO] at key
def EV(w0 w':World)(B:Nat)(b:PlcB)(U M:Nat)(G:Nat->Nat->List Nat)(x n:Nat)(ad:Nat->Nat->Option Addr)(cp:Nat->Nat->Nat)(st:Nat->Bool)(cX:Bool×Plc)(e:Ending):Prop :=
 ∃ (n':Nat) (ad':Nat->Nat->Option Addr) (cp':Nat->Nat->Nat) (ro':Option Addr) (rc':Nat),e = .returned (.bool cX.1)/\PlcW w0 w' B b U M (aM G x cX.2.g) cX.2.a cX.2.t cX.2.r n' ad' cp' ro' rc'/\n'<=n+(if cX.1=true then 1 else 0)/\(∀ i m,st m=true->ad' i m=ad i m/\cp' i m=cp i m)
def og(w0:World)(B:Nat)(b:PlcB)(T:Tbl)(f:Nat):Prop:=∀ (x u:Nat) (s:Plc) (w:World) (G:Nat->Nat->List Nat) (n:Nat) (ad:Nat->Nat->Option Addr) (cp:Nat->Nat->Nat) (ro:Option Addr) (rc:Nat),
 x<16->T.win u=x->u<T.U->PlcCall T.can (fun m=>T.cap m x) T.M (fun v=>v<T.U/\T.win v=x) u s->lM T.M s<=f->(∀ v,v∈s.r->v<T.U)->n<=100000->PlcW w0 w B b T.U T.M (aM G x s.g) s.a s.t s.r n ad cp ro rc ->
 Calls Tryz.prog 168 #[.int .i64 u,.pointer (some ⟨b.R,0,none⟩),.pointer (some ⟨b.RB,0,none⟩),.pointer (some ⟨b.T,0,none⟩),.pointer (some ⟨b.GB,0,none⟩),.pointer (some ⟨b.AB,0,none⟩),.pointer (some ⟨b.PB,0,none⟩)] w fun e w'=>EV w0 w' B b T.U T.M G x n ad cp s.t (Fd T.can (fun m=>T.cap m x) T.M f u s) e
theorem XU(w0:World)(B:Nat)(b:PlcB)(c:Crw)(H C:List (List Bool))(hd:PlcD w0.heap.size B b)(hr:fG w0 b.A c H C)(aJ:ReckOk c C)(f:Nat)(IH:∀ f',f=f'+1->og w0 B b (aR c C) f'):og w0 B b (aR c C) f:=by
 intro x u s w G n ad cp ro rc hx Yc hu dU gV gC Ma hW;obtain⟨qo,mo,uo,ho,co,qc,mc,uc,hc,cc,hA,hR,-⟩:=hr;have Qj:u<c.us.length:=hu;obtain⟨xu,xY⟩:∃ y,c.us[u]?=some y:=⟨_,aL Qj⟩;obtain⟨ru,fJ⟩:∃ y,C[u]?=some y:=⟨_,aL (by rw[aJ.len];exact Qj)⟩;have Yd:=aJ.win xu (bU xY)
 have uZ:xu.w=(x:Int):=by
  have h1:(c.us.getD u ⟨0,0,0,0⟩).w.toNat=x:=Yc;rw[bR,xY] at h1;have h1:xu.w.toNat=x:=h1;omega
 have vA:Hid (∀ k,(aR c C).can u k=ru.getD k false):=I (fun k=>by
  show(C.getD u []).getD k false=_
  rw[bR (l:=C),fJ];rfl)
 have eX:Hid (ru.length=c.ms.length):=I (aJ.row ru (bU fJ));have AW:=I (fun W (hW:Below w0.heap.size w0 W)=>hA.step hW);unfold qO at AW;obtain⟨gu,ou,eV,iZ,cF⟩:=hR.u.at mN u xu xY;have Qk:=cF 1 _ rfl;rw[uZ] at Qk
 have D5:Hid (∀ W,Below w0.heap.size w0 W->W.cell? ⟨gu,ou+u*4+1,none⟩=some (.int .i64 (x:Int))):=I (fun W hW=>by
  rw[rJ (w:=w0) (a:=⟨gu,ou+u*4+1,none⟩) (hW.block gu iZ)];exact Qk)
 obtain⟨gc,oc,bo,bc,iE,mU,fS,iA⟩:=hR.c.at u ru fJ
 have Ql:Hid (∀ W,Below w0.heap.size w0 W->W.cell? ⟨gc,oc+u,none⟩=some (.slice bo ru.length bc)):=I (fun W hW=>by
  rw[rJ (w:=w0) (a:=⟨gc,oc+u,none⟩) (hW.block gc mU)];exact fS)
 have mV:=I (fun W (hW:Below w0.heap.size w0 W)=>iA.below hW);have Ud:=I (fun W (hW:Below w0.heap.size w0 W) k m (hm:c.ms[k]?=some m)=>(hR.m.below hW).at k m hm)
 have Gh:Hid (∀ k,k<c.ms.length->∃ m,c.ms[k]?=some m/\(aR c C).cap k x=(eI m.t x).toNat/\0<=eI m.t x/\eI m.t x<=4096/\m.t.length<=1000):=I (fun k hk=>by
  refine⟨c.ms[k],aL hk,?_,?_⟩
  ·show(eI (c.ms.getD k ⟨[],[],0⟩).t x).toNat=_
   rw[bR,aL hk];rfl
  ·have h1:=aJ.tic c.ms[k] (List.getElem_mem hk)
   refine⟨?_,?_,h1.2⟩
   ·unfold eI
    rw[bR];by_cases h2:x<c.ms[k].t.length
    ·rw[aL h2];exact(h1.1 _ (List.getElem_mem h2)).1
    ·rw[List.getElem?_eq_none (by omega)];exact Int.le_refl _
   ·unfold eI
    rw[bR];by_cases h2:x<c.ms[k].t.length
    ·rw[aL h2];exact(h1.1 _ (List.getElem_mem h2)).2
    ·rw[List.getElem?_eq_none (by omega)];show(0:Int)<=4096;omega)
 have cY:=aJ.nm;have dH:=aJ.nu;have mF:Hid ((aR c C).U=c.us.length):=I rfl;have wJ:Hid ((aR c C).M=c.ms.length):=I rfl;have HD:=I hd;have gN:=I IH;have sP:=I (H_ (can:=(aR c C).can) (cap:=fun m=>(aR c C).cap m x) (M:=(aR c C).M) f u s);have nO:=I dU;have Ue:=I gV;have Ye:=I gC;have W0:=I hW;have Mi:Hid (∀ m v,v∈s.g m->v<(aR c C).U):=I (fun m v hv=>(dU.own m v hv).2.2.1.1)
 have ir:Hid (∀ m,(s.g m).length<=4096):=I (fun m=>by
  by_cases hm:m<c.ms.length
  ·obtain⟨y,-,h2,h3,h4,-⟩:=Gh.o m hm
   have:=dU.few m;simp only[h2] at this;omega
  ·have:s.g m=[]:=List.eq_nil_iff_forall_not_mem.2 (fun v hv=>hm (dU.own m v hv).1)
   rw[this];exact Nat.zero_le _)
 have tT:=I (XQ dU.reach gC)
 have rlen:s.r.length<=10000:=by have:=tT.o;rw[mF.o] at this;omega
 have D6:u<C.length:=by rw[aJ.len];exact Qj
 clear hA hR aJ IH dU gV gC hW xY fJ hd Yd Yc hu cF Qk iZ mU fS iA uZ;subst eV;subst iE;generalize hTT:aR c C=T at *;clear hTT;generalize aN:Fd T.can (fun m=>T.cap m x) T.M f u s=cX at *;clear aN;generalize eW:c.qs.length=nq at *;generalize Cp:c.ms.length=nm at *;generalize Jn:c.us.length=nu at *;generalize H.length=nh at *;generalize C.length=nc at *;have fW:=I Cp;clear eW Cp Jn;have hTU:=mF.o;have hTM:=wJ.o;obtain⟨can,iS⟩:=exq (T.can);obtain⟨cap,kC⟩:∃ y,(fun m=>T.cap m x)=y:=⟨_,rfl⟩;have fw:Hid (∀ m,T.cap m x=cap m):=I (fun m=>congrFun kC m);rw[iS] at vA sP nO;rw[kC] at sP nO;rw[hTM] at sP nO Ue W0 ⊢;rw[hTU] at W0 Ye Mi nO ⊢;have Uf:Hid (T.can=can/\(fun m=>T.cap m x)=cap):=I ⟨iS,kC⟩;clear iS kC hTU hTM tT;have q0:=W0.o.reach.cell 0 _ rfl;have qf:=W0.o.reach.warm 0
 go_enter Tryz.func168,Tryz.ntmps168
 go_upto_region 2 with(at_builtin;refine jM 33 3 (.int .i64 0) 1 8 Tryz.underlying33 sE rfl (by omega) (by omega) w B rfl (.tmp 15) (.tmp 17) rfl ro rc s.r.length (bE s.r) ?q1 W0.o.rown W0.o.big 1 1 #[.int .i64 (u:Int)] 3 ?q2 rfl (by omega) ?q3 ?q4 ?_;(case q1=>rfl);(case q2=>rfl);(case q3=>simp[Value.oneCell']);(case q4=>omega);intro g5 off5 c5 wa o8 aX b8 bW;have W1:=I (W0.o.addR HD.o o8 aX b8 bW);have q0:=(W0.o.reach.below b8 (HD.o.range b.R (by simp)).2).cell 0 _ rfl;have qf:=(W0.o.reach.below b8 (HD.o.range b.R (by simp)).2).warm 0;clear o8 aX b8 bW)
 clear q0 qf;generalize wa.setCell ⟨b.R,0,none⟩ (.slice (some ⟨g5,off5,none⟩) (s.r.length+1) c5)=w1 at *;have rb:=W1.o.rbox.cell 0 _ rfl;have a2:=(AW.o w1 W1.o.below).cell 2 _ rfl;have a4:=(AW.o w1 W1.o.below).cell 4 _ rfl;have su:=D5.o w1 W1.o.below;have sc:=Ql.o w1 W1.o.below;rw[eX.o] at sc
 have uu:(u:Int)<nu:=by omega
 have uc':(u:Int)<nc:=by omega
 go_wp2_with fail
 clear rb a2 a4 su sc;have Fz:Hid (∀ m,({ s with r:=s.r++[u] }:Plc).t m=s.t m):=I (fun _=>rfl);have Je:=I (PlcPre.enter nO.o)
 have D7:Hid (∀ v,v∈({ s with r:=s.r++[u] }:Plc).r->v<nu):=I (fun v hv=>by
  rcases kI.1 hv with h1 | h1
  ·exact Ye.o v h1
  ·rw[List.mem_singleton.1 h1];exact Qj)
 have JF:Hid (({ s with r:=s.r++[u] }:Plc).g=s.g):=I rfl;have HHU:Hid (∀ m,u∈({ s with r:=s.r++[u] }:Plc).g m->({ s with r:=s.r++[u] }:Plc).t m=true):=I nO.o.held;have wK:Hid (lM nm ({ s with r:=s.r++[u] }:Plc)<=f):=I Ue.o;have WIN:Hid (T.win u=x):=I nO.o.win.2;have W1':Hid (PlcW w0 w1 B b nu nm (aM G x ({ s with r:=s.r++[u] }:Plc).g) ({ s with r:=s.r++[u] }:Plc).a ({ s with r:=s.r++[u] }:Plc).t ({ s with r:=s.r++[u] }:Plc).r n ad cp (some ⟨g5,off5,none⟩) c5):=I W1.o;have Yf:Hid (qM can cap (zR can cap nm f) u ((List.range nm).drop 0) ({ s with r:=s.r++[u] }:Plc)=cX):=I (by rw[List.drop_zero,sP.o]);generalize ({ s with r:=s.r++[u] }:Plc)=S0 at *;clear W1 sP W0
 go_loopw [36] (fun kv wr=>∃ (k:Nat) (sk:Plc) (n2:Nat) (ad':Nat->Nat->Option Addr) (cp':Nat->Nat->Nat) (ro':Option Addr) (rc':Nat),kv = .int .i64 k/\k<=nm/\n2<=n/\Hid (qM can cap (zR can cap nm f) u ((List.range nm).drop k) sk=cX)/\Hid (Stuck can cap nm (fun _=>False) S0 sk)/\Hid (∀ m,m<k->can u m=true->sk.t m=true)/\Hid (PlcW w0 wr B b nu nm (aM G x sk.g) sk.a sk.t sk.r n2 ad' cp' ro' rc')/\Hid (∀ i m,s.t m=true->ad' i m=ad i m/\cp' i m=cp i m)) (fun k _=>(nm-intOf k).toNat)
 case atStart=>exact⟨0,S0,n,ad,cp,_,_,rfl,by omega,aO _,Yf,I (Stuck.refl _ Je.o.reach),I (fun m hm=>absurd hm (jU m)),W1',I (fun i m _=>⟨rfl,rfl⟩)⟩
 case round =>
  clear W1' Yf;obtain⟨k,sk,n2,ad',cp',ro',rc',rfl,hk,Gm,HE,bQ,Qm,W2,Jo⟩:=hrel;have e2:=w1i k (by omega);by_cases bT:k<nm
  ·have kk:(k:Int)<nm:=by omega
   obtain⟨gb,ob,dE,iR⟩:=(mV.o wr W2.o.below).bool k (by rw[eX.o];exact bT);have qX:=I dE;subst dE;have Ug:=vA.o k;obtain⟨bk,mC⟩:=exq (ru.getD k false);rw[mC] at iR Ug;have Mj:=I Ug;clear Ug mC;have tb:=W2.o.tbox.cell 0 _ rfl;have tv:=W2.o.tv.cell k _ (Fk (by simp;exact bT));have Yg:Hid (((List.range nm).map sk.t).getD k false=sk.t k):=I (by rw[bR,dK,List.getElem?_range bT];rfl);rw[Yg.o] at tv;obtain⟨tk,vB⟩:=exq (sk.t k);rw[vB] at tv;have dM:=I vB;clear vB Yg
   cases bk with
   | false =>
    go_wp2_with fail
    clear tb tv iR;go_roundw
    case rel=>exact⟨k+1,sk,n2,ad',cp',ro',rc',by go_num,by omega,Gm,I (by rw[<- HE.o,XT bT (by rw[Mj.o];rfl)]),bQ,I (fun m hm hc=>by
     rcases gQ m k with h | h
     ·exact Qm.o m h hc
     ·obtain rfl:m=k:=by omega
      rw[Mj.o] at hc;cases hc),W2,Jo⟩
    case measure=>simp only[intOf];omega
   | true =>
    cases tk with
    | true =>
     go_wp2_with fail
     clear tb tv iR;go_roundw
     case rel=>exact⟨k+1,sk,n2,ad',cp',ro',rc',by go_num,by omega,Gm,I (by rw[<- HE.o,XT bT (by rw[dM.o,Bool.or_true])]),bQ,I (fun m hm hc=>by
      rcases gQ m k with h | h
      ·exact Qm.o m h hc
      ·obtain rfl:m=k:=by omega
       exact dM.o),W2,Jo⟩
     case measure=>simp only[intOf];omega
    | false =>
     have tf:=W2.o.tv.warm k
     go_upto_region 8 with(fail)
     clear tb tv tf iR;have W3:=I (W2.o.setT HD.o k);generalize wr.setCell ⟨b.TV,k,none⟩ (.bool true)=w3 at *;clear W2;have tw:=W3.o.gbox.cell 0 _ rfl;have tz:=W3.o.gv.cell x (.map (some (b.mb x))) (by rw[dK,List.getElem?_range hx];rfl)
     have xx:(x:Int)<16:=by omega
     have xP:=I ((W3.o.maps x hx).look bT (by omega));rw[cE] at xP;have xI:=xP.o;obtain⟨m,gW,kX,Bl,vX,yU⟩:=Gh.o k bT;rw[fw.o] at kX;obtain⟨gm,om,cs,lC,gI,dX,aH⟩:=Ud.o w3 W3.o.below k m gW;have yY:=I dX;obtain⟨mbo,mbc,mto,mtc,rfl,-,-⟩:=dX;have s0:=aH 0 _ rfl;have s1:=aH 1 _ rfl;have s2:=aH 2 _ rfl;rw[Nat.add_zero] at s0;have a1:=(AW.o w3 W3.o.below).cell 1 _ rfl;have rb:=W3.o.rbox.cell 0 _ rfl;have Gi:=I lC;have wL:=I (ni w3 m _ yY.o x (by omega) (by omega));have dT:=ir.o k;have D8:Hid (sk.g=s.g):=I (bQ.o.g.trans JF.o);rw[<- D8.o] at dT;generalize eI m.t x=tx at *;generalize m.b.length=nb at *;generalize m.t.length=nt at *;generalize m.r=mr at *;clear aH gI gW;subst lC;obtain⟨gn,Yb⟩:=exq ((sk.g k).length);have oP:=I Yb;rw[Yb] at xI dT;clear Yb
     go_wp2_with fail
     refine wL.o.mono ?_;rintro e w4 ⟨rfl,b4⟩;have W4:=I (W3.o.step b4);clear tw tz xI s0 s1 s2 a1 rb b4 W3 xP wL yY Gi;by_cases hl:(gn:Int)<tx
     ·have Jp:Hid (cX=(true,⟨aM sk.g k (sk.g k++[u]),aM sk.a u (k:Int),aM sk.t k true,sk.r⟩)):=I (by
       rw[<- HE.o]
       exact Zww bT Mj.o dM.o (by rw[kX,oP.o];omega))
      go_upto_region 10 with(fail)
      refine Ku [0,1,2,3,4,5,6] [7,8,9] (fun w'=>aC w' b.GB 187 [.slice (some ⟨b.GV,0,none⟩) 16 16]/\aC w' b.GV 188 ((List.range 16).map (fun i=>Value.map (some (b.mb i))))) (by kernel_rfl) (by kernel_rfl) (by kernel_rfl) (fun _ _ d _ _ h=>by cases d<;>exact h) ⟨W4.o.gbox.step (aG _ _).drew,W4.o.gv.step (aG _ _).drew⟩ ?_;simp only[iH,List.filterMap_cons,List.filterMap_nil,List.getElem?_cons_zero,List.getElem?_cons_succ,Option.map_some,List.map_cons,List.map_nil];apply Exists.intro;refine⟨?hh,?ht⟩
      case hh =>
       intro w' bM;have c0:=bM.1.cell 0 _ rfl;have c1:=bM.2.cell x (.map (some (b.mb x))) (by rw[dK,List.getElem?_range hx];rfl);clear bM
       repeat still_step
       exact wpStill_nil rfl
      case ht =>
       have BD:=(aG w4.heap.size w4).drew;have W5:=I (W4.o.step BD);clear BD W4;generalize w4.drew=wd at *;refine jT ?_
       go_wp2_with fail
       have bz:=bwA wd (.cells #[.int .i64 (u:Int)] 3);refine aI ⟨⟨W5.o.gbox.step bz,W5.o.gv.step bz⟩,?_⟩;clear bz;refine jT ?_;have Cq:Hid (OwnK wd B 1 gn (cp' x k) (bE (sk.g k)) (ad' x k)):=I (by have:=W5.o.own x k hx bT;rwa [cE,oP.o] at this);obtain⟨D,bD,rP⟩:=W5.o.maps x hx;have ua:=I bD;have ge:=I rP;clear bD rP
       go_wp2_with (at_builtin;refine jM 33 3 (.int .i64 0) 1 8 Tryz.underlying33 sE rfl (by omega) (by omega) wd B rfl (.tmp 76) (.tmp 78) rfl (ad' x k) (cp' x k) gn (bE (sk.g k)) ?q1 Cq.o W5.o.big 1 1 #[.int .i64 (u:Int)] 3 ?q2 rfl (by omega) ?q3 ?q4 ?_;(case q1=>rfl);(case q2=>rfl);(case q3=>simp[Value.oneCell']);(case q4=>omega);intro g6 off6 c6 D9 o8 aX b8 bW;have O8:=I o8;have G8:=I aX;have B8:=I b8;have R8:=I bW;clear o8 aX b8 bW)
       have Yh:Hid (D9.ownsMap Tryz.prog 3 Nw (b.mb x) n2 D):=I (by
        obtain⟨es,clock,h1,h2⟩:=ua.o
        exact⟨es,clock,(B8.o.block _ (HD.o.mbr x hx).2).trans h1,h2⟩)
       refine aI ⟨⟨W5.o.gbox.below B8.o (HD.o.range b.GB (by simp)).2,W5.o.gv.below B8.o (HD.o.range b.GV (by simp)).2⟩,?_⟩;refine Kt ?_
       go_wp2_with (at_mapUpdate;refine wpList_mapUpdate_own _ rfl (.tmp 74) (.tmp 75) (.tmp 79) 188 rfl 3 33 ES Tryz.underlying188 Nw (b.mb x) n2 D rfl Yh.o (by simp only[maxLen];omega) (.int .i64 (k:Int)) (.slice (some ⟨g6,off6,none⟩) (gn+1) c6) (.int .i64 (k:Int)) rfl rfl (ET (by omega)) (.held (.slice (some ⟨g6,off6,none⟩) (gn+1) c6)) [] rfl ?_;intro w6 gG fB;have W6:=I (W5.o.addG2 HD.o hx bT (by omega) oP.o O8.o G8.o B8.o R8.o Yh.o ge.o gG fB);clear gG fB;have ab:=W6.o.abox.cell 0 _ rfl;have av:=W6.o.av.cell u (.int .i64 (sk.a u)) (by unfold ivs;rw[dK,dK,List.getElem?_range Qj];rfl);have af:=W6.o.av.warm u)
       have W7:=I (W6.o.setA HD.o u (k:Int));clear ab av af W6;go_ret;rw[Jp.o]
       exact⟨n2+1,_,_,_,_,rfl,W7.o,Nat.add_le_add_right Gm 1,fun i m' gU=>by
        have cT:m'≠k:=fun e=>by
         subst e;have h1:=bQ.o.more m' (by rw[Fz.o];exact gU);rw[dM.o] at h1;cases h1
        by_cases e:i=x
        ·subst e
         rw[cE,cE,dA _ _ _ cT,dA _ _ _ cT];exact Jo.o i m' gU
        ·rw[dA _ _ _ e,dA _ _ _ e]
         exact Jo.o i m' gU⟩
     ·have mD:Hid (of can cap (zR can cap nm f) u nm k (sC (zR can cap nm f) k u ((sk.g k).drop 0) 0 { sk with t:=aM sk.t k true })=cX):=I (by
       rw[<- HE.o]
       exact(Zz7 bT Mj.o dM.o (by rw[kX,oP.o];omega)).symm)
      have ub:Hid (¬ (sk.g k).length<cap k):=I (by rw[kX,oP.o];omega);have gH:Hid (PlcPre can cap nm (fun v=>v<nu/\T.win v=x) sk):=I (Je.o.after bQ.o (fun v hv=>hv.elim));have JG:Hid (lM nm sk<=f):=I (dQ (CI bQ.o.more) wK.o);have E0:Hid (∀ v,v∈sk.r->v<nu):=I (XP bQ.o D7.o (fun v hv=>hv.elim) (fun m v hv=>by rw[JF.o] at hv;exact Mi.o m v hv));have it:Hid (∀ m,s.t m=true->sk.t m=true):=I (fun m hm=>bQ.o.more m (by rw[Fz.o];exact hm));obtain⟨ax,ud⟩:=exq (ad' x k);obtain⟨cx,Yi⟩:=exq (cp' x k);have JH:=I ud;have rT:=I Yi;rw[ud,Yi];clear ud Yi
      go_wp2_with fail
      have Cr:=dT
      go_loopw [86] (fun iv wq=>∃ (i:Nat) (sj:Plc) (n3:Nat) (Uh:Nat->Nat->Option Addr) (Ui:Nat->Nat->Nat) (iw:Option Addr) (iy:Nat),iv = .int .i64 i/\i<=gn/\n3<=n/\Hid (of can cap (zR can cap nm f) u nm k (sC (zR can cap nm f) k u ((sk.g k).drop i) i sj)=cX)/\Hid (Stuck can cap nm (fun v=>v∈(sk.g k).take i) { sk with t:=aM sk.t k true } sj)/\Hid (∀ v,v∈(sk.g k).take i->v∈sj.r)/\Hid (PlcW w0 wq B b nu nm (aM G x sj.g) sj.a sj.t sj.r n3 Uh Ui iw iy)/\Hid (∀ i m,s.t m=true\/m=k->Uh i m=ad' i m/\Ui i m=cp' i m)) (fun i _=>(gn-intOf i).toNat)
      case atStart=>exact⟨0,{ sk with t:=aM sk.t k true },n2,ad',cp',ro',rc',rfl,by omega,Gm,mD,I (Stuck.refl _ gH.o.reach),I (fun v hv=>by simp at hv),W4,I (fun i m _=>⟨rfl,rfl⟩)⟩
      case round =>
       clear W4 mD;obtain⟨i,sj,n3,Uh,Ui,iw,iy,rfl,hi,Tu,HO,tU,eZ,W5,rX⟩:=hrel;have e3:=w1i i (by omega);by_cases aT:i<gn
       ·have ii:(i:Int)<gn:=by omega
        obtain⟨o,ho⟩:∃ o,(sk.g k)[i]?=some o:=⟨_,aL (by rw[oP.o];exact aT)⟩;obtain⟨dU,Jq,yS,Fv,qQ⟩:=QM gH.o bT dM.o tU.o ho;have cA:=I dU;have iz:=I yS;have ja:=I qQ;have qJ:=I ho;obtain⟨f',jc⟩:∃ f',f=f'+1:=⟨f-1,by have:=JG.o;omega⟩;have HF':=I jc;have JI:Hid (lM nm sj<=f'):=I (by have:=JG.o;omega);have E1:Hid (∀ v,v∈sj.r->v<nu):=I (XP tU.o E0.o (fun v hv=>(gH.o.own k v (List.mem_of_mem_take hv)).2.2.1.1) (fun m v hv=>(gH.o.own m v hv).2.2.1.1))
        have sU:Hid (Calls Tryz.prog 168 #[.int .i64 o,.pointer (some ⟨b.R,0,none⟩),.pointer (some ⟨b.RB,0,none⟩),.pointer (some ⟨b.T,0,none⟩),.pointer (some ⟨b.GB,0,none⟩),.pointer (some ⟨b.AB,0,none⟩),.pointer (some ⟨b.PB,0,none⟩)] wr fun e w'=>EV w0 w' B b nu nm G x n3 Uh Ui sj.t (Fd can cap nm f' o sj) e):=I (by
         have key:=gN.o f' jc x o sj wr G n3 Uh Ui iw iy hx;rw[Uf.o.1,Uf.o.2,wJ.o,mF.o] at key
         exact key dU.win.2 dU.win.1 dU JI.o E1.o (by omega) W5.o)
        have gP:Hid (Nm can cap nm (fun v=>v<nu/\T.win v=x) o sj (Fd can cap nm f' o sj)):=I (CJ f' o sj dU JI.o);have Ty:Hid (zR can cap nm f o sj=Fd can cap nm f' o sj):=I (by rw[jc];rfl);clear dU Jq yS Fv qQ ho jc;have bD:=W5.o.own x k hx bT;rw[cE,iz.o,oP.o,(rX.o x k (.inr rfl)).1,(rX.o x k (.inr rfl)).2,JH.o,rT.o] at bD
        obtain⟨go,oo,bI,E2⟩:∃ go oo,ax=some ⟨go,oo,none⟩/\wr.cell? ⟨go,oo+i,none⟩=some (.int .i64 (o:Int)):=by
         cases ax with
         | none=>cases bD with | nil h1 h2 h3=>omega
         | some a =>
          cases bD with
          | «at» g off h1 h2 h3 h4 =>
           refine⟨g,off,rfl,h1.cells i _ ?_⟩;unfold bE;rw[dK,qJ.o];rfl
        have mT:=I bI;clear bD;subst bI;have pb:=W5.o.pbox.cell 0 _ rfl;unfold PlcB.ptrs at pb
        go_wp2_with fail
        refine sU.o.mono ?_;intro e w6 hq;clear E2 pb;obtain⟨n4,Uj,Uk,jd,je,rfl,W6,zD,vC⟩:=hq;have W6:=I W6;have xZ:=I vC;clear vC sU;generalize Fd can cap nm f' o sj=R3 at *;obtain⟨b3,s3⟩:=R3
        have Cs:Hid (∀ i' m,s.t m=true\/m=k->Uj i' m=ad' i' m/\Uk i' m=cp' i' m):=I (fun i' m hm=>by
         have h1:sj.t m=true:=by
          rcases hm with hm | hm
          ·exact tU.o.more m (Kq sk k m (it.o m hm))
          ·rw[hm];exact ja.o
         exact⟨(xZ.o i' m h1).1.trans (rX.o i' m hm).1,(xZ.o i' m h1).2.trans (rX.o i' m hm).2⟩)
        clear xZ rX
        cases b3 with
        | false =>
         have zD:n4<=n3:=by simpa using zD
         obtain⟨qY,Gn⟩:Stuck can cap nm (· = o) sj s3/\o∈s3.r:=gP.o;have Gk:=I qY;have Lw:=I Gn;clear qY Gn gP;have W6':Hid (PlcW w0 w6 B b nu nm (aM G x s3.g) s3.a s3.t s3.r n4 Uj Uk jd je):=I W6.o;clear W6
         have E3:Hid (of can cap (zR can cap nm f) u nm k (sC (zR can cap nm f) k u ((sk.g k).drop (i+1)) (i+1) s3)=cX):=I (by
          have:=HO.o
          rwa [Z3h qJ.o Ty.o] at this)
         have Jr:Hid (∀ v,v∈(sk.g k).take (i+1)->v∈s3.r):=I (fun v hv=>by
          rw[lN,qJ.o] at hv;rcases kI.1 hv with h1 | h1
          ·exact Gk.o.old.subset (eZ.o v h1)
          ·have h2:v=o:=by simpa using h1
           rw[h2];exact Lw.o)
         have Js:=I (QO tU.o qJ.o Gk.o)
         go_wp2_with fail
         go_roundw
         case rel=>exact⟨i+1,s3,n4,Uj,Uk,jd,je,by go_num,by omega,by omega,E3,Js,Jr,W6',Cs⟩
         case measure=>simp only[intOf];omega
        | true =>
         have zD:n4<=n3+1:=by simpa using zD
         have Yj:Hid (Gave can cap nm (fun v=>v<nu/\T.win v=x) o sj s3):=I gP.o;have W6':Hid (PlcW w0 w6 B b nu nm (aM G x s3.g) s3.a s3.t s3.r n4 Uj Uk jd je):=I W6.o;clear W6 gP
         have Jp:Hid (cX=(true,⟨aM s3.g k ((s3.g k).set i u),aM s3.a u (k:Int),s3.t,s3.r⟩)):=I (by
          rw[<- HO.o,Z2f qJ.o Ty.o];rfl)
         have ue:Hid (s3.g k=sk.g k):=I (by rw[Yj.o.kept k ja.o,iz.o])
         have vC:Uj x k=some ⟨go,oo,none⟩:=by rw[(Cs.o x k (.inr rfl)).1,JH.o]
         have Qn:Uk x k=cx:=by rw[(Cs.o x k (.inr rfl)).2,rT.o]
         have uf:=I vC;have bD:=W6'.o.own x k hx bT;rw[cE,ue.o,oP.o,vC,Qn] at bD;obtain⟨⟨v0,t0⟩,tf,-,-⟩:=bD.setW i (by rw[nz,oP.o];exact aT);have xI:=((W6'.o.maps x hx).look bT (by omega));rw[cE,ue.o,oP.o,vC,Qn] at xI;clear bD vC Qn;have tw:=W6'.o.gbox.cell 0 _ rfl;have tz:=W6'.o.gv.cell x (.map (some (b.mb x))) (by rw[dK,List.getElem?_range hx];rfl)
         have xx:(x:Int)<16:=by omega
         go_upto_region 18 with(fail)
         clear tw tz xI t0 tf;have W7:=I (W6'.o.setG HD.o x k i u go oo hx bT (by rw[cE,ue.o,oP.o];exact aT) uf.o);rw[cE,XO] at W7;generalize w6.setCell ⟨go,oo+i,none⟩ (.int .i64 (u:Int))=w7 at *;clear W6';have ab:=W7.o.abox.cell 0 _ rfl;have av:=W7.o.av.cell u (.int .i64 (s3.a u)) (by unfold ivs;rw[dK,dK,List.getElem?_range Qj];rfl);have af:=W7.o.av.warm u;have W8:=I (W7.o.setA HD.o u (k:Int))
         go_wp2_with fail
         clear ab av af W7;go_ret;rw[Jp.o];exact⟨n4,Uj,Uk,jd,je,rfl,W8.o,by simp only[if_pos];omega,fun i' m hm=>⟨(Cs.o i' m (.inl hm)).1.trans (Jo.o i' m hm).1,(Cs.o i' m (.inl hm)).2.trans (Jo.o i' m hm).2⟩⟩
       ·have ii:¬ ((i:Int)<gn):=by omega
        obtain rfl:gn=i:=by omega
        have jf:Hid (qM can cap (zR can cap nm f) u ((List.range nm).drop (k+1)) sj=cX):=I (by
         have h1:=HO.o
         have h2:sC (zR can cap nm f) k u ((sk.g k).drop gn) gn sj=(false,sj):=by rw[<- oP.o];exact Z2g
         rw[h2] at h1
         exact h1)
        have pI:Hid ((sk.g k).take gn=sk.g k):=I (List.take_of_length_le (by rw[oP.o];exact aO _));have Qo:Hid (Stuck can cap nm (fun _=>False) S0 sj):=I (QP bQ.o bT dM.o ub.o (by have:=tU.o;rwa [pI.o] at this) (by have:=eZ.o;rwa [pI.o] at this))
        go_wp2_with fail
        go_roundw
        case rel=>exact⟨k+1,sj,n3,Uh,Ui,iw,iy,by go_num,by omega,Tu,jf,Qo,I (fun m hm hc=>by
         rcases gQ m k with h | h
         ·exact tU.o.more m (Kq sk k m (Qm.o m h hc))
         ·obtain rfl:m=k:=by omega
          exact tU.o.more m (cE _ _ _)),W5,I (fun i m hm=>⟨(rX.o i m (.inl hm)).1.trans (Jo.o i m hm).1,(rX.o i m (.inl hm)).2.trans (Jo.o i m hm).2⟩)⟩
        case measure=>simp only[intOf];omega
  ·have kk:¬ ((k:Int)<nm):=by omega
   obtain rfl:nm=k:=by omega
   have Jp:Hid (cX=(false,sk)):=I (by
    rw[<- HE.o,List.drop_of_length_le (by simp)];rfl)
   go_wp2_with fail
   go_ret;rw[Jp.o];exact⟨n2,ad',cp',ro',rc',rfl,W2.o,Gm,Jo.o⟩
theorem Zwy(w0:World)(B:Nat)(b:PlcB)(c:Crw)(H C:List (List Bool))(hd:PlcD w0.heap.size B b)(hr:fG w0 b.A c H C)(aJ:ReckOk c C):∀ f:Nat,og w0 B b (aR c C) f:=by
 intro f
 induction f with
 | zero=>exact XU w0 B b c H C hd hr aJ 0 (fun f' h=>by omega)
 | succ f ih =>
  refine XU w0 B b c H C hd hr aJ (f+1) (fun f' h=>?_)
  have e:f'=f:=by omega
  rw[e];exact ih
end
section
open Go.RowKit Go.Sort Go.Maps
theorem Zql(w:World)(x:Int)(g o c:Nat)(hg:w.cell? ⟨g,o,none⟩=some (.int .i64 x))(dT:g<w.heap.size) :
  Calls Tryz.prog 167 #[.slice (some ⟨g,o,none⟩) 1 c,.int .i64 0] w fun e w'=>(∃ L,e = .returned (.slice (some ⟨L,0,none⟩) 0 0)/\aC w' L 3 (ivs (List.replicate 0 x))/\w.heap.size<=L)/\Below w.heap.size w w':=by
 have HM:=I (Tryz.bits_Mul 1 0 (by omega) (by omega) w)
 have Xn:(((1*0/18446744073709551616:Nat)):Int)=0:=by omega
 rw[Xn] at HM;have ew:IntKind.u64.wrap (0:Int)=0:=IntWalk.u64_in _ (by omega);have Xo:IntKind.i64.wrap (0:Int)=0:=fU _ (by omega);have gW:=run_make_row' (P:=Tryz.prog) 33 3 (.int .i64 0) 8 Tryz.underlying33 sE rfl .i64 .i64 0 (by omega) (by omega);rw[VW] at gW
 have gW:∀ w,(Instr.makeSlice 33 (.int .i64 (0:Int)) (.int .i64 (0:Int))).run Tryz.prog w = .ok (.slice (some ⟨w.heap.size,0,none⟩) 0 0) (w.alloc (.cells (ivs (List.replicate 0 0)).toArray 3)):=fun w=>by
  have:=gW w
  rwa [Int.natCast_zero] at this
 clear Xn
 go_enter Tryz.func167,Tryz.ntmps167
 go_wp2_with fail
 refine HM.o.mono ?_;rintro e w' ⟨rfl,bM⟩;subst w';clear HM
 go_upto_region 7 with(fail)
 clear gW ew Xo;have bx:=bwA w (.cells (ivs []).toArray 3);have V2:Hid (aC (w.alloc (.cells (ivs []).toArray 3)) w.heap.size 3 (ivs [])):=I (heap_alloc_new _ _);have B2:=I bx;clear bx;generalize w.alloc (.cells (ivs []).toArray 3)=w2 at *
 go_wp2_with (refine wpList_copy_splice rfl (.tmp 31) (.tmp 32) 33 33 rfl 3 Tryz.underlying33 (by kernel_rfl) (some ⟨w.heap.size,0,none⟩) (some ⟨g,o,none⟩) 0 0 1 c rfl rfl w.heap.size 0 (ivs []) 3 V2.o [] rfl (fun h=>absurd h (Nat.lt_irrefl 0)) (aO _) (by simp) w.heap.size w B2.o (aO _) ?_;intro w3 uX lL)
 have V3:Hid (aC w3 w.heap.size 3 (ivs (List.replicate 0 x))):=I uX.o;have B3:=I lL;clear uX lL V2 B2
 go_wp2_with fail
 go_loopw [8] (fun s wr=>s = .int .i64 (0:Int)/\wr=w3) (fun s _=>0)
 case atStart=>exact⟨rfl,rfl⟩
 case round =>
  obtain⟨rfl,rfl⟩:=hrel
  go_wp2
  go_ret;exact⟨⟨_,rfl,V3.o,aO _⟩,B3.o⟩
theorem aC.setCells{g:Nat}{t:TypeId}:∀ (vs xs ys:List Value) (w:World),ys.length=vs.length->aC w g t (xs++ys)->aC (w.setCells g xs.length vs) g t (xs++vs)
 | [],xs,ys,w,hl,h=>by
  have:ys=[]:=List.length_eq_zero_iff.1 hl;subst this;exact h
 | v::vs,xs,[],w,hl,h=>by simp at hl
 | v::vs,xs,y::ys,w,hl,h=>by
  have h1:=h.set xs.length v
  have e:(xs++y::ys).set xs.length v=(xs++[v])++ys:=by
   simp
  rw[e] at h1;have h2:=aC.setCells vs (xs++[v]) ys _ (by simpa using hl) h1;rw[gL] at h2
  have e2:xs++v::vs=(xs++[v])++vs:=by simp
  rw[e2];exact h2
theorem Z2h{α:Type}(f:Nat->α)(k:Nat):aM f k (f k)=f:=by
 funext i
 by_cases e:i=k
 ·subst e;rw[cE]
 ·rw[dA _ _ _ e]
theorem PlcW.clearT {w0 w:World} {B:Nat} {b:PlcB} {U M:Nat} {G:Nat->Nat->List Nat} {a:Nat->Int} {t:Nat->Bool} {r:List Nat} {n:Nat} {ad:Nat->Nat->Option Addr} {cp:Nat->Nat->Nat} {ro:Option Addr} {rc:Nat}
  (h:PlcW w0 w B b U M G a t r n ad cp ro rc) (hd:PlcD w0.heap.size B b):PlcW w0 (w.setCells b.TV 0 (bvs (List.replicate M false))) B b U M G a (fun _=>false) r n ad cp ro rc:=by
 have on:=Only.setCells_at w b.TV 0 (bvs (List.replicate M false));have hr:=hd.range b.TV (by simp);refine⟨h.reach.only on (hd.tv _ (by simp)),h.rown.of_block (fun g e hl=>on.block g hl (fun e2=>by have:=(h.rown.blk_lt e).1;omega)) on.size,h.rbox.only on (hd.tv _ (by simp)),h.tbox.only on (hd.tv _ (by simp)),?_,h.gbox.only on (hd.tv _ (by simp)),h.gv.only on (hd.tv _ (by simp)),fun i hi=>(h.maps i hi).of_block (on.block _ (h.maps i hi).lt (fun e=>hd.mb i hi b.TV (by simp) e.symm)),fun i m hi hm=>(h.own i m hi hm).of_block (fun g e hl=>on.block g hl (fun e2=>by have:=((h.own i m hi hm).blk_lt e).1;omega)) on.size,h.sep,h.rsep,h.abox.only on (hd.tv _ (by simp)),h.av.only on (hd.tv _ (by simp)),h.pbox.only on (hd.tv _ (by simp)),Only.later h.below on (fun g hg=>by omega),dQ h.big on.size⟩
 have e1:(List.range M).map (fun _:Nat=>false)=List.replicate M false:=by
  rw[List.map_const',List.length_range]
 have:=aC.setCells (bvs (List.replicate M false)) [] _ w (by simp[bvs]) h.tv;rw[e1];exact this
theorem PlcW.clearR {w0 w:World} {B:Nat} {b:PlcB} {U M:Nat} {G:Nat->Nat->List Nat} {a:Nat->Int} {t:Nat->Bool} {r:List Nat} {n:Nat} {ad:Nat->Nat->Option Addr} {cp:Nat->Nat->Nat} {ro:Option Addr} {rc:Nat}
  (h:PlcW w0 w B b U M G a t r n ad cp ro rc) (hd:PlcD w0.heap.size B b):PlcW w0 (w.setCell ⟨b.R,0,none⟩ (.slice none 0 0)) B b U M G a t [] n ad cp none 0:=by
 have on:=(Only.refl w (· = b.R)).setCell (a:=⟨b.R,0,none⟩) (.slice none 0 0) rfl;have hr:=hd.range b.R (by simp);exact⟨h.reach.set 0 _,.nil rfl rfl rfl,h.rbox.only on (hd.r _ (by simp)),h.tbox.only on (hd.r _ (by simp)),h.tv.only on (hd.r _ (by simp)),h.gbox.only on (hd.r _ (by simp)),h.gv.only on (hd.r _ (by simp)),fun i hi=>(h.maps i hi).of_block (on.block _ (h.maps i hi).lt (fun e=>hd.mb i hi b.R (by simp) e.symm)),fun i m hi hm=>(h.own i m hi hm).of_block (fun g e hl=>on.block g hl (fun e2=>by have:=((h.own i m hi hm).blk_lt e).1;omega)) on.size,h.sep,fun i m hi hm g e e2=>(by cases e2),h.abox.only on (hd.r _ (by simp)),h.av.only on (hd.r _ (by simp)),h.pbox.only on (hd.r _ (by simp)),Only.later h.below on (fun g hg=>by omega),by rw[World.size_setCell];exact h.big⟩
theorem Zqm(w:World)(ty:TypeId)(g M c:Nat)(vs:List Value)(hv:aC w g 4 vs)(hl:vs.length=M):(Builtin.clear_ #[87] ty #[.slice (some ⟨g,0,none⟩) M c]).run Tryz.prog w = .ok (.tuple #[]) (w.setCells g 0 (bvs (List.replicate M false))):=by
 by_cases h0:M=0
 ·subst h0
  simp[Builtin.clear_,run_underlying Tryz.underlying87,bvs];rfl
 ·have:=Lib.run_clear_slice (P:=Tryz.prog) w 87 4 ty (.bool false) Tryz.underlying87 Tryz.zeroValue4 rfl rfl g 0 M c (by omega) (fun j hj=>by rw[Nat.zero_add,hv.cell j (vs[j]'(by omega)) (aL _)];rfl) (fun j hj=>by rw[Nat.zero_add];exact hv.warm j)
  rw[this];unfold bvs;rw[List.map_replicate]
end
section
open Go.RowKit Go.Sort Go.Maps
def ow(w w':World)(T:Tbl)(e:Ending):Prop:=Below w.heap.size w w' /\
 match sD T T.U 0 tG with
 | .ok s=>∃ AV,e = .returned (.tuple #[.slice (some ⟨AV,0,none⟩) T.U T.U,.slice none 0 0])/\aC w' AV 3 (ivs ((List.range T.U).map s.a))/\w.heap.size<=AV
 | .error r=>∃ g off cap,e = .returned (.tuple #[.slice none 0 0,.slice (some ⟨g,off,none⟩) r.length cap])/\OwnK w' w.heap.size 1 r.length cap (((r.map Int.ofNat).mergeSort leI).flatMap aZ) (some ⟨g,off,none⟩)
def er:List Value:=List.replicate 16 (Value.map none)
theorem Zw0(w:World):(Instr.makeSlice 187 (.int .i64 16) (.int .i64 16)).run Tryz.prog w = .ok (.slice (some ⟨w.heap.size,0,none⟩) 16 16) (w.alloc (.cells er.toArray 188)):=by
 have h:=run_make_row' (P:=Tryz.prog) 187 188 (.map none) 8 Tryz.underlying187 (by kernel_rfl) rfl .i64 .i64 16 (by omega) (by omega) w
 have e:madeCells #[Value.map none] 16=er.toArray:=by
  unfold er;apply Array.ext
  ·simp[madeCells]
  ·intro i h1 h2
   simp only[List.getElem_toArray,List.getElem_replicate];simp[madeCells,Nat.mod_one]
 rw[e] at h;exact h
theorem Zt0(w:World)(x:Int)(g o c N:Nat)(hg:w.cell? ⟨g,o,none⟩=some (.int .i64 x))(dT:g<w.heap.size)(hN2:N<=1000) :
  Calls Tryz.prog 167 #[.slice (some ⟨g,o,none⟩) 1 c,.int .i64 (N:Int)] w fun e w'=>(∃ L,e = .returned (.slice (some ⟨L,0,none⟩) N N)/\aC w' L 3 (ivs (List.replicate N x))/\w.heap.size<=L)/\Below w.heap.size w w':=by
 cases N with
 | zero=>exact Zql w x g o c hg dT
 | succ N=>exact Ztx w x g o c (N+1) hg dT (by omega) hN2
theorem OwnK.low{w:World}{B B' k n cap:Nat}{xs:List Value}{p:Option Addr}(h:OwnK w B k n cap xs p)(hB:B'<=B):OwnK w B' k n cap xs p:=by
 cases h with
 | nil h1 h2 h3=>exact .nil h1 h2 h3
 | «at» g off h1 h2 h3 h4=>exact .at g off { h1 with own:=dQ hB h1.own } h2 h3 h4
theorem XY(w:World)(g:Nat)(v:Value)(h:w.cell? ⟨g,0,none⟩=some v):(loadVar 33 ⟨g,0,none⟩).run Tryz.prog w = .ok v w:=by
 simp[loadVar,go_sem,h]
theorem XZ{fn:Func}(hf:fn.results=#[.cell 2 33,.tmp 3])(tmps:Array Value)(w:World)(g:Nat)(v u:Value)(hp:tmps.getD 2 undef = .pointer (some ⟨g,0,none⟩))(hu:tmps.getD 3 undef=u)(h:w.cell? ⟨g,0,none⟩=some v) :
  (results fn tmps).run Tryz.prog w = .ok (.tuple #[v,u]) w:=by
 rw[results_cell_tmp hf,hp,hu];simp[asAddr,XY w g v h,Result.andThen]
theorem ox(r:List Nat):bE r=(r.map Int.ofNat).flatMap aZ:=by
 induction r with
 | nil=>rfl
 | cons x r ih =>
  show Value.int .i64 (x:Int)::bE r=aZ (Int.ofNat x)++(r.map Int.ofNat).flatMap aZ;rw[ih];rfl
theorem PlcW.start {w0 wr:World} {s0 GV L nm nu A:Nat} {f:Nat->Nat} (Bs:w0.heap.size=s0) (hL:s0+2<L/\L<GV) (iK:GV+2<=wr.heap.size) (hB:Below s0 w0 wr)
  (RB:aC wr s0 102 [.pointer (some ⟨A,0,none⟩)]) (AB:aC wr (s0+1) 33 [.slice (some ⟨L,0,none⟩) nu nu]) (LV:aC wr L 3 (ivs (List.replicate nu (-1))))
  (GB:aC wr (GV+1) 187 [.slice (some ⟨GV,0,none⟩) 16 16]) (GV':aC wr GV 188 ((List.range 16).map (fun j=>Value.map (some (f j)))))
  (HM:∀ j,j<16->pX wr (f j) 0 nm (fun _=>.slice none 0 0)/\GV+2<=f j) (HF:∀ j j',j<16->j'<16->j≠j'->f j≠f j') :
  PlcD w0.heap.size (wr.heap.size+4) ⟨wr.heap.size+2,s0,wr.heap.size+1,wr.heap.size,GV+1,GV,s0+1,L,wr.heap.size+3,A,f⟩ /\
  PlcW w0 (((((wr.alloc (.cells (bvs (List.replicate nm false)).toArray 4)).alloc (.cells #[.slice (some ⟨wr.heap.size,0,none⟩) nm nm] 87)).alloc (.cells #[.slice none 0 0] 33)).alloc (.cells #[.nilFunc] 114)).setCell ⟨wr.heap.size+3,0,none⟩ (.func (.func 168) #[] (PlcB.ptrs ⟨wr.heap.size+2,s0,wr.heap.size+1,wr.heap.size,GV+1,GV,s0+1,L,wr.heap.size+3,A,f⟩))) (wr.heap.size+4) ⟨wr.heap.size+2,s0,wr.heap.size+1,wr.heap.size,GV+1,GV,s0+1,L,wr.heap.size+3,A,f⟩ nu nm (fun _ _=>[]) (fun _=>-1) (fun _=>false) [] 0 (fun _ _=>none) (fun _ _=>0) none 0:=by
 have jZ:∀ j,j<16->f j<wr.heap.size:=fun j hj=>(HM j hj).1.lt
 refine⟨⟨fun g hg=>?_,fun i hi=>⟨by have:=(HM i hi).2;show _<=f i;omega,by have:=jZ i hi;show f i<_;omega⟩,fun g hg=>?_,fun g hg=>?_,fun g hg=>?_,fun i hi g hg=>?_,fun i j hi hj cT=>HF i j hi hj cT⟩,?_⟩
 ·simp only[List.mem_cons,List.not_mem_nil,or_false] at hg
  rcases hg with rfl | rfl | rfl | rfl | rfl | rfl | rfl | rfl | rfl<;>constructor<;>omega
 ·simp only[List.mem_cons,List.not_mem_nil,or_false] at hg
  show g≠wr.heap.size+2;rcases hg with rfl | rfl | rfl | rfl | rfl | rfl | rfl | rfl<;>omega
 ·simp only[List.mem_cons,List.not_mem_nil,or_false] at hg
  show g≠wr.heap.size;rcases hg with rfl | rfl | rfl | rfl | rfl | rfl | rfl | rfl<;>omega
 ·simp only[List.mem_cons,List.not_mem_nil,or_false] at hg
  show g≠L;rcases hg with rfl | rfl | rfl | rfl | rfl | rfl | rfl | rfl<;>omega
 ·simp only[List.mem_cons,List.not_mem_nil,or_false] at hg
  have h1:=(HM i hi).2;have h2:=jZ i hi;show g≠f i;rcases hg with rfl | rfl | rfl | rfl | rfl | rfl | rfl | rfl | rfl<;>omega
 ·obtain⟨Z,hZ⟩:=exq (wr.heap.size)
  rw[hZ]
  have e1:(wr.alloc (.cells (bvs (List.replicate nm false)).toArray 4)).heap.size=Z+1:=by rw[eH,hZ]
  have n1:aC (wr.alloc (.cells (bvs (List.replicate nm false)).toArray 4)) Z 4 (bvs (List.replicate nm false)):=aC.newAt _ _ _ _ hZ.symm;have b1:Below Z wr (wr.alloc (.cells (bvs (List.replicate nm false)).toArray 4)):=(aG _ _).alloc (Nat.le_of_eq hZ.symm) _;generalize wr.alloc (.cells (bvs (List.replicate nm false)).toArray 4)=x1 at *
  have e2:(x1.alloc (.cells #[.slice (some ⟨Z,0,none⟩) nm nm] 87)).heap.size=Z+2:=by rw[eH,e1]
  have n2:aC (x1.alloc (.cells #[.slice (some ⟨Z,0,none⟩) nm nm] 87)) (Z+1) 87 [.slice (some ⟨Z,0,none⟩) nm nm]:=aC.newAt _ _ _ _ e1.symm;have b2:Below (Z+1) x1 (x1.alloc (.cells #[.slice (some ⟨Z,0,none⟩) nm nm] 87)):=(aG _ _).alloc (Nat.le_of_eq e1.symm) _;generalize x1.alloc (.cells #[.slice (some ⟨Z,0,none⟩) nm nm] 87)=x2 at *
  have e3:(x2.alloc (.cells #[.slice none 0 0] 33)).heap.size=Z+3:=by rw[eH,e2]
  have n3:aC (x2.alloc (.cells #[.slice none 0 0] 33)) (Z+2) 33 [.slice none 0 0]:=aC.newAt _ _ _ _ e2.symm;have b3:Below (Z+2) x2 (x2.alloc (.cells #[.slice none 0 0] 33)):=(aG _ _).alloc (Nat.le_of_eq e2.symm) _;generalize x2.alloc (.cells #[.slice none 0 0] 33)=x3 at *
  have e4:(x3.alloc (.cells #[.nilFunc] 114)).heap.size=Z+4:=by rw[eH,e3]
  have n4:aC (x3.alloc (.cells #[.nilFunc] 114)) (Z+3) 114 [.nilFunc]:=aC.newAt _ _ _ _ e3.symm;have b4:Below (Z+3) x3 (x3.alloc (.cells #[.nilFunc] 114)):=(aG _ _).alloc (Nat.le_of_eq e3.symm) _;generalize x3.alloc (.cells #[.nilFunc] 114)=x4 at *;have ug:Below Z wr x4:=((b1.trans (b2.mono (by omega))).trans (b3.mono (by omega))).trans (b4.mono (by omega));have on:=(Only.refl x4 (· = Z+3)).setCell (a:=⟨Z+3,0,none⟩) (.func (.func 168) #[] (PlcB.ptrs ⟨Z+2,s0,Z+1,Z,GV+1,GV,s0+1,L,Z+3,A,f⟩)) rfl
  have old:∀ {g:Nat} {t:TypeId} {cs:List Value},aC wr g t cs->aC (x4.setCell ⟨Z+3,0,none⟩ (.func (.func 168) #[] (PlcB.ptrs ⟨Z+2,s0,Z+1,Z,GV+1,GV,s0+1,L,Z+3,A,f⟩))) g t cs:=fun {g t cs} h=>by
   have hl:=h.lt;exact(h.below ug (by omega)).only on (by omega)
  refine⟨?_,.nil rfl rfl rfl,old RB,?_,?_,old GB,old GV',fun i hi=>?_,fun i m hi hm=>.nil rfl rfl rfl,fun i m i' m' _ _ _ _ _ g e=>(by cases e),fun i m _ _ g e=>(by cases e),old AB,?_,n4.set 0 _,?_,by rw[World.size_setCell,e4];exact aO _⟩
  ·exact(n3.below b4 (by omega)).only on (by omega)
  ·exact((n2.below b3 (by omega)).below b4 (by omega)).only on (by omega)
  ·have h:=(((n1.below b2 (by omega)).below b3 (by omega)).below b4 (by omega)).only on (by omega)
   rw[List.map_const',List.length_range];exact h
  ·have h:=(HM i hi).1
   have hl:=h.lt;exact(h.of_block (ug.block _ (by omega))).of_block (on.block _ (by omega) (by show ¬ (f i=Z+3);omega))
  ·have:=old LV
   rw[List.map_const',List.length_range];exact this
  ·rw[Bs]
   have h1:Below s0 w0 x4:=hB.trans (ug.mono (by omega));rw[<- Bs] at h1;have:=Only.later h1 on (fun g hg=>by rw[hg];omega)
   rwa [Bs] at this
theorem Zw1(w:World)(A:Nat)(c:Crw)(H C:List (List Bool))(hr:fG w A c H C)(aJ:ReckOk c C) :
  Calls Tryz.prog 119 #[.pointer (some ⟨A,0,none⟩)] w fun e w'=>ow w w' (aR c C) e:=by
 have HR:=I hr;have cV:=I aJ;have hU:=aJ.nu;have hM:=aJ.nm;have hCl:=aJ.len;obtain⟨qo,mo,uo,ho,co,qc,mc,uc,hc,cc,hA,hR,-⟩:=hr;have AW:=I (fun W (hW:Below w.heap.size w W)=>hA.step hW);unfold qO at AW;rw[hCl] at AW;have mF:Hid ((aR c C).U=c.us.length):=I rfl;have wJ:Hid ((aR c C).M=c.ms.length):=I rfl;clear hA hR aJ hCl;generalize eW:c.qs.length=nq at *;generalize Cp:c.ms.length=nm at *;generalize Jn:c.us.length=nu at *;generalize H.length=nh at *;have fW:=I Cp;have iC:=I Jn;clear eW Cp Jn;have gO:=I (fun B b=>Zwy w B b c H C)
 have Yk:Hid (∀ k,k<nu->(aR c C).win k<16):=I (fun k hk=>by
  rw[<- iC.o] at hk;have h1:=cV.o.win c.us[k] (List.getElem_mem hk);show(c.us.getD k ⟨0,0,0,0⟩).w.toNat<16;rw[bR,aL hk,Option.getD_some]
  omega)
 go_enter Tryz.func119,Tryz.ntmps119
 go_upto_region 1 with(fail)
 obtain⟨s0,Bs⟩:=exq (w.heap.size)
 have RB:Hid (aC ((w.alloc (.cells #[.pointer (some ⟨A,0,none⟩)] 102)).alloc (.cells #[.slice none 0 0] 33)) s0 102 [.pointer (some ⟨A,0,none⟩)]):=I (by
  rw[<- Bs]
  exact(aC.new w _ [.pointer (some ⟨A,0,none⟩)]).step ((aG _ _).alloc (aO _) _))
 have AB:Hid (aC ((w.alloc (.cells #[.pointer (some ⟨A,0,none⟩)] 102)).alloc (.cells #[.slice none 0 0] 33)) (s0+1) 33 [.slice none 0 0]):=I (by
  have:=aC.new (w.alloc (.cells #[.pointer (some ⟨A,0,none⟩)] 102)) 33 [.slice none 0 0];rw[eH,Bs] at this
  exact this)
 have BW:Hid (Below s0 w ((w.alloc (.cells #[.pointer (some ⟨A,0,none⟩)] 102)).alloc (.cells #[.slice none 0 0] 33))):=I (by
  rw[<- Bs]
  exact((aG _ _).alloc (aO _) _).alloc (by rw[eH];omega) _)
 have SZ:Hid (s0+2<=((w.alloc (.cells #[.pointer (some ⟨A,0,none⟩)] 102)).alloc (.cells #[.slice none 0 0] 33)).heap.size):=I (by rw[eH,eH];omega);have Fz:=I Bs;rw[Bs] at AW ⊢;generalize (w.alloc (.cells #[.pointer (some ⟨A,0,none⟩)] 102)).alloc (.cells #[.slice none 0 0] 33)=w1 at *;clear Bs;have bn:=bwA w1 (.cells #[.int .i64 (-1)] 3);have rb:=(RB.o.step bn).cell 0 _ rfl;have a4:=(AW.o _ (BW.o.trans (bn.mono (by have:=SZ.o;omega)))).cell 4 _ rfl;have n1:(w1.alloc (.cells #[.int .i64 (-1)] 3)).cell? ⟨w1.heap.size,0,none⟩=some (.int .i64 (-1)):=(aC.new w1 3 [.int .i64 (-1)]).cell 0 _ rfl;have JJ:=I (Zt0 _ (-1) w1.heap.size 0 1 nu n1 (by rw[eH];omega) hU);have JK:=I bn;clear bn n1
 go_wp2_with fail
 refine JJ.o.mono ?_;intro e w2 hq;obtain⟨⟨L,rfl,hL,hLl⟩,fH⟩:=hq;have Ul:=JK.tr fH;have LV:=I hL;have uh:Hid (s0+2<L):=I (by have h1:=SZ.o;rw[eH] at hLl;omega);clear rb a4 fH hL hLl JK JJ;have ab:=(AB.o.step Ul.o).cell 0 _ rfl;have af:=(AB.o.step Ul.o).warm 0
 go_upto_region 2 with(fail)
 clear ab af;have on:=(Only.refl w2 (· = s0+1)).setCell (a:=⟨s0+1,0,none⟩) (.slice (some ⟨L,0,none⟩) nu nu) rfl;have jg:=I ((AB.o.step Ul.o).set 0 (.slice (some ⟨L,0,none⟩) nu nu));simp only[List.set_cons_zero] at jg;have jh:=I ((RB.o.step Ul.o).only on (by omega));have ji:=I (LV.o.only on (fun e=>by have:=uh.o;omega));have B3:Hid (Below s0 w (w2.setCell ⟨s0+1,0,none⟩ (.slice (some ⟨L,0,none⟩) nu nu))):=I ((BW.o.trans (Ul.o.mono (by have:=SZ.o;omega))).setCell (by show s0<=s0+1;omega) _);clear on AB RB LV BW Ul SZ;generalize w2.setCell ⟨s0+1,0,none⟩ (.slice (some ⟨L,0,none⟩) nu nu)=w3 at *;have gW:=Zw0
 go_upto_region 3 with(fail)
 clear gW;obtain⟨GV,hGV⟩:=exq (w3.heap.size);rw[hGV];have Yj:=I hGV;obtain⟨w4,Gp⟩:∃ y,(w3.alloc (.cells er.toArray 188)).alloc (.cells #[.slice (some ⟨GV,0,none⟩) 16 16] 187)=y:=⟨_,rfl⟩
 have BA:Hid (Below GV w3 w4):=I (by
  rw[<- hGV,<- Gp]
  exact((aG _ _).alloc (aO _) _).alloc (by rw[eH];omega) _)
 have ui:Hid (w4.heap.size=GV+2):=I (by rw[<- Gp,eH,eH,hGV])
 have Yl:Hid (aC w4 (GV+1) 187 [.slice (some ⟨GV,0,none⟩) 16 16]):=I (by
  rw[<- Gp]
  exact aC.newAt _ _ _ _ (by rw[eH,hGV]))
 have JL:Hid (aC w4 GV 188 ((List.range 16).map (fun j=>if j<0 then Value.map (some 0) else .map none))):=I (by
  rw[<- Gp,<- hGV];have h1:=aC.new w3 188 er;have h2:=h1.step ((aG _ _).alloc (aO _) (.cells #[.slice (some ⟨w3.heap.size,0,none⟩) 16 16] 187))
  exact h2)
 rw[Gp];clear Gp;have JM:=I (jg.o.below BA.o (by rw[<- hGV];exact jg.o.lt));have JN:=I (jh.o.below BA.o (by rw[<- hGV];exact jh.o.lt));have JO:=I (ji.o.below BA.o (by rw[<- hGV];exact ji.o.lt));have B4:Hid (Below s0 w w4):=I (B3.o.trans (BA.o.mono (by have:=jh.o.lt;omega)));have Jt:Hid (s0+2<L/\L<GV):=I ⟨uh.o,by rw[<- hGV];exact ji.o.lt⟩;clear jg jh ji B3 BA uh Yj hGV;have gb:=Yl.o.cell 0 _ rfl
 go_wp2_with fail
 clear gb
 go_loopw [20] (fun iv wr=>∃ (i:Nat) (f:Nat->Nat),iv = .int .i64 i/\i<=16/\Hid (aC wr GV 188 ((List.range 16).map (fun j=>if j<i then Value.map (some (f j)) else .map none)))/\Hid (∀ j,j<i->pX wr (f j) 0 nm (fun _=>.slice none 0 0)/\GV+2<=f j)/\Hid (∀ j j',j<i->j'<i->j≠j'->f j≠f j')/\Hid (Only w4 wr (· = GV))) (fun k _=>(16-intOf k).toNat)
 case atStart=>exact⟨0,fun _=>0,rfl,by omega,JL,I (fun j hj=>absurd hj (jU j)),I (fun j j' hj=>absurd hj (jU j)),I (Only.refl _ _)⟩
 case round =>
  clear JL;obtain⟨i,f,rfl,hi,HV,HM,HF,HO⟩:=hrel;have e2:=w1i i (by omega);by_cases aT:i<16
  ·have kk:(i:Int)<16:=by omega
   have BM:=I (bwA wr (.map #[] 0));have gb:=(Yl.o.only HO.o (by omega)).cell 0 _ rfl;have E7:=((Yl.o.only HO.o (by omega)).step BM.o).cell 0 _ rfl;have gv:=(HV.o.step BM.o).cell i (.map none) (by rw[dK,List.getElem?_range aT];simp);have gf:=(HV.o.step BM.o).warm i;have qG:=@run_makeMap Tryz.prog
   go_upto_region 7 with(fail)
   clear qG gb E7 gv gf;have on:Only wr ((wr.alloc (.map #[] 0)).setCell ⟨GV,i,none⟩ (.map (some wr.heap.size))) (· = GV):=((Only.refl wr (· = GV)).step BM.o).setCell (a:=⟨GV,i,none⟩) (.map (some wr.heap.size)) rfl;have qJ:=I (HO.o.trans on);have oQ:Hid (GV+2<=wr.heap.size):=I (by have:=HO.o.size;rw[ui.o] at this;exact this)
   have fZ:Hid (aC ((wr.alloc (.map #[] 0)).setCell ⟨GV,i,none⟩ (.map (some wr.heap.size))) GV 188 ((List.range 16).map (fun j=>if j<i+1 then Value.map (some (aM f i wr.heap.size j)) else .map none))):=I (by
    have:=(HV.o.step BM.o).set i (.map (some wr.heap.size));rw[oe] at this
    have e:aM (fun j=>if j<i then Value.map (some (f j)) else .map none) i (.map (some wr.heap.size))=(fun j=>if j<i+1 then Value.map (some (aM f i wr.heap.size j)) else .map none):=by
     funext j
     by_cases e:j=i
     ·subst e;rw[cE,cE,if_pos (by omega)]
     ·rw[dA _ _ _ e,dA _ _ _ e]
      by_cases e2:j<i
      ·rw[if_pos e2,if_pos (by omega)]
      ·rw[if_neg e2,if_neg (by omega)]
    rw[e] at this
    exact this)
   have uS:Hid (∀ j,j<i+1->pX ((wr.alloc (.map #[] 0)).setCell ⟨GV,i,none⟩ (.map (some wr.heap.size))) (aM f i wr.heap.size j) 0 nm (fun _=>.slice none 0 0)/\GV+2<=aM f i wr.heap.size j):=I (fun j hj=>by
    by_cases e:j=i
    ·subst e
     rw[cE];exact⟨(pX.new wr nm).of_block (DK _ _ _ _ (by have:=oQ.o;show wr.heap.size≠GV;omega)),oQ.o⟩
    ·rw[dA _ _ _ e]
     have:=HM.o j (by omega)
     exact⟨this.1.of_block (on.block _ this.1.lt (by omega)),this.2⟩)
   have sO:Hid (∀ j j',j<i+1->j'<i+1->j≠j'->aM f i wr.heap.size j≠aM f i wr.heap.size j'):=I (fun j j' hj xG cT=>by
    by_cases e:j=i
    ·have e2:j'≠i:=fun e2=>cT (e.trans e2.symm)
     rw[e,cE,dA _ _ _ e2];have:=(HM.o j' (by omega)).1.lt;omega
    ·rw[dA _ _ _ e]
     by_cases e2:j'=i
     ·rw[e2,cE]
      have:=(HM.o j (by omega)).1.lt;omega
     ·rw[dA _ _ _ e2]
      exact HF.o j j' (by omega) (by omega) cT)
   clear on HO HV HM HF BM oQ;generalize (wr.alloc (.map #[] 0)).setCell ⟨GV,i,none⟩ (.map (some wr.heap.size))=wr2 at *
   go_wp2_with fail
   go_roundw
   case rel=>exact⟨i+1,aM f i wr.heap.size,by go_num,by omega,fZ,uS,sO,qJ⟩
   case measure=>simp only[intOf];omega
  ·have kk:¬ (i:Int)<16:=by omega
   obtain rfl:i=16:=by omega
   have uj:=I (JN.o.only HO.o (by have:=Jt.o;omega));have JP:=I (JM.o.only HO.o (by have:=Jt.o;omega));have JQ:=I (JO.o.only HO.o (by have:=Jt.o;omega));have JR:=I (Yl.o.only HO.o (by omega))
   have B5:Hid (Below s0 w wr):=I (by
    have:=B4.o;rw[<- Fz.o] at this ⊢
    exact Only.later this HO.o (fun g hg=>by have:=Jt.o;have:=Fz.o;omega))
   have oQ:Hid (GV+2<=wr.heap.size):=I (by have:=HO.o.size;rw[ui.o] at this;exact this)
   have JS:Hid (aC wr GV 188 ((List.range 16).map (fun j=>Value.map (some (f j))))):=I (by
    have:=HV.o;have e:(List.range 16).map (fun j=>if j<16 then Value.map (some (f j)) else .map none)=(List.range 16).map (fun j=>Value.map (some (f j))):=List.map_congr_left (fun j hj=>if_pos (List.mem_range.1 hj))
    rwa [e] at this)
   clear JN JM JO Yl B4 ui HV HO;have gW:=run_make_row' (P:=Tryz.prog) 87 4 (.bool false) 1 Tryz.underlying87 Kx rfl .i64 .i64 nm (by omega) (by omega);rw[Vv] at gW;have rb:=uj.o.cell 0 _ rfl;have a1:=(AW.o wr B5.o).cell 1 _ rfl
   go_upto_region 11 with(fail)
   clear gW rb a1;obtain⟨Qp,Um⟩:=PlcW.start Fz.o Jt.o oQ.o B5.o uj.o JP.o JQ.o JR.o JS.o HM.o HF.o;obtain⟨b,hb⟩:∃ b:PlcB,⟨wr.heap.size+2,s0,wr.heap.size+1,wr.heap.size,GV+1,GV,s0+1,L,wr.heap.size+3,A,f⟩=b:=⟨_,rfl⟩;obtain⟨B,hB⟩:=exq (wr.heap.size+4);rw[hB] at Qp Um;rw[hb] at Qp Um
   have q3:wr.heap.size+1+1+1=b.PB:=by rw[<- hb]
   have q2:wr.heap.size+1+1=b.R:=by rw[<- hb]
   have q1:wr.heap.size+1=b.T:=by rw[<- hb]
   have q0:wr.heap.size=b.TV:=by rw[<- hb]
   have q4:GV+1=b.GB:=by rw[<- hb]
   have q5:GV=b.GV:=by rw[<- hb]
   have q6:s0+1=b.AB:=by rw[<- hb]
   have q7:s0=b.RB:=by rw[<- hb]
   have q8:L=b.AV:=by rw[<- hb]
   have q9:A=b.A:=by rw[<- hb]
   have um:wr.heap.size+3=b.PB:=by rw[<- hb]
   rw[q3,q2,q1];obtain⟨x4,jk⟩:∃ x,(((wr.alloc (.cells (bvs (List.replicate nm false)).toArray 4)).alloc (.cells #[.slice (some ⟨wr.heap.size,0,none⟩) nm nm] 87)).alloc (.cells #[.slice none 0 0] 33)).alloc (.cells #[.nilFunc] 114)=x:=⟨_,rfl⟩
   have pv:aC x4 b.PB 114 [.nilFunc]:=by
    rw[<- jk,<- um];exact aC.newAt _ _ _ _ (by rw[eH,eH,eH])
   have pc:=pv.cell 0 _ rfl;have pw:=pv.warm 0;rw[jk,um] at Um;rw[jk,q0,q4,q5,q6,q7,q8,q9];unfold PlcB.ptrs at Um;have HD:=I Qp;have W0:=I Um;have lB:Hid (b.PB≠b.PB->False):=I (fun h=>h rfl);have jl:Hid (b.RB=w.heap.size):=I (by rw[<- hb];exact Fz.o.symm);have Mk:Hid (A=b.A):=I q9;have Jm:=I (fun W (hW:Below w.heap.size w W)=>AW.o W (by rw[Fz.o] at hW;exact hW));rw[q9] at Jm;clear Qp Um uj JP JQ JR JS HM HF Jt B5 q0 q1 q2 q3 q4 q5 q6 q7 q8 q9 um hb hB jk pv AW oQ
   have up:∀ (fn:Fn) (a b:Array Value) (p:Addr) (m:Mode) (w:World),(store p (.func fn a b) m).run Tryz.prog w=stored Tryz.prog w p (.func fn a b) m:=fun fn a b p m w=>run_store Tryz.prog w p _ m rfl
   go_upto_region 12 with(fail)
   clear pc pw up;generalize x4.setCell ⟨b.PB,0,none⟩ (.func (.func 168) #[] #[.pointer (some ⟨b.R,0,none⟩),.pointer (some ⟨b.RB,0,none⟩),.pointer (some ⟨b.T,0,none⟩),.pointer (some ⟨b.GB,0,none⟩),.pointer (some ⟨b.AB,0,none⟩),.pointer (some ⟨b.PB,0,none⟩)])=w6 at *;have yA:Hid (∀ f,og w B b (aR c C) f):=I (gO.o B b HD.o (by rw[<- Mk.o];exact HR.o) cV.o);clear gO HR cV;obtain⟨T,hT⟩:=exq (aR c C);have HT:=I hT;rw[hT] at yA mF wJ Yk;clear hT;have rb:=W0.o.rbox.cell 0 _ rfl;have a4:=(Jm.o w6 W0.o.below).cell 4 _ rfl
   go_wp2_with fail
   clear rb a4;have Gg:Hid (sD T (nu-0) 0 tG=sD T T.U 0 tG):=I (by rw[mF.o];rfl);have W0':Hid (PlcW w w6 B b nu nm tG.G tG.a (fun _=>false) [] 0 (fun _ _=>none) (fun _ _=>0) none 0):=I W0.o
   go_loopw [41] (fun iv wr=>∃ (k:Nat) (s:Mst) (n:Nat) (ad:Nat->Nat->Option Addr) (cp:Nat->Nat->Nat) (ro:Option Addr) (rc:Nat) (r:List Nat) (t:Nat->Bool),iv = .int .i64 k/\k<=nu/\n<=k/\Hid (sD T (nu-k) k s=sD T T.U 0 tG)/\Hid (MstOk T k s)/\Hid (PlcW w wr B b nu nm s.G s.a t r n ad cp ro rc)) (fun k _=>(nu-intOf k).toNat)
   case atStart=>exact⟨0,tG,0,_,_,_,_,_,_,rfl,by omega,aO _,Gg,I (CL T),W0'⟩
   case round =>
    clear W0 W0' Gg;obtain⟨k,s,n,ad,cp,ro,rc,r,t,rfl,hk,hn,HE,HS,W1⟩:=hrel;have e3:=w1i k (by omega);by_cases bT:k<nu
    ·have kk:(k:Int)<nu:=by omega
     have tb:=W1.o.tbox.cell 0 _ rfl;have dW:=Zqm wr 0 b.TV nm nm _ W1.o.tv (by simp[bvs])
     go_upto_region 16 with(fail)
     clear tb dW;have W2:=I (W1.o.clearT HD.o);clear W1;generalize wr.setCells b.TV 0 (bvs (List.replicate nm false))=w7 at *;have q0:=W2.o.reach.cell 0 _ rfl;have qf:=W2.o.reach.warm 0
     go_upto_region 17 with(fail)
     clear q0 qf;have W3:=I (W2.o.clearR HD.o);clear W2;generalize w7.setCell ⟨b.R,0,none⟩ (.slice none 0 0)=w8 at *
     have sU:Hid (Calls Tryz.prog 168 #[.int .i64 k,.pointer (some ⟨b.R,0,none⟩),.pointer (some ⟨b.RB,0,none⟩),.pointer (some ⟨b.T,0,none⟩),.pointer (some ⟨b.GB,0,none⟩),.pointer (some ⟨b.AB,0,none⟩),.pointer (some ⟨b.PB,0,none⟩)] w8 fun e w'=>EV w w' B b nu nm s.G (T.win k) n ad cp (fun _=>false) (Hg T k s) e):=I (by
      have key:=yA.o T.M (T.win k) k ⟨s.G (T.win k),s.a,fun _=>false,[]⟩ w8 s.G n ad cp none 0 (Yk.o k bT) rfl (by rw[mF.o];exact bT) (HS.o.call (by rw[mF.o];exact bT)) (CK _ _ _ _) (fun v hv=>by cases hv) (by omega);rw[mF.o,wJ.o,Z2h] at key;have key:=key W3.o;unfold Hg;rw[wJ.o]
      exact key)
     have pb:=W3.o.pbox.cell 0 _ rfl;unfold PlcB.ptrs at pb;clear yA W3
     go_wp2_with fail
     refine sU.o.mono ?_;intro e w9 hq;clear pb sU;obtain⟨n4,uq,ur,Ym,Yn,rfl,W4,zD,-⟩:=hq;have W4:=I W4
     have iY:Hid (sD T (nu-k) k s=match Hg T k s with | (true,p)=>sD T (nu-(k+1)) (k+1) ⟨aM s.G (T.win k) p.g,p.a⟩ | (false,p)=>.error p.r):=I (by
      obtain⟨m,hm⟩:∃ m,nu-k=m+1:=⟨nu-(k+1),by omega⟩
      have kN:nu-(k+1)=m:=by omega
      rw[hm,kN]
      rfl)
     cases ut:Hg T k s with
     | mk b3 p =>
      rw[ut] at W4 iY zD;have JT:=I ut;clear ut
      cases b3 with
      | true =>
       have zD:n4<=n+1:=by simpa using zD
       have W4':Hid (PlcW w w9 B b nu nm (aM s.G (T.win k) p.g) p.a p.t p.r n4 uq ur Ym Yn):=I W4.o;have Ji:Hid (sD T (nu-(k+1)) (k+1) ⟨aM s.G (T.win k) p.g,p.a⟩=sD T T.U 0 tG):=I (by rw[<- HE.o,iY.o]);have Gk:=I (HS.o.next (by rw[mF.o];exact bT) JT.o);clear W4 iY HE HS
       go_wp2_with fail
       go_roundw
       case rel=>exact⟨k+1,⟨aM s.G (T.win k) p.g,p.a⟩,n4,uq,ur,Ym,Yn,p.r,p.t,by go_num,by omega,by omega,Ji,Gk,W4'⟩
       case measure=>simp only[intOf];omega
      | false =>
       have W4':Hid (PlcW w w9 B b nu nm (aM s.G (T.win k) p.g) p.a p.t p.r n4 uq ur Ym Yn):=I W4.o;have Ji:Hid (sD T T.U 0 tG = .error p.r):=I (by rw[<- HE.o,iY.o]);obtain⟨Bn,uH⟩:=HS.o.short (by rw[mF.o];exact bT) JT.o;have aQ:p.r.length<=nu:=XQ (U:=nu) Bn.nodup (fun v hv=>by rw[<- mF.o];exact(Bn.win v hv).1);have bD:=W4'.o.rown
       obtain⟨g,off,uN⟩:∃ g off,Ym=some ⟨g,off,none⟩:=by
        cases Ym with
        | none =>
         cases bD with | nil h1 h2 h3 =>
         rw[List.map_eq_nil_iff.1 h1] at uH;cases uH
        | some a =>
         cases bD with
         | «at» g off h1 h2 h3 h4=>exact⟨g,off,rfl⟩
       subst uN;rw[ox] at bD;have hgB:=bD.blk_lt (g:=g) rfl;have xW:=I hgB;have JU:=I (Zwe w9 B p.r.length Yn g off (p.r.map Int.ofNat) (by rw[eB]) bD (by omega));have q0:=W4'.o.reach.cell 0 _ rfl;clear W4 iY HE HS Bn uH bD hgB
       go_wp2_with fail
       refine JU.o.mono ?_;rintro e Ml ⟨rfl,Yo,Yp⟩;have Yq:=I Yo;have ON:=I Yp;clear q0 JU Yo Yp;have q0:=(W4'.o.reach.only ON.o (by have:=HD.o.range b.R (by simp);have:=xW.o.1;omega)).cell 0 _ rfl;have ab:=(W4'.o.abox.only ON.o (by have:=HD.o.range b.AB (by simp);have:=xW.o.1;omega)).cell 0 _ rfl;have af:=(W4'.o.abox.only ON.o (by have:=HD.o.range b.AB (by simp);have:=xW.o.1;omega)).warm 0;have on:=(Only.refl Ml (· = b.AB)).setCell (a:=⟨b.AB,0,none⟩) (.slice none 0 0) rfl;have q1:=((W4'.o.reach.only ON.o (by have:=HD.o.range b.R (by simp);have:=xW.o.1;omega)).only on (HD.o.r b.AB (by simp)).symm).cell 0 _ rfl
       go_wp2_with fail
       go_region
       go_wp2_with fail
       have hA:aC Ml b.AB 33 [.slice (some ⟨b.AV,0,none⟩) nu nu]:=W4'.o.abox.only ON.o (by have:=HD.o.range b.AB (by simp);have:=xW.o.1;omega);have bd:=(aG (Ml.setCell ⟨b.AB,0,none⟩ (.slice none 0 0)).heap.size (Ml.setCell ⟨b.AB,0,none⟩ (.slice none 0 0))).drew;have hc:=((hA.set 0 (.slice none 0 0)).step bd).cell 0 _ rfl;refine bodyPost_ret (XZ (by kernel_rfl) _ _ b.AB _ _ rfl rfl hc) rfl ?_;unfold ow;rw[HT.o,Ji.o]
       have hBw:w.heap.size<=B:=by have:=HD.o.range b.AB (by simp);omega
       have ho:=(Yq.o.of_block (fun g' e hl=>on.block g' hl (fun e2=>by have:=(Yq.o.blk_lt e).1;have:=HD.o.range b.AB (by simp);omega)) on.size).below bd;exact⟨Only.later (Only.later W4'.o.below ON.o (fun g' hg=>by rw[hg];have:=xW.o.1;omega)) (on.step bd) (fun g hg=>by rw[hg];exact(HD.o.range b.AB (by simp)).1),g,off,Yn,rfl,ho.low hBw⟩
    ·have kk:¬ (k:Int)<nu:=by omega
     obtain rfl:nu=k:=by omega
     have ab:=W1.o.abox.cell 0 _ rfl;have af:=W1.o.abox.warm 0
     go_wp2_with fail
     have on:=(Only.refl wr (· = b.AB)).setCell (a:=⟨b.AB,0,none⟩) (.slice (some ⟨b.AV,0,none⟩) nu nu) rfl;have hc:=(W1.o.abox.set 0 (.slice (some ⟨b.AV,0,none⟩) nu nu)).cell 0 _ rfl
     have yZ:sD T T.U 0 tG = .ok s:=by rw[<- HE.o,Nat.sub_self];rfl
     refine bodyPost_ret (XZ (by kernel_rfl) _ _ b.AB _ _ rfl rfl hc) rfl ?_;unfold ow;rw[HT.o,yZ,mF.o];exact⟨Only.later W1.o.below on (fun g hg=>by rw[hg];exact(HD.o.range b.AB (by simp)).1),b.AV,rfl,W1.o.av.only on (fun e=>HD.o.av b.AB (by simp) e.symm),(HD.o.range b.AV (by simp)).1⟩
end
section
open Go.RowKit Go.Sort Go.Maps
theorem Zo0(w:World)(a:Option Addr)(n c:Nat):(binOp .eql 33 (.slice a n c) (.slice none 0 0)).run Tryz.prog w = .ok (.bool a.isNone) w:=Lib.run_eql_slice_nil w 33 3 a n c 0 0 Tryz.underlying33
theorem EW(w:World)(A:Nat)(c:Crw)(H C:List (List Bool))(hr:fG w A c H C)(aJ:ReckOk c C) :
  Calls Tryz.prog 142 #[.pointer (some ⟨A,0,none⟩)] w fun e w'=>e = .returned (.bool (gD (aR c C)))/\Below w.heap.size w w':=by
 have HM:=I (Zw1 w A c H C hr aJ);obtain⟨T,hT⟩:=exq (aR c C);rw[hT] at HM ⊢;clear hr aJ hT;have HF:Hid (gD T=match sD T T.U 0 tG with | .ok _=>true | .error _=>false):=I rfl;generalize gD T=fb at *;have hq:=Zo0
 go_enter Tryz.func142,Tryz.ntmps142
 go_wp2_with fail
 refine HM.o.mono ?_;intro e w' JV;unfold ow at JV;obtain⟨hb,aN⟩:=JV;have HB:=I hb;clear hb HM
 cases hm:sD T T.U 0 tG with
 | ok s =>
  rw[hm] at aN HF;obtain⟨AV,rfl,-,-⟩:=aN;have wM:fb=true:=HF.o;subst wM;clear HF hm
  go_wp2_with fail
  go_ret;exact⟨rfl,HB.o⟩
 | error r =>
  rw[hm] at aN HF;obtain⟨g,off,cap,rfl,-⟩:=aN;have wM:fb=false:=HF.o;subst wM;clear HF hm
  go_wp2_with fail
  go_ret;exact⟨rfl,HB.o⟩
theorem EX(c:Crw)(C:List (List Bool))(u m:Nat):(bV c C u m).length=C.length:=by unfold bV;rw[List.length_set]
theorem ReckOk.fix{c:Crw}{C:List (List Bool)}(h:ReckOk c C)(u m:Nat):ReckOk c (bV c C u m) :=
 ⟨by rw[EX];exact h.len,fun r hr=>by
  unfold bV at hr;rcases List.mem_or_eq_of_mem_set hr with h1 | h1
  ·exact h.row r h1
  ·rw[h1,List.length_set,List.length_replicate],h.win,h.tic,h.nm,h.nu⟩
def lJ(c:Crw)(C:List (List Bool))(u m:Nat):Bool:=(aR c C).can u m&&gD (aR c (bV c C u m))
def iN(c:Crw)(C:List (List Bool))(u:Nat):List Nat:=(List.range c.ms.length).filter (lJ c C u)
end
section
open Go.RowKit Go.Sort Go.Maps
theorem We(p:Nat->Bool)(k:Nat):(List.range (k+1)).filter p=if p k=true then(List.range k).filter p++[k] else(List.range k).filter p:=by
 rw[List.range_succ,List.filter_append];by_cases e:p k=true
 ·rw[if_pos e,List.filter_cons_of_pos e];rfl
 ·rw[if_neg e,List.filter_cons_of_neg e];simp
theorem Ta(p:Nat->Bool)(k:Nat):((List.range k).filter p).length<=k:=by
 have:=List.length_filter_le p (List.range k)
 rwa [List.length_range] at this
theorem oy(w:World)(A:Nat)(c:Crw)(H C:List (List Bool))(u:Nat)(hr:fG w A c H C)(aJ:ReckOk c C)(hu:u<c.us.length) :
  Calls Tryz.prog 86 #[.pointer (some ⟨A,0,none⟩),.int .i64 u] w fun e w'=>(∃ o cap,e = .returned (.slice o (iN c C u).length cap)/\OwnK w' w.heap.size 1 (iN c C u).length cap (bE (iN c C u)) o)/\Below w.heap.size w w':=by
 have HR:=I hr;have cV:=I aJ;have hM:=aJ.nm;have hU:=aJ.nu;obtain⟨qo,mo,uo,ho,co,qc,mc,uc,hc,cc,hA,hR,-⟩:=hr;obtain⟨ru,fJ⟩:∃ y,C[u]?=some y:=⟨_,aL (by rw[aJ.len];exact hu)⟩;have eX:Hid (ru.length=c.ms.length):=I (aJ.row ru (bU fJ))
 have vA:Hid (∀ k,(aR c C).can u k=ru.getD k false):=I (fun k=>by
  show(C.getD u []).getD k false=_
  rw[bR (l:=C),fJ];rfl)
 have ha:=hA.cell 4 _ rfl;obtain⟨gc,oc,bo,bc,iE,mU,fS,iA⟩:=hR.c.at u ru fJ;have mV:=I (fun W (hW:Below w.heap.size w W)=>iA.below hW);rw[eX.o] at fS
 have jH:Hid (∀ k,k<c.ms.length->∀ W,Below w.heap.size w W->Calls Tryz.prog 84 #[.pointer (some ⟨A,0,none⟩),.int .i64 u,.int .i64 k] W fun e w'=>∃ X,e = .returned (.pointer (some ⟨X,0,none⟩))/\fG w' X c H (bV c C u k)/\W.heap.size<=X/\Below W.heap.size W w'):=I (fun k hk W hW =>
  EQ W A c H C u k (HR.o.below hW) (by rw[aJ.len];exact hu) hk aJ.row (by rw[aJ.len];omega) (by omega))
 have Ct:Hid (∀ k W X,fG W X c H (bV c C u k)->Calls Tryz.prog 142 #[.pointer (some ⟨X,0,none⟩)] W fun e w'=>e = .returned (.bool (gD (aR c (bV c C u k))))/\Below W.heap.size W w'):=I (fun k W X hX=>EW W X c H (bV c C u k) hX (aJ.fix u k))
 have uu:(u:Int)<C.length:=by rw[aJ.len];omega
 have lB:Hid (∀ k,lJ c C u k=(ru.getD k false&&gD (aR c (bV c C u k)))):=I (fun k=>by unfold lJ;rw[vA.o]);have Lu:Hid (iN c C u=(List.range c.ms.length).filter (lJ c C u)):=I rfl;clear hA hR iA fJ aJ cV vA;subst iE;generalize iN c C u=PF at *;generalize lJ c C u=pb at *;generalize cY:c.ms.length=nm at *;generalize c.us.length=nu at *;generalize C.length=nc at *;have fW:=I cY;clear cY
 go_enter Tryz.func86,Tryz.ntmps86
 go_wp2_with fail
 clear ha fS
 go_loopw [15,4] (fun kv ov wr=>∃ (k:Nat) (n:Nat) (o:Option Addr) (cap:Nat),kv = .int .i64 k/\ov = .slice o n cap/\k<=nm/\n<=k/\Hid (((List.range k).filter pb).length=n)/\Hid (OwnK wr w.heap.size 1 n cap (bE ((List.range k).filter pb)) o)/\Hid (Below w.heap.size w wr)) (fun k _ _=>(nm-intOf k).toNat)
 case atStart=>exact⟨0,0,none,0,rfl,rfl,by omega,aO _,I rfl,I (.nil rfl rfl rfl),I (aG _ _)⟩
 case round =>
  obtain⟨k,n,o,cap,rfl,rfl,hk,hn,HN,HO,HB⟩:=hrel;have e2:=w1i k (by omega);by_cases bT:k<nm
  ·have kk:(k:Int)<nm:=by omega
   obtain⟨gb,ob,dE,iR⟩:=(mV.o wr HB.o).bool k (by rw[eX.o];exact bT);subst dE;have gH:=lB.o k;obtain⟨bk,mC⟩:=exq (ru.getD k false);rw[mC] at iR gH;have gH:=I gH;clear mC;have dY:=I (We pb k)
   cases bk with
   | false =>
    have fC:Hid (pb k=false):=I (by rw[gH.o];rfl);clear gH
    go_wp2_with fail
    clear iR;go_roundw
    case rel=>exact⟨k+1,n,o,cap,by go_num,rfl,by omega,by omega,I (by rw[dY.o,fC.o];exact HN.o),I (by rw[dY.o,fC.o];exact HO.o),HB⟩
    case measure=>simp only[intOf];omega
   | true =>
    have rV:=I (jH.o k bT wr HB.o);obtain⟨fk,lZ⟩:=exq (gD (aR c (bV c C u k)));have pG:Hid (∀ W X,fG W X c H (bV c C u k)->Calls Tryz.prog 142 #[.pointer (some ⟨X,0,none⟩)] W fun e w'=>e = .returned (.bool fk)/\Below W.heap.size W w'):=I (fun W X hX=>by rw[<- lZ];exact Ct.o k W X hX);have fC:Hid (pb k=fk):=I (by rw[gH.o,lZ];rfl);clear gH lZ
    go_wp2_with fail
    refine rV.o.mono ?_;clear rV;intro e w2 hq;obtain⟨X,rfl,hX,-,fH⟩:=hq;have qI:=I fH;have zE:=I (pG.o w2 X hX);clear hX fH pG
    go_wp2_with fail
    refine zE.o.mono ?_;clear zE;rintro e w3 ⟨rfl,lL⟩;have B3:=I (HB.o.trans ((qI.o.trans (lL.mono qI.o.size)).mono HB.o.size));have O3:=I (HO.o.below (qI.o.trans (lL.mono qI.o.size)));clear lL qI iR
    cases fk with
    | false =>
     go_wp2_with fail
     go_roundw
     case rel=>exact⟨k+1,n,o,cap,by go_num,rfl,by omega,by omega,I (by rw[dY.o,fC.o];exact HN.o),I (by rw[dY.o,fC.o];exact O3.o),B3⟩
     case measure=>simp only[intOf];omega
    | true =>
     go_upto_region 6 with(at_builtin;refine jM 33 3 (.int .i64 0) 1 8 Tryz.underlying33 sE rfl (by omega) (by omega) w3 w.heap.size rfl (.tmp 28) (.tmp 30) rfl o cap n (bE ((List.range k).filter pb)) ?q1 O3.o B3.o.size 1 1 #[.int .i64 (k:Int)] 3 ?q2 rfl (by omega) ?q3 ?q4 ?_;(case q1=>rfl);(case q2=>rfl);(case q3=>simp[Value.oneCell']);(case q4=>omega);intro g5 off5 c5 wa o8 aX b8 bW;have O8:=I o8;have B8:=I (B3.o.trans b8);clear o8 aX b8 bW)
     go_wp2_with fail
     go_roundw
     case rel=>exact⟨k+1,n+1,_,_,by go_num,rfl,by omega,by omega,I (by rw[dY.o,fC.o,if_pos rfl,gL,HN.o];rfl),I (by rw[dY.o,fC.o,if_pos rfl,<- Hs];exact O8.o),B8⟩
     case measure=>simp only[intOf];omega
  ·have kk:¬ (k:Int)<nm:=by omega
   obtain rfl:nm=k:=by omega
   go_wp2_with fail
   go_ret;rw[Lu.o];exact⟨⟨o,cap,by rw[HN.o];rfl,by rw[HN.o];exact HO.o⟩,HB.o⟩
end
section
open Go.RowKit Go.Sort Go.Maps
def xA(c:Crw)(C:List (List Bool))(u:Nat):Option Nat:=(List.range c.ms.length).find? (lJ c C u)
def fO(c:Crw):Nat->Nat->List (List Bool)->List Nat->List Nat
 | 0,_,_,out=>out
 | n+1,u,C,out=>match xA c C u with
  | some m=>fO c n (u+1) (bV c C u m) (out++[m])
  | none=>fO c n (u+1) C out
theorem OwnK.empty(w:World)(B:Nat)(T:TypeId)(hB:B<=w.heap.size):OwnK (w.alloc (.cells #[] T)) B 1 0 0 [] (some ⟨w.heap.size,0,none⟩) :=
 .at _ _ ⟨hB,by rw[eH];omega,by simp,fun j v hj=>by simp at hj,fun j hj=>by omega,fun j hj=>by omega⟩ rfl (Nat.zero_le _) (aO _)
theorem Wh{w w':World}{row:Option Nat}(h:w.grownBy w' row):Only w w' (fun g=>row=some g):=⟨h.os,h.tape,h.output,h.size,fun i hi hp=>h.block i hi (fun e=>hp e.symm)⟩
def vS(w:World)(c:Crw)(C:List (List Bool))(e:Ending)(w':World):Prop:=Below w.heap.size w w' /\
 if gD (aR c C)=true then ∃ o cap,e = .returned (.tuple #[.slice o (fO c c.us.length 0 C []).length cap,.bool true])/\OwnK w' w.heap.size 1 (fO c c.us.length 0 C []).length cap (bE (fO c c.us.length 0 C [])) o
 else e = .returned (.tuple #[.slice none 0 0,.bool false])
theorem YA(w:World)(A:Nat)(c:Crw)(H C:List (List Bool))(hr:fG w A c H C)(aJ:ReckOk c C) :
  Calls Tryz.prog 85 #[.pointer (some ⟨A,0,none⟩)] w fun e w'=>vS w c C e w':=by
 have hM:=aJ.nm;have hU:=aJ.nu;have HR:=I hr;have cV:=I aJ;have HF:=I (EW w A c H C hr aJ)
 have jH:Hid (∀ X C' Q u k W,oO W Q X c H C'->(∀ g,Q g->g<W.heap.size)->ReckOk c C'->u<c.us.length->k<c.ms.length->Calls Tryz.prog 84 #[.pointer (some ⟨X,0,none⟩),.int .i64 u,.int .i64 k] W fun e w'=>∃ X,e = .returned (.pointer (some ⟨X,0,none⟩))/\oO w' Q X c H (bV c C' u k)/\W.heap.size<=X/\Below W.heap.size W w'):=I (fun X C' Q u k W h1 hq h2 hu hk =>
  Zz5 W Q X c H C' u k h1 hq (by rw[h2.len];exact hu) hk h2.row (by rw[h2.len];omega) (by omega))
 have Ct:Hid (∀ X C' W,fG W X c H C'->ReckOk c C'->Calls Tryz.prog 142 #[.pointer (some ⟨X,0,none⟩)] W fun e w'=>e = .returned (.bool (gD (aR c C')))/\Below W.heap.size W w'):=I (fun X C' W hX h2=>EW W X c H C' hX h2)
 have HQ:Hid (∀ fb,gD (aR c C)=fb->∀ e w',vS w c C e w'↔Below w.heap.size w w'/\if fb=true then ∃ o cap,e = .returned (.tuple #[.slice o (fO c c.us.length 0 C []).length cap,.bool true])/\OwnK w' w.heap.size 1 (fO c c.us.length 0 C []).length cap (bE (fO c c.us.length 0 C [])) o else e = .returned (.tuple #[.slice none 0 0,.bool false])):=I (fun fb h e w'=>by
  unfold vS
  rw[h])
 have sV:Hid (∀ X C' u W,fG W X c H C'->ReckOk c C'->u<c.us.length->∃ gc oc cc bo bc ru,W.cell? ⟨X,4,none⟩=some (.slice (some ⟨gc,oc,none⟩) c.us.length cc)/\W.cell? ⟨gc,oc+u,none⟩=some (.slice bo c.ms.length bc)/\aY lO W bo ru/\ru.length=c.ms.length/\∀ k,(aR c C').can u k=ru.getD k false):=I (fun X C' u W h1 h2 hu=>by
  obtain⟨qo,mo,uo,ho,co,qc,mc,uc,hc,cc,hA,hR,-⟩:=h1;obtain⟨ru,fJ⟩:∃ y,C'[u]?=some y:=⟨_,aL (by rw[h2.len];exact hu)⟩;have gC:=h2.row ru (bU fJ);have ha:=hA.cell 4 _ rfl;obtain⟨gc,oc,bo,bc,iE,mU,fS,iA⟩:=hR.c.at u ru fJ;rw[iE,h2.len] at ha;rw[gC] at fS
  exact⟨gc,oc,cc,bo,bc,ru,ha,fS,iA,gC,fun k=>by
   show(C'.getD u []).getD k false=_
   rw[bR (l:=C'),fJ];rfl⟩)
 have H4:Hid (∀ W,Below w.heap.size w W->∃ co cc,W.cell? ⟨A,4,none⟩=some (.slice co c.us.length cc)):=I (fun W hW=>by
  obtain⟨qo,mo,uo,ho,co,qc,mc,uc,hc,cc,hA,hR,-⟩:=HR.o.below hW;have:=hA.cell 4 _ rfl;rw[aJ.len] at this
  exact⟨co,cc,this⟩)
 clear aJ hr;obtain⟨fb,wM⟩:=exq (gD (aR c C));rw[wM] at HF;have HQ:=I (HQ.o fb wM);clear wM
 have bQ:Hid (∀ n u C' out m,lJ c C' u m=true->m<c.ms.length->(∀ j,j<m->lJ c C' u j=false)->fO c (n+1) u C' out=fO c n (u+1) (bV c C' u m) (out++[m])):=I (fun n u C' out m h1 h2 h3=>by
  have:xA c C' u=some m:=by
   unfold xA;rw[List.find?_range_eq_some];exact⟨h1,List.mem_range.2 h2,fun j hj=>by rw[h3 j hj];rfl⟩
  show(match xA c C' u with | some m=>_ | none=>_)=_
  rw[this])
 have zF:Hid (∀ n u C' out,(∀ j,j<c.ms.length->lJ c C' u j=false)->fO c (n+1) u C' out=fO c n (u+1) C' out):=I (fun n u C' out h=>by
  have:xA c C' u=none:=by
   unfold xA;rw[List.find?_range_eq_none]
   exact fun j hj=>by rw[h j hj];rfl
  show(match xA c C' u with | some m=>_ | none=>_)=_
  rw[this])
 obtain⟨cX,hRES⟩:=exq (fO c c.us.length 0 C []);rw[hRES] at HQ;have yZ:=I hRES;clear hRES;generalize cY:c.ms.length=nm at *;generalize dH:c.us.length=nu at *;have fW:=I cY;clear cY dH
 go_enter Tryz.func85,Tryz.ntmps85
 go_wp2_with fail
 refine HF.o.mono ?_;rintro e w1 ⟨rfl,kO⟩;have B1:=I kO;clear kO HF
 cases fb with
 | false =>
  go_wp2_with fail
  go_ret2
  rw[HQ.o];exact⟨B1.o,rfl⟩
 | true =>
  have Bu:Hid (∀ e w',Below w.heap.size w w'->(∃ o cap,e = .returned (.tuple #[.slice o cX.length cap,.bool true])/\OwnK w' w.heap.size 1 cX.length cap (bE cX) o)->vS w c C e w'):=I (fun e w' h1 h2=>(HQ.o e w').2 ⟨h1,by rw[if_pos rfl];exact h2⟩)
  go_upto_region 4 with(fail)
  have B2:=I (B1.o.alloc B1.o.size (.cells #[] 3));have O2:=I (OwnK.empty w1 w.heap.size 3 B1.o.size);generalize w1.alloc (.cells #[] 3)=w2 at *;obtain⟨co,cc,a4⟩:=H4.o w2 B2.o;have lS:Hid (oO w2 (fun g=>blk (some ⟨w1.heap.size,0,none⟩)=some g) A c H C):=I (HR.o.free B2.o (fun g h=>by have h1:w1.heap.size=g:=bF h;have:=B1.o.size;omega))
  go_wp2_with fail
  clear a4 H4 HR;have Gg:Hid (fO c (nu-0) 0 C []=cX):=I yZ.o
  go_loopw [18,4,0] (fun kv ov xv wr=>∃ (u n:Nat) (o:Option Addr) (cap X:Nat) (C':List (List Bool)) (out:List Nat),kv = .int .i64 u/\ov = .slice o n cap/\xv = .pointer (some ⟨X,0,none⟩)/\u<=nu/\n<=u/\Hid (out.length=n)/\Hid (OwnK wr w.heap.size 1 n cap (bE out) o)/\Hid (Below w.heap.size w wr)/\Hid (oO wr (fun g=>blk o=some g) X c H C')/\Hid (ReckOk c C')/\Hid (fO c (nu-u) u C' out=cX)) (fun k _ _ _=>(nu-intOf k).toNat)
  case atStart=>exact⟨0,0,_,0,A,C,[],rfl,rfl,rfl,by omega,aO _,I rfl,O2,B2,lS,cV,Gg⟩
  case round =>
   clear O2 B2 lS cV Gg;obtain⟨u,n,o,cap,X,C',out,rfl,rfl,rfl,hu,hn,HN,HO,HB,HX,jm,HE⟩:=hrel;have e2:=w1i u (by omega);by_cases gV:u<nu
   ·have kk:(u:Int)<nu:=by omega
    obtain⟨gc,oc,cc',bo,bc,ru,x4,xr,iA,gC,iS⟩:=sV.o X C' u wr HX.o.reck jm.o gV;have mV:=I (fun W (hW:Below wr.heap.size wr W)=>iA.below hW);have eX:=I gC;have lB:Hid (∀ k,lJ c C' u k=(ru.getD k false&&gD (aR c (bV c C' u k)))):=I (fun k=>by unfold lJ;rw[iS]);obtain⟨rest,sW⟩:∃ y,nu-u=y+1:=⟨nu-(u+1),by omega⟩
    have nZ:nu-(u+1)=rest:=by omega
    have sX:=I nZ;rw[sW] at HE;clear iA gC iS sW nZ
    go_wp2_with fail
    clear x4 xr;have Yr:=I (aG wr.heap.size wr);obtain⟨wz,Gq⟩:=exq (wr);have Gr:=I Gq;rw[Gq] at mV Yr HX HO HB;clear Gq
    go_loopw [29,4,0] (fun kv ov xv ws=>∃ (k:Nat),kv = .int .i64 k/\ov = .slice o n cap/\xv = .pointer (some ⟨X,0,none⟩)/\k<=nm/\Hid (∀ j,j<k->lJ c C' u j=false)/\Hid (Below wz.heap.size wz ws)) (fun k _ _ _=>(nm-intOf k).toNat)
    case atStart=>exact⟨0,rfl,rfl,rfl,by omega,I (fun j hj=>absurd hj (jU j)),I (by rw[Gr.o];exact aG _ _)⟩
    case round =>
     obtain⟨k,rfl,rfl,rfl,hk,HJ,kP⟩:=hrel;have e3:=w1i k (by omega);by_cases bT:k<nm
     ·have E9:(k:Int)<nm:=by omega
      obtain⟨gb,ob,dE,iR⟩:=(mV.o wr kP.o).bool k (by rw[eX.o];exact bT);subst dE;have gH:=lB.o k;obtain⟨bk,mC⟩:=exq (ru.getD k false);rw[mC] at iR gH;have gH:=I gH;clear mC;have HXs:Hid (oO wr (fun g=>blk o=some g) X c H C'):=I (HX.o.only (Only.of_below kP.o) (fun g _ h=>h));have HOs:=I (HO.o.below kP.o)
      cases bk with
      | false =>
       have sQ:Hid (∀ j,j<k+1->lJ c C' u j=false):=I (fun j hj=>by
        rcases gQ j k with h | h
        ·exact HJ.o j h
        ·obtain rfl:j=k:=by omega
         rw[gH.o];rfl)
       clear gH HJ
       go_wp2_with fail
       clear iR;go_roundw
       case rel=>exact⟨k+1,by go_num,rfl,rfl,by omega,sQ,kP⟩
       case measure=>simp only[intOf];omega
      | true =>
       have rV:=I (jH.o X C' (fun g=>blk o=some g) u k wr HXs.o (fun g h=>(HOs.o.blk_lt h).2) jm.o gV bT);have Ys:=I (jm.o.fix u k);have pG:=I (fun W X2 h=>Ct.o X2 (bV c C' u k) W h Ys.o);obtain⟨fk,lZ⟩:=exq (gD (aR c (bV c C' u k)));rw[lZ] at pG;have fC:Hid (lJ c C' u k=fk):=I (by rw[gH.o,lZ];rfl);clear gH lZ
       go_wp2_with fail
       refine rV.o.mono ?_;clear rV;intro e w2 hq;obtain⟨X2,rfl,hX2,-,fH⟩:=hq;have JW:=I hX2;have qI:=I fH;have zE:=I (pG.o w2 X2 hX2.reck);clear hX2 fH pG
       go_wp2_with fail
       refine zE.o.mono ?_;clear zE;rintro e w3 ⟨rfl,lL⟩;have zG:=qI.tr lL;have Un:Hid (oO w3 (fun g=>blk o=some g) X2 c H (bV c C' u k)):=I (JW.o.only (Only.of_below lL) (fun g _ h=>h));have B3:=kP.tr zG.o;clear lL qI JW iR zG
       cases fk with
       | false =>
        have sQ:Hid (∀ j,j<k+1->lJ c C' u j=false):=I (fun j hj=>by
         rcases gQ j k with h | h
         ·exact HJ.o j h
         ·obtain rfl:j=k:=by omega
          rw[fC.o])
        clear fC HJ
        go_wp2_with fail
        go_roundw
        case rel=>exact⟨k+1,by go_num,rfl,rfl,by omega,sQ,B3⟩
        case measure=>simp only[intOf];omega
       | true =>
        have O3:=I (HO.o.below B3.o);have Cu:=HB.tr B3.o;have Ji:Hid (fO c rest (u+1) (bV c C' u k) (out++[k])=cX):=I (by rw[<- bQ.o rest u C' out k fC.o bT HJ.o];exact HE.o);clear HE mV HXs HX
        go_upto_region 15 with(at_builtin;refine jM 33 3 (.int .i64 0) 1 8 Tryz.underlying33 sE rfl (by omega) (by omega) w3 w.heap.size rfl (.tmp 42) (.tmp 44) rfl o cap n (bE out) ?q1 O3.o Cu.o.size 1 1 #[.int .i64 (k:Int)] 3 ?q2 rfl (by omega) ?q3 ?q4 ?_;(case q1=>rfl);(case q2=>rfl);(case q3=>simp[Value.oneCell']);(case q4=>omega);intro g5 off5 c5 wa o8 aX b8 bW;have O8:=I o8;have B8:=I (Cu.o.trans b8);have R8:=I (Un.o.only (Wh aX) (Q':=fun g=>blk (some ⟨g5,off5,none⟩)=some g) (fun g hg h=>bW.elim (fun h2=>h2.trans h) (fun h2=>absurd hg (by have h1:g5=g:=bF h;omega))));clear o8 aX b8 bW)
        go_wp2_with fail
        go_roundw
        case rel=>exact⟨u+1,n+1,_,_,X2,bV c C' u k,out++[k],by go_num,rfl,rfl,by omega,by omega,I (by rw[gL,HN.o];rfl),I (by rw[<- Hs];exact O8.o),B8,R8,Ys,I (by rw[sX.o];exact Ji.o)⟩
        case measure=>simp only[intOf];omega
     ·have E9:¬ (k:Int)<nm:=by omega
      obtain rfl:nm=k:=by omega
      have iY:Hid (fO c rest (u+1) C' out=cX):=I (by rw[<- zF.o rest u C' out HJ.o];exact HE.o);have O3:=I (HO.o.below kP.o);have Cu:=HB.tr kP.o;have Un:Hid (oO wr (fun g=>blk o=some g) X c H C'):=I (HX.o.only (Only.of_below kP.o) (fun g _ h=>h))
      go_wp2_with fail
      go_roundw
      case rel=>exact⟨u+1,n,o,cap,X,C',out,by go_num,rfl,rfl,by omega,by omega,HN,O3,Cu,Un,jm,I (by rw[sX.o];exact iY.o)⟩
      case measure=>simp only[intOf];omega
   ·have kk:¬ (u:Int)<nu:=by omega
    obtain rfl:nu=u:=by omega
    have ij:Hid (cX=out):=I (by rw[<- HE.o,Nat.sub_self];rfl)
    go_wp2_with fail
    go_ret2
    refine Bu.o _ _ HB.o ?_;rw[ij.o,HN.o];exact⟨o,cap,rfl,HO.o⟩
end
section
open Go.RowKit Go.Sort Go.Maps
theorem Zw2(w:World)(ao:Option Addr)(n cap:Nat)(hc:n<=cap)(ho:ao=none->n=0) :
  Calls Tryz.prog 159 #[.slice ao n cap] w fun e w'=>e = .returned (.slice ao n n)/\w'=w:=by
 have h0:(0:Int)<=(n:Int):=by omega
 have h1:(n:Int)<=(cap:Int):=by omega
 cases ao with
 | none =>
  obtain rfl:=ho rfl
  go_enter Tryz.func159,Tryz.ntmps159
  go_wp2
  go_ret;exact⟨by simp,rfl⟩
 | some a =>
  go_enter Tryz.func159,Tryz.ntmps159
  go_wp2
  go_ret;exact⟨by simp,rfl⟩
theorem Zw3(w:World)(ao:Option Addr)(n cap:Nat)(hc:n<=cap)(ho:ao=none->n=0) :
  Calls Tryz.prog 160 #[.slice ao n cap] w fun e w'=>e = .returned (.slice ao n n)/\w'=w:=by
 have h0:(0:Int)<=(n:Int):=by omega
 have h1:(n:Int)<=(cap:Int):=by omega
 cases ao with
 | none =>
  obtain rfl:=ho rfl
  go_enter Tryz.func160,Tryz.ntmps160
  go_wp2
  go_ret;exact⟨by simp,rfl⟩
 | some a =>
  go_enter Tryz.func160,Tryz.ntmps160
  go_wp2
  go_ret;exact⟨by simp,rfl⟩
theorem EY {ops:Array Oper} {rest:List Oper} {o:Oper} {a:Act} {Q:Exit->Act->World->Prop} (T E:TypeId) (z:Value) (k bt:Nat)
  (hT:Tryz.prog.underlying T=some (.slice E)) (hE:(Tryz.prog.info? E).map (fun i=>(i.zero,i.size,i.bytes))=some (some z,k,bt)) (hz:z.cells.size=k) (hk:0<k) (mW:bt<=1000)
  (w:World) (hg:o.guard=none) (s x:Operand) (jP:o.op=Op.call { callee:=Callee.builtin Builtin.append,args:=#[s,x],argTypes:=#[T,T] })
  (ao:Option Addr) (n:Nat) (xs:List Value) (hs:a.eval s = .slice ao n n) (Mm:ao=none->n=0) (Ge:xs.length=n*k) (aH:xs=[]\/∃ g off,ao=some ⟨g,off,none⟩/\g<w.heap.size/\dD w g off xs)
  (A m c:Nat) (cs:List Value) (te:TypeId) (hx:a.eval x = .slice (some ⟨A,0,none⟩) m c) (hA:aC w A te cs) (hm:cs.length=m*k) (cN:0<m) (h1c:∀ u∈cs,u.oneCell'=true)
  (b1:n+m<=1000000000)
  (hK:∀ g cap' w',OwnK w' w.heap.size k (n+m) cap' (xs++cs) (some ⟨g,0,none⟩)->Below w.heap.size w w'->wpList Tryz.prog ops Q rest (a.put o.dst (.slice (some ⟨g,0,none⟩) (n+m) cap')) w') :
  wpList Tryz.prog ops Q (o::rest) a w:=by
 obtain⟨i0,hi,Cn,nP,pH⟩:=eq hE
 refine wpList_append_grows w hg s x T jP E i0 z k bt hT hi Cn nP pH hz hk ao n n xs hs (fun h=>⟨Mm h,Mm h⟩) Ge (fun b hb j u hj=>?_) ⟨A,0,none⟩ m c cs hx hm (fun j u hj=>hA.addr j u hj) h1c (by omega)
  (by simp only[maxLen];omega) (dQ (Nat.mul_le_mul b1 mW) (by decide)) ?_
 ·rcases aH with h | ⟨g,off,h1,h2,h3⟩
  ·rw[h] at hj;simp at hj
  ·rw[h1] at hb
   obtain rfl:=bF hb;rw[Addr.add_lit];exact h3 j u hj
 ·intro v' w' ho mE
  obtain⟨g',cap',rfl,hw,uJ,kX,qB⟩:=OwnK.of_row ho (by omega);exact hK g' cap' w' (.at g' 0 hw uJ kX qB) ⟨mE.os,mE.tape,mE.output,mE.size,fun i hi=>mE.block i hi (by simp)⟩
theorem YC{w:World}{rows:List (List Bool)}{co:Option Addr}(h:lY w rows co):∃ vals:List Value,vals.length=rows.length/\(∀ (i:Nat) (row:List Bool),rows[i]?=some row->∃ (bo:Option Addr) (bc:Nat),vals[i]?=some (Value.slice bo row.length bc)/\aY lO w bo row)/\(co=none->rows.length=0)/\(rows.length=0\/∃ g off,co=some ⟨g,off,none⟩/\g<w.heap.size/\dD w g off vals):=by
 rcases h with h | ⟨g,off,rfl,hg,hr⟩
 ·subst h
  exact⟨[],rfl,fun i row hi=>by simp at hi,fun _=>rfl,.inl rfl⟩
 have Bz:∀ i,i<rows.length->∃ v:Value,w.cell? ⟨g,off+i,none⟩=some v/\∀ row,rows[i]?=some row->∃ (bo:Option Addr) (bc:Nat),v = .slice bo row.length bc/\aY lO w bo row:=fun i hi=>by
  obtain⟨bo,bc,h1,h2⟩:=hr i rows[i] (aL hi);refine⟨.slice bo rows[i].length bc,h1,fun row aS=>?_⟩;rw[aL hi] at aS;obtain rfl:=bF aS;exact⟨bo,bc,rfl,h2⟩
 let vals:List Value:=(List.range rows.length).map (fun i=>if h:i<rows.length then(Bz i h).choose else undef)
 have kD:vals.length=rows.length:=by show((List.range rows.length).map _).length=_;rw[eB,List.length_range]
 have hv:∀ i (h:i<rows.length),vals[i]?=some (Bz i h).choose:=fun i h=>by
  show((List.range rows.length).map _)[i]?=_;rw[dK,List.getElem?_range h];show some (if h:i<rows.length then _ else _)=_;rw[dif_pos h]
 refine⟨vals,kD,fun i row aS=>?_,fun h=>(by cases h),.inr ⟨g,off,rfl,hg,fun j u hj=>?_⟩⟩
 ·have aE:=(fD.1 aS).1
  obtain⟨bo,bc,h1,h2⟩:=(Bz i aE).choose_spec.2 row aS;exact⟨bo,bc,by rw[hv i aE,h1],h2⟩
 ·have aE:j<rows.length:=by rw[<- kD];exact(fD.1 hj).1
  rw[hv j aE] at hj;obtain rfl:=bF hj;exact(Bz j aE).choose_spec.1
end
end Go.Proofs.YtbcgocpihobjnaaGreatDoor
