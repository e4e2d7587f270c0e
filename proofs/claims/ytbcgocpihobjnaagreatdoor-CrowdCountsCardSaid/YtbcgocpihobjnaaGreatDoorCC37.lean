import Derived.BigQuiet
import Derived.Test.YtbcgocpihobjnaaGreatDoorCC36
import Derived.Test.YtbcgocpihobjnaaGreatDoorCC26
import Derived.Test.YtbcgocpihobjnaaGreatDoorCC24
import Derived.Test.YtbcgocpihobjnaaGreatDoorCC25
import Derived.Test.YtbcgocpihobjnaaGreatDoorCC27
import Derived.Test.YtbcgocpihobjnaaGreatDoorCC0
import Derived.Test.YtbcgocpihobjnaaGreatDoorCC22
import Derived.Test.YtbcgocpihobjnaaGreatDoorCC16
import Derived.Test.YtbcgocpihobjnaaGreatDoorCC11
import Derived.Test.YtbcgocpihobjnaaGreatDoorCC28
import Derived.Test.YtbcgocpihobjnaaGreatDoorCC23
import Derived.Test.YtbcgocpihobjnaaGreatDoorCC21
import Derived.Test.YtbcgocpihobjnaaGreatDoorCC2
import Derived.Test.YtbcgocpihobjnaaGreatDoorCC12
set_option linter.all false
set_option maxHeartbeats 16000000
set_option maxRecDepth 100000
namespace Go.Proofs.YtbcgocpihobjnaaGreatDoor
section
open Go.RowKit Go.Sort
theorem OwnK.setAt{w:World}{B k n cap g off:Nat}{xs:List Value}(h:OwnK w B k n cap xs (some ⟨g,off,none⟩))(i:Nat)(hi:i<xs.length)(v:Value) :
  OwnK (w.setCell ⟨g,off+i,none⟩ v) B k n cap (xs.set i v) (some ⟨g,off,none⟩):=by
 cases h with
 | «at» g off h h1 h2 h3 =>
  have hth:=h.cells i xs[i] (đb hi);have hsame:=World.cell?_setCell_same w ⟨g,off+i,none⟩ v hth
  have hoth:∀ j,i≠j->(w.setCell ⟨g,off+i,none⟩ v).cell? ⟨g,off+j,none⟩=w.cell? ⟨g,off+j,none⟩:=fun j hj=>World.cell?_setCell_other w _ _ v (fun e=>hj (by have:=congrArg Addr.off e;simp at this;exact this))
  refine .at g off ⟨h.own,by rw[World.size_setCell];exact h.lt,by rw[List.length_set];exact h.le,fun j u hj=>?_,fun j hj=>?_,fun j hj=>?_⟩ (by rw[List.length_set];exact h1) h2 h3
  ·rw[List.getElem?_set] at hj
   by_cases e:i=j
   ·subst e
    rw[if_pos rfl,if_pos hi] at hj;cases hj;exact hsame
   ·rw[if_neg e] at hj
    rw[hoth j e];exact h.cells j u hj
  ·by_cases e:i=j
   ·subst e;rw[hsame];rfl
   ·rw[hoth j e];exact h.room j hj
  ·show(w.setCells g (off+i) [v]).frozen? _=_
   rw[World.frozen?_setCells];exact h.warm j hj
end
section
open Go.RowKit Go.Sort
theorem Zwp(i:Nat)(h:i<8):i=0\/i=1\/i=2\/i=3\/i=4\/i=5\/i=6\/i=7:=by omega
end
section
open Go.RowKit Go.Sort
theorem Zfu.only{w w':World}{P p:Nat->Prop}{l:List Prd}{ao:Option Addr}(h:Zfu w P l ao)(hb:Only w w' p)(hp:∀ g,P g->¬ p g):Zfu w' P l ao:=by
 rcases h with h | ⟨g,off,h1,h2,h3,h4⟩
 ·exact .inl h
 ·exact .inr ⟨g,off,h1,h2,đm h3 hb.size,Zbe.keep (fun g hP hg=>hb.block g hg (hp g hP)) hb.size (fun g hg _=>hg) l g off h2 h3 h4⟩
theorem Zfu.mono{w:World}{P P':Nat->Prop}{l:List Prd}{ao:Option Addr}(h:Zfu w P l ao)(hp:∀ g,P g->g<w.heap.size->P' g):Zfu w P' l ao:=by
 rcases h with h | ⟨g,off,h1,h2,h3,h4⟩
 ·exact .inl h
 ·exact .inr ⟨g,off,h1,hp g h2 h3,h3,Zbe.keep (fun g _ hg=>rfl) (đd _) hp l g off h2 h3 h4⟩
theorem Zem{bs:List Bool}{i:Nat}(h:i<bs.length):(bvs bs)[i]?=some (.bool (bs.getD i false)):=by
 unfold bvs;rw[đj,đb h,đf,đb h];rfl
end
section
open Go.RowKit Go.Sort
def Zfb(w:World)(rows:List (List Bool))(ao:Option Addr):Prop:=rows=[]\/∃ g off,ao=some ⟨g,off,none⟩/\g<w.heap.size/\∀ i row,rows[i]?=some row->∃ bo bc,w.cell? ⟨g,off+i,none⟩=some (.slice bo row.length bc)/\Zan Zc5 w bo row
theorem Zfb.below{w w':World}{rows:List (List Bool)}{ao:Option Addr}(h:Zfb w rows ao)(hb:Below w.heap.size w w'):Zfb w' rows ao:=by
 rcases h with h | ⟨g,off,h1,h2,h3⟩
 ·exact .inl h
 ·refine .inr ⟨g,off,h1,đm h2 hb.size,fun i row hi=>?_⟩
  obtain⟨bo,bc,h4,h5⟩:=h3 i row hi;exact⟨bo,bc,by rw[đx (w:=w) (a:=⟨g,off+i,none⟩) (hb.block g h2)];exact h4,h5.below hb⟩
theorem Zfb.at{w:World}{rows:List (List Bool)}{ao:Option Addr}(h:Zfb w rows ao)(i:Nat)(row:List Bool)(hi:rows[i]?=some row):∃ g off bo bc,ao=some ⟨g,off,none⟩/\g<w.heap.size/\w.cell? ⟨g,off+i,none⟩=some (.slice bo row.length bc)/\Zan Zc5 w bo row:=by
 rcases h with h | ⟨g,off,h1,h2,h3⟩
 ·rw[h] at hi;simp at hi
 ·obtain⟨bo,bc,h4,h5⟩:=h3 i row hi
  exact⟨g,off,bo,bc,h1,h2,h4,h5⟩
theorem Zjy(l:List Bool):bvs l=l.flatMap Zc5:=by
 induction l with
 | nil=>rfl
 | cons x l ih=>show _::bvs l=_;rw[ih];rfl
theorem Zae.flatB{w:World}{V:Nat}{l:List Bool}(h:Zae w V 4 (bvs l)):Zan Zc5 w (some ⟨V,0,none⟩) l:=.inr ⟨V,0,rfl,h.lt,by rw[<- Zjy];exact h.readsR⟩
structure ReckC (w:World) (c:Crw) (H C:List (List Bool)) (qo mo uo ho co:Option Addr):Prop where
 q:Zfu w (fun _=>True) c.qs qo
 m:Zhr w c.ms mo
 u:Zan Zcg w uo c.us
 h:Zfb w H ho
 c:Zfb w C co
theorem ReckC.below{w w':World}{c:Crw}{H C:List (List Bool)}{qo mo uo ho co:Option Addr}(h:ReckC w c H C qo mo uo ho co)(hb:Below w.heap.size w w'):ReckC w' c H C qo mo uo ho co :=
 ⟨h.q.below hb,h.m.below hb,h.u.below hb,h.h.below hb,h.c.below hb⟩
def Ze0(c:Crw)(H C:List (List Bool))(qo mo uo ho co:Option Addr)(qc mc uc hc cc:Nat):List Value:=[.slice qo c.qs.length qc,.slice mo c.ms.length mc,.slice uo c.us.length uc,.slice ho H.length hc,.slice co C.length cc]
def Zbo(w:World)(A:Nat)(c:Crw)(H C:List (List Bool)):Prop:=∃ qo mo uo ho co qc mc uc hc cc,Zae w A 113 (Ze0 c H C qo mo uo ho co qc mc uc hc cc)/\ReckC w c H C qo mo uo ho co/\c.us.length<=uc/\C.length<=cc
theorem Zbo.below{w w':World}{A:Nat}{c:Crw}{H C:List (List Bool)}(h:Zbo w A c H C)(hb:Below w.heap.size w w'):Zbo w' A c H C:=by
 obtain⟨qo,mo,uo,ho,co,qc,mc,uc,hc,cc,h1,h2,h3⟩:=h;exact⟨qo,mo,uo,ho,co,qc,mc,uc,hc,cc,h1.step hb,h2.below hb,h3⟩
def Zjz(hb:Bool)(r f h:Int)(k:Nat):Bool:=hb&&(r == -1||decide (f<=r))&&(h == -1||h==(k:Int))
def Zus(c:Crw)(H:List (List Bool))(x:Use)(k:Nat):Bool:=Zjz ((H.getD x.q.toNat []).getD k false) (c.ms.getD k ⟨[],[],0⟩).r x.f x.h k
def Zeo(c:Crw)(H:List (List Bool))(x:Use):List Bool:=(List.range c.ms.length).map (Zus c H x)
theorem Zf0(c:Crw)(H:List (List Bool))(x:Use):(Zeo c H x).length=c.ms.length:=by unfold Zeo;rw[đr,List.length_range]
theorem Zwq(w:World)(A:Nat)(c:Crw)(H C:List (List Bool))(x:Use)(hr:Zbo w A c H C)(hq0:0<=x.q)(hq1:x.q.toNat<H.length)(hH:∀ r∈H,r.length=c.ms.length)(hm:c.ms.length<=1000000) :
  Calls Tryz.prog 120 #[.pointer (some ⟨A,0,none⟩),.agg (Zcg x).toArray] w fun e w'=>∃ bo,e = .returned (.slice bo c.ms.length c.ms.length)/\Zan Zc5 w' bo (Zeo c H x)/\(∃ V,bo=some ⟨V,0,none⟩/\w.heap.size<=V/\Zae w' V 4 (bvs (Zeo c H x)))/\Below w.heap.size w w':=by
 obtain⟨qo,mo,uo,ho,co,qc,mc,uc,hc,cc,hA,hR,-⟩:=hr;obtain⟨hrow,hhrow⟩:∃ r,H[x.q.toNat]?=some r:=⟨_,đb hq1⟩;have HRL:Hid (hrow.length=c.ms.length):=ħ (hH _ (đe hhrow));obtain⟨qn,hqn⟩:∃ n:Nat,x.q=(n:Int):=⟨x.q.toNat,by omega⟩
 have hqn2:x.q.toNat=qn:=by omega
 rw[hqn2] at hhrow hq1
 have HRE:Hid (∀ k,Zus c H x k=Zjz (hrow.getD k false) (c.ms.getD k ⟨[],[],0⟩).r x.f x.h k):=ħ (fun k=>by
  unfold Zus
  rw[hqn2,đf (l:=H),hhrow];rfl)
 have HM:=ħ (fun W (hW:Below w.heap.size w W)=>hR.m.below hW);have HH:=ħ (fun W (hW:Below w.heap.size w W)=>(hR.h.below hW).at qn hrow hhrow);have HA:=ħ (fun W (hW:Below w.heap.size w W)=>hA.step hW);have HF:Hid (Zeo c H x=(List.range c.ms.length).map (Zus c H x)):=ħ rfl;generalize Zus c H x=E at *;generalize Zeo c H x=RF at *;unfold Ze0 at HA;have HML:Hid (∀ k,k<c.ms.length->∃ m,c.ms[k]?=some m/\c.ms.getD k ⟨[],[],0⟩=m):=ħ (fun k hk=>⟨c.ms[k],đb hk,by rw[đf,đb hk];rfl⟩);have HQL:Hid (qn<H.length):=ħ hq1
 have hql:(qn:Int)<(H.length:Nat):=by omega
 clear hR hA hhrow hH hq1;unfold Zcg;rw[hqn];generalize x.w=x1 at *;generalize x.f=xf at *;generalize x.h=xh at *;generalize H.length=nh at *;generalize C.length=ncn at *;generalize c.qs.length=nq at *;generalize c.us.length=nu at *;clear hqn hqn2 hq0;generalize hms:c.ms=ms at *;generalize hnm:ms.length=nm at *;clear hms;have bx:=(đc w.heap.size w).alloc (đd _) (.cells #[.int .i64 (qn:Int),.int .i64 x1,.int .i64 xf,.int .i64 xh] 39);have B1:=ħ bx;have X1:Hid (Zae (w.alloc (.cells #[.int .i64 (qn:Int),.int .i64 x1,.int .i64 xf,.int .i64 xh] 39)) w.heap.size 39 [.int .i64 (qn:Int),.int .i64 x1,.int .i64 xf,.int .i64 xh]):=ħ (heap_alloc_new w _);clear bx
 go_enter Tryz.func120,Tryz.ntmps120
 go_upto_region 1 with(fail)
 generalize w.alloc (.cells #[.int .i64 (qn:Int),.int .i64 x1,.int .i64 xf,.int .i64 xh] 39)=w1 at *;have a1:=(HA.o w1 B1.o).cell 1 _ rfl;have hmk:=run_make_row' (P:=Tryz.prog) 87 4 (.bool false) 1 Tryz.underlying87 Zdl rfl .i64 .i64 nm (by omega) (by omega);rw[Zew] at hmk;have bx:=(đc w1.heap.size w1).alloc (đd _) (.cells (bvs (List.replicate nm false)).toArray 4);have B2:=ħ (B1.o.trans (bx.mono B1.o.size));have X2:=ħ (X1.o.step bx);have V2:Hid (Zae (w1.alloc (.cells (bvs (List.replicate nm false)).toArray 4)) w1.heap.size 4 (bvs (List.replicate nm false))):=ħ (heap_alloc_new _ _);have HVL:Hid (w.heap.size<=w1.heap.size/\w.heap.size<w1.heap.size):=ħ ⟨B1.o.size,X1.o.lt⟩;have a2:=(HA.o _ B2.o).cell 1 _ rfl;clear bx B1 X1
 go_wp2_with fail
 generalize hw2:w1.alloc (.cells (bvs (List.replicate nm false)).toArray 4)=w2 at *;clear hmk a1 a2 hw2;generalize w1.heap.size=V at *
 go_loopw [21] (fun kv wr=>∃ (k:Nat) (bs:List Bool),kv = .int .i64 k/\k<=nm/\Hid (bs.length=nm)/\Hid (∀ j,j<k->bs[j]?=some (E j))/\Hid (Zae wr w.heap.size 39 [.int .i64 (qn:Int),.int .i64 x1,.int .i64 xf,.int .i64 xh])/\Hid (Zae wr V 4 (bvs bs))/\Hid (Below w.heap.size w wr)) (fun k _=>(nm-intOf k).toNat)
 case atStart=>exact⟨0,List.replicate nm false,rfl,by omega,ħ (by simp),ħ (fun j hj=>absurd hj (đu j)),X2,V2,B2⟩
 case round =>
  clear X2 V2 B2;obtain⟨k,bs,rfl,hk,hbl,hbs,X3,V3,B3⟩:=hrel;have e2:IntKind.i64.wrap ((k:Int)+1)=((k+1:Nat):Int):=đh _ (by omega);by_cases hlt:k<nm
  ·have kk:(k:Int)<nm:=by omega
   obtain⟨m,hmk,hmd⟩:=HML.o k hlt;have HEK:Hid (E k=Zjz (hrow.getD k false) m.r xf xh k):=ħ (by rw[HRE.o,hmd]);obtain⟨gm,om,cs,hmo,hgm,hmc,hrd⟩:=(HM.o wr B3.o).at k m hmk;obtain⟨bo,bc,to',tc,rfl,-,-⟩:=hmc;have s0:=hrd 0 _ rfl;have s1:=hrd 1 _ rfl;have s2:=hrd 2 _ rfl;rw[Nat.add_zero] at s0;have HMO:=ħ hmo;generalize m.b.length=nb at *;generalize m.t.length=nt at *;generalize m.r=mr at *;have bx:=(đc wr.heap.size wr).alloc (đd _) (.cells #[.slice bo nb bc,.slice to' nt tc,.int .i64 mr] 44);have S2:Hid (Zae (wr.alloc (.cells #[.slice bo nb bc,.slice to' nt tc,.int .i64 mr] 44)) wr.heap.size 44 [.slice bo nb bc,.slice to' nt tc,.int .i64 mr]):=ħ (heap_alloc_new _ _);have X4:=ħ (X3.o.step bx);have V4:=ħ (V3.o.step bx);have B4:=ħ (B3.o.trans (bx.mono B3.o.size));clear hrd hgm hmk hmd bx X3 V3;subst hmo
   go_upto_region 5 with(fail)
   clear s0 s1 s2;generalize hW2:wr.alloc (.cells #[.slice bo nb bc,.slice to' nt tc,.int .i64 mr] 44)=W2 at *;clear hW2;generalize wr.heap.size=Mb at *;have a3:=(HA.o W2 B4.o).cell 3 _ rfl;obtain⟨gh,oh,rb,rc,hho,hgh,hrc,hrb⟩:=HH.o W2 B4.o;obtain⟨gb,ob,hbo,hbc⟩:=hrb.bool k (by rw[HRL.o];omega);rw[HRL.o] at hrc;have HHO:=ħ hho;have HBO:=ħ hbo;subst hho;subst hbo;have x0:=X4.o.cell 0 _ rfl;have x2:=X4.o.cell 2 _ rfl;have x3:=X4.o.cell 3 _ rfl;have m2:=S2.o.cell 2 _ rfl;generalize hrow.getD k false=hb at *;have c1:=cell_regrown a3;have c2:=cell_regrown hrc;have c3:=cell_regrown hbc;have c4:=cell_regrown x0;have c5:=cell_regrown x2;have c6:=cell_regrown x3;have c7:=cell_regrown m2;clear a3 hrc hbc x0 x2 x3 m2 hrb hgh;have kn:(k:Int)<(nm:Int):=kk
   cases hb with
   | false =>
    have HE:Hid (E k=false):=ħ (by rw[HEK.o];rfl);refine Zbi 37 (by kernel_rfl) (by kernel_rfl) ?_;simp only[List.take_succ_cons,List.take_zero,List.drop_succ_cons,List.drop_zero]
    repeat (go_big_quiet_step (fail))
    refine wpQuiet_nil ?_;intro _ hw';obtain⟨⟨dq,osq⟩,hw''⟩:=hw';subst hw'';have hbb:=below_regrown W2 dq osq;have X5:=ħ (X4.o.step hbb);have V5:=ħ (V4.o.step hbb);have B5:=ħ (B4.o.trans (hbb.mono B4.o.size));clear c1 c2 c3 c4 c5 c6 c7 hbb X4 V4 B4 S2;generalize grow (redrawn W2 dq) osq=wd at *;have t0:=V5.o.cell k _ (Zem (by rw[hbl.o];exact hlt));have tf:=V5.o.warm k
    go_wp2_with fail
    clear t0 tf;have on:=(Only.refl wd (· = V)).setCell (a:=⟨V,k,none⟩) (.bool false) rfl;have V6:Hid (Zae (wd.setCell ⟨V,k,none⟩ (.bool false)) V 4 (bvs (bs.set k false))):=ħ (by have:=V5.o.set k (.bool false);rwa [Zdp]);have X6:=ħ (X5.o.only on (fun e=>by have:=HVL.o.2;omega));have B6:=ħ (Only.later B5.o on (fun g hg=>by have:=HVL.o.1;omega));clear on;go_roundw
    case rel=>exact⟨k+1,bs.set k false,by go_num,by omega,ħ (by rw[List.length_set];exact hbl.o),ħ (fun j hj=>by
     rcases đw j k with h | h
     ·rw[List.getElem?_set_ne (by omega)];exact hbs.o j h
     ·obtain rfl:j=k:=by omega
      rw[List.getElem?_set_self (by rw[hbl.o];exact hlt),HE.o]),X6,V6,B6⟩
    case measure=>simp only[intOf];omega
   | true =>
    by_cases h1:mr = -1
    ·have n1:(mr==(-1:Int))=true:=by rw[h1];rfl
     have h2:True:=trivial;by_cases h3:xh = -1
     ·have n3:(xh==(-1:Int))=true:=by rw[h3];rfl
      have HE:Hid (E k=true):=ħ (by rw[HEK.o];unfold Zjz;simp[h1,h2,h3]<;>omega);refine Zbi 37 (by kernel_rfl) (by kernel_rfl) ?_;simp only[List.take_succ_cons,List.take_zero,List.drop_succ_cons,List.drop_zero]
      repeat (go_big_quiet_step (fail))
      refine wpQuiet_nil ?_;intro _ hw';obtain⟨⟨dq,osq⟩,hw''⟩:=hw';subst hw'';have hbb:=below_regrown W2 dq osq;have X5:=ħ (X4.o.step hbb);have V5:=ħ (V4.o.step hbb);have B5:=ħ (B4.o.trans (hbb.mono B4.o.size));clear c1 c2 c3 c4 c5 c6 c7 hbb X4 V4 B4 S2;generalize grow (redrawn W2 dq) osq=wd at *;have t0:=V5.o.cell k _ (Zem (by rw[hbl.o];exact hlt));have tf:=V5.o.warm k
      go_wp2_with fail
      clear t0 tf;have on:=(Only.refl wd (· = V)).setCell (a:=⟨V,k,none⟩) (.bool true) rfl;have V6:Hid (Zae (wd.setCell ⟨V,k,none⟩ (.bool true)) V 4 (bvs (bs.set k true))):=ħ (by have:=V5.o.set k (.bool true);rwa [Zdp]);have X6:=ħ (X5.o.only on (fun e=>by have:=HVL.o.2;omega));have B6:=ħ (Only.later B5.o on (fun g hg=>by have:=HVL.o.1;omega));clear on;go_roundw
      case rel=>exact⟨k+1,bs.set k true,by go_num,by omega,ħ (by rw[List.length_set];exact hbl.o),ħ (fun j hj=>by
       rcases đw j k with h | h
       ·rw[List.getElem?_set_ne (by omega)];exact hbs.o j h
       ·obtain rfl:j=k:=by omega
        rw[List.getElem?_set_self (by rw[hbl.o];exact hlt),HE.o]),X6,V6,B6⟩
      case measure=>simp only[intOf];omega
     ·have n3:(xh==(-1:Int))=false:=by simpa using h3
      by_cases h4:xh=(k:Int)
      ·have n4:(xh==(k:Int))=true:=by rw[h4];simp
       have HE:Hid (E k=true):=ħ (by rw[HEK.o];unfold Zjz;simp[h1,h2,h3,h4]<;>omega);clear h4;refine Zbi 37 (by kernel_rfl) (by kernel_rfl) ?_;simp only[List.take_succ_cons,List.take_zero,List.drop_succ_cons,List.drop_zero]
       repeat (go_big_quiet_step (fail))
       refine wpQuiet_nil ?_;intro _ hw';obtain⟨⟨dq,osq⟩,hw''⟩:=hw';subst hw'';have hbb:=below_regrown W2 dq osq;have X5:=ħ (X4.o.step hbb);have V5:=ħ (V4.o.step hbb);have B5:=ħ (B4.o.trans (hbb.mono B4.o.size));clear c1 c2 c3 c4 c5 c6 c7 hbb X4 V4 B4 S2;generalize grow (redrawn W2 dq) osq=wd at *;have t0:=V5.o.cell k _ (Zem (by rw[hbl.o];exact hlt));have tf:=V5.o.warm k
       go_wp2_with fail
       clear t0 tf;have on:=(Only.refl wd (· = V)).setCell (a:=⟨V,k,none⟩) (.bool true) rfl;have V6:Hid (Zae (wd.setCell ⟨V,k,none⟩ (.bool true)) V 4 (bvs (bs.set k true))):=ħ (by have:=V5.o.set k (.bool true);rwa [Zdp]);have X6:=ħ (X5.o.only on (fun e=>by have:=HVL.o.2;omega));have B6:=ħ (Only.later B5.o on (fun g hg=>by have:=HVL.o.1;omega));clear on;go_roundw
       case rel=>exact⟨k+1,bs.set k true,by go_num,by omega,ħ (by rw[List.length_set];exact hbl.o),ħ (fun j hj=>by
        rcases đw j k with h | h
        ·rw[List.getElem?_set_ne (by omega)];exact hbs.o j h
        ·obtain rfl:j=k:=by omega
         rw[List.getElem?_set_self (by rw[hbl.o];exact hlt),HE.o]),X6,V6,B6⟩
       case measure=>simp only[intOf];omega
      ·have n4:(xh==(k:Int))=false:=by simpa using h4
       have HE:Hid (E k=false):=ħ (by rw[HEK.o];unfold Zjz;simp[h1,h2,h3,h4]<;>omega);refine Zbi 37 (by kernel_rfl) (by kernel_rfl) ?_;simp only[List.take_succ_cons,List.take_zero,List.drop_succ_cons,List.drop_zero]
       repeat (go_big_quiet_step (fail))
       refine wpQuiet_nil ?_;intro _ hw';obtain⟨⟨dq,osq⟩,hw''⟩:=hw';subst hw'';have hbb:=below_regrown W2 dq osq;have X5:=ħ (X4.o.step hbb);have V5:=ħ (V4.o.step hbb);have B5:=ħ (B4.o.trans (hbb.mono B4.o.size));clear c1 c2 c3 c4 c5 c6 c7 hbb X4 V4 B4 S2;generalize grow (redrawn W2 dq) osq=wd at *;have t0:=V5.o.cell k _ (Zem (by rw[hbl.o];exact hlt));have tf:=V5.o.warm k
       go_wp2_with fail
       clear t0 tf;have on:=(Only.refl wd (· = V)).setCell (a:=⟨V,k,none⟩) (.bool false) rfl;have V6:Hid (Zae (wd.setCell ⟨V,k,none⟩ (.bool false)) V 4 (bvs (bs.set k false))):=ħ (by have:=V5.o.set k (.bool false);rwa [Zdp]);have X6:=ħ (X5.o.only on (fun e=>by have:=HVL.o.2;omega));have B6:=ħ (Only.later B5.o on (fun g hg=>by have:=HVL.o.1;omega));clear on;go_roundw
       case rel=>exact⟨k+1,bs.set k false,by go_num,by omega,ħ (by rw[List.length_set];exact hbl.o),ħ (fun j hj=>by
        rcases đw j k with h | h
        ·rw[List.getElem?_set_ne (by omega)];exact hbs.o j h
        ·obtain rfl:j=k:=by omega
         rw[List.getElem?_set_self (by rw[hbl.o];exact hlt),HE.o]),X6,V6,B6⟩
       case measure=>simp only[intOf];omega
    ·have n1:(mr==(-1:Int))=false:=by simpa using h1
     by_cases h2:xf<=mr
     ·have i2:xf<=mr:=h2
      by_cases h3:xh = -1
      ·have n3:(xh==(-1:Int))=true:=by rw[h3];rfl
       have HE:Hid (E k=true):=ħ (by rw[HEK.o];unfold Zjz;simp[h1,h2,h3]<;>omega);refine Zbi 37 (by kernel_rfl) (by kernel_rfl) ?_;simp only[List.take_succ_cons,List.take_zero,List.drop_succ_cons,List.drop_zero]
       repeat (go_big_quiet_step (fail))
       refine wpQuiet_nil ?_;intro _ hw';obtain⟨⟨dq,osq⟩,hw''⟩:=hw';subst hw'';have hbb:=below_regrown W2 dq osq;have X5:=ħ (X4.o.step hbb);have V5:=ħ (V4.o.step hbb);have B5:=ħ (B4.o.trans (hbb.mono B4.o.size));clear c1 c2 c3 c4 c5 c6 c7 hbb X4 V4 B4 S2;generalize grow (redrawn W2 dq) osq=wd at *;have t0:=V5.o.cell k _ (Zem (by rw[hbl.o];exact hlt));have tf:=V5.o.warm k
       go_wp2_with fail
       clear t0 tf;have on:=(Only.refl wd (· = V)).setCell (a:=⟨V,k,none⟩) (.bool true) rfl;have V6:Hid (Zae (wd.setCell ⟨V,k,none⟩ (.bool true)) V 4 (bvs (bs.set k true))):=ħ (by have:=V5.o.set k (.bool true);rwa [Zdp]);have X6:=ħ (X5.o.only on (fun e=>by have:=HVL.o.2;omega));have B6:=ħ (Only.later B5.o on (fun g hg=>by have:=HVL.o.1;omega));clear on;go_roundw
       case rel=>exact⟨k+1,bs.set k true,by go_num,by omega,ħ (by rw[List.length_set];exact hbl.o),ħ (fun j hj=>by
        rcases đw j k with h | h
        ·rw[List.getElem?_set_ne (by omega)];exact hbs.o j h
        ·obtain rfl:j=k:=by omega
         rw[List.getElem?_set_self (by rw[hbl.o];exact hlt),HE.o]),X6,V6,B6⟩
       case measure=>simp only[intOf];omega
      ·have n3:(xh==(-1:Int))=false:=by simpa using h3
       by_cases h4:xh=(k:Int)
       ·have n4:(xh==(k:Int))=true:=by rw[h4];simp
        have HE:Hid (E k=true):=ħ (by rw[HEK.o];unfold Zjz;simp[h1,h2,h3,h4]<;>omega);clear h4;refine Zbi 37 (by kernel_rfl) (by kernel_rfl) ?_;simp only[List.take_succ_cons,List.take_zero,List.drop_succ_cons,List.drop_zero]
        repeat (go_big_quiet_step (fail))
        refine wpQuiet_nil ?_;intro _ hw';obtain⟨⟨dq,osq⟩,hw''⟩:=hw';subst hw'';have hbb:=below_regrown W2 dq osq;have X5:=ħ (X4.o.step hbb);have V5:=ħ (V4.o.step hbb);have B5:=ħ (B4.o.trans (hbb.mono B4.o.size));clear c1 c2 c3 c4 c5 c6 c7 hbb X4 V4 B4 S2;generalize grow (redrawn W2 dq) osq=wd at *;have t0:=V5.o.cell k _ (Zem (by rw[hbl.o];exact hlt));have tf:=V5.o.warm k
        go_wp2_with fail
        clear t0 tf;have on:=(Only.refl wd (· = V)).setCell (a:=⟨V,k,none⟩) (.bool true) rfl;have V6:Hid (Zae (wd.setCell ⟨V,k,none⟩ (.bool true)) V 4 (bvs (bs.set k true))):=ħ (by have:=V5.o.set k (.bool true);rwa [Zdp]);have X6:=ħ (X5.o.only on (fun e=>by have:=HVL.o.2;omega));have B6:=ħ (Only.later B5.o on (fun g hg=>by have:=HVL.o.1;omega));clear on;go_roundw
        case rel=>exact⟨k+1,bs.set k true,by go_num,by omega,ħ (by rw[List.length_set];exact hbl.o),ħ (fun j hj=>by
         rcases đw j k with h | h
         ·rw[List.getElem?_set_ne (by omega)];exact hbs.o j h
         ·obtain rfl:j=k:=by omega
          rw[List.getElem?_set_self (by rw[hbl.o];exact hlt),HE.o]),X6,V6,B6⟩
        case measure=>simp only[intOf];omega
       ·have n4:(xh==(k:Int))=false:=by simpa using h4
        have HE:Hid (E k=false):=ħ (by rw[HEK.o];unfold Zjz;simp[h1,h2,h3,h4]<;>omega);refine Zbi 37 (by kernel_rfl) (by kernel_rfl) ?_;simp only[List.take_succ_cons,List.take_zero,List.drop_succ_cons,List.drop_zero]
        repeat (go_big_quiet_step (fail))
        refine wpQuiet_nil ?_;intro _ hw';obtain⟨⟨dq,osq⟩,hw''⟩:=hw';subst hw'';have hbb:=below_regrown W2 dq osq;have X5:=ħ (X4.o.step hbb);have V5:=ħ (V4.o.step hbb);have B5:=ħ (B4.o.trans (hbb.mono B4.o.size));clear c1 c2 c3 c4 c5 c6 c7 hbb X4 V4 B4 S2;generalize grow (redrawn W2 dq) osq=wd at *;have t0:=V5.o.cell k _ (Zem (by rw[hbl.o];exact hlt));have tf:=V5.o.warm k
        go_wp2_with fail
        clear t0 tf;have on:=(Only.refl wd (· = V)).setCell (a:=⟨V,k,none⟩) (.bool false) rfl;have V6:Hid (Zae (wd.setCell ⟨V,k,none⟩ (.bool false)) V 4 (bvs (bs.set k false))):=ħ (by have:=V5.o.set k (.bool false);rwa [Zdp]);have X6:=ħ (X5.o.only on (fun e=>by have:=HVL.o.2;omega));have B6:=ħ (Only.later B5.o on (fun g hg=>by have:=HVL.o.1;omega));clear on;go_roundw
        case rel=>exact⟨k+1,bs.set k false,by go_num,by omega,ħ (by rw[List.length_set];exact hbl.o),ħ (fun j hj=>by
         rcases đw j k with h | h
         ·rw[List.getElem?_set_ne (by omega)];exact hbs.o j h
         ·obtain rfl:j=k:=by omega
          rw[List.getElem?_set_self (by rw[hbl.o];exact hlt),HE.o]),X6,V6,B6⟩
        case measure=>simp only[intOf];omega
     ·have i2:¬ xf<=mr:=h2
      have HE:Hid (E k=false):=ħ (by rw[HEK.o];unfold Zjz;simp[h1,h2]<;>omega);refine Zbi 37 (by kernel_rfl) (by kernel_rfl) ?_;simp only[List.take_succ_cons,List.take_zero,List.drop_succ_cons,List.drop_zero]
      repeat (go_big_quiet_step (fail))
      refine wpQuiet_nil ?_;intro _ hw';obtain⟨⟨dq,osq⟩,hw''⟩:=hw';subst hw'';have hbb:=below_regrown W2 dq osq;have X5:=ħ (X4.o.step hbb);have V5:=ħ (V4.o.step hbb);have B5:=ħ (B4.o.trans (hbb.mono B4.o.size));clear c1 c2 c3 c4 c5 c6 c7 hbb X4 V4 B4 S2;generalize grow (redrawn W2 dq) osq=wd at *;have t0:=V5.o.cell k _ (Zem (by rw[hbl.o];exact hlt));have tf:=V5.o.warm k
      go_wp2_with fail
      clear t0 tf;have on:=(Only.refl wd (· = V)).setCell (a:=⟨V,k,none⟩) (.bool false) rfl;have V6:Hid (Zae (wd.setCell ⟨V,k,none⟩ (.bool false)) V 4 (bvs (bs.set k false))):=ħ (by have:=V5.o.set k (.bool false);rwa [Zdp]);have X6:=ħ (X5.o.only on (fun e=>by have:=HVL.o.2;omega));have B6:=ħ (Only.later B5.o on (fun g hg=>by have:=HVL.o.1;omega));clear on;go_roundw
      case rel=>exact⟨k+1,bs.set k false,by go_num,by omega,ħ (by rw[List.length_set];exact hbl.o),ħ (fun j hj=>by
       rcases đw j k with h | h
       ·rw[List.getElem?_set_ne (by omega)];exact hbs.o j h
       ·obtain rfl:j=k:=by omega
        rw[List.getElem?_set_self (by rw[hbl.o];exact hlt),HE.o]),X6,V6,B6⟩
      case measure=>simp only[intOf];omega
  ·have kk:¬ (k:Int)<nm:=by omega
   obtain rfl:nm=k:=by omega
   have HFIN:Hid (RF=bs):=ħ (by
    rw[HF.o];apply List.ext_getElem?;intro j;by_cases hj:j<nm
    ·rw[hbs.o j hj,đj,List.getElem?_range hj];rfl
    ·rw[List.getElem?_eq_none (by simp;omega),List.getElem?_eq_none (by rw[hbl.o];omega)])
   go_wp2_with fail
   go_ret;exact⟨some ⟨V,0,none⟩,rfl,by rw[HFIN.o];exact V3.o.flatB,⟨V,rfl,HVL.o.1,by rw[HFIN.o];exact V3.o⟩,B3.o⟩
end
section
open Go.RowKit Go.Sort
def hmB(p:Prd)(m:Mem):Bool:=(Ze8 p m.b).1&&((Ze8 p m.b).2==0)
def Zaj(c:Crw):List (List Bool):=c.qs.map (fun p=>c.ms.map (hmB p))
def Za7(c:Crw):List (List Bool):=c.us.map (Zeo c (Zaj c))
theorem Zwr{l:List Nat}(h:Za5 l=true):NmB l:=by
 obtain⟨a,b,rfl,-,-,h1,h2,h3,h4⟩:=Zjl h;refine⟨fun y hy=>?_,?_⟩
 ·rcases đt.1 hy with h5 | h5
  ·have:=(h1 y h5).1;omega
  ·rcases List.mem_cons.1 h5 with h6 | h6
   ·omega
   ·have:=(h2 y h6).1;omega
 ·rw[đn,List.length_cons];omega
theorem Z3i{l:List Bnd}(h:vbP l=true):BndOk l:=⟨fun b hb=>Zwr (Zrn [] l h b hb).1⟩
theorem Zau{c:Crw}(h:Zal c=true):c.qs.length<=128/\c.ms.length<=64/\c.us.length<=4096/\(∀ p∈c.qs,Zba p=true)/\(∀ m∈c.ms,Zc8 m=true)/\∀ x∈c.us,Zch c.qs.length c.ms.length x=true:=by
 unfold Zal at h;simp only[đi,decide_eq_true_eq,Bool.not_eq_true',List.any_eq_false,Bool.not_eq_true,Bool.not_eq_false'] at h;obtain⟨⟨⟨⟨⟨h1,h2⟩,h3⟩,h4⟩,h5⟩,h6⟩:=h;exact⟨h1,h2,h3,fun p hp=>by simpa using h4 p hp,fun m hm=>by simpa using h5 m hm,fun x hx=>by simpa using h6 x hx⟩
theorem Zfc{nq nm:Nat}{x:Use}(h:Zch nq nm x=true):0<=x.q/\x.q.toNat<nq/\0<=x.w/\x.w<=15/\-1<=x.h/\x.h<=(nm:Int)-1:=by
 unfold Zch inB at h;simp only[đi,decide_eq_true_eq] at h;omega
theorem Zo2{m:Mem}(h:Zc8 m=true):vbP m.b=true:=by
 unfold Zc8 at h;simp only[đi] at h;exact h.1.1.1
def BlE(w:World)(P:Nat->Prop)(c:List Bool)(vs:List Value):Prop:=∃ ao cap,vs=[.slice ao c.length cap]/\(c=[]\/∃ g off,ao=some ⟨g,off,none⟩/\P g/\g<w.heap.size/\Zav w g off (c.flatMap Zc5))
theorem BlE.keeps:Zok BlE:=fun w w' P P' c vs hb hs hP ⟨ao,cap,hv,hk⟩=>⟨ao,cap,hv,by
 rcases hk with hk | ⟨g,off,h1,h2,h3,h4⟩
 ·exact .inl hk
 ·exact .inr ⟨g,off,h1,hP g h2 h3,đm h3 hs,h4.of_block (hb g h2 h3)⟩⟩
theorem RowM.rowsB{base lo n cp:Nat}{w:World}{bad:Nat->Prop}{ao:Option Addr}{rows:List (List Bool)}{vss:List (List Value)}(h:RowM BlE 1 base w lo bad ao n cp rows vss):Zfb w rows ao:=by
 rcases Nat.eq_zero_or_pos rows.length with h0 | h0
 ·exact .inl (List.eq_nil_of_length_eq_zero h0)
 ·obtain⟨g,off,vs,h1,h2,-⟩:=h.at 0 rows[0] (đb h0)
  refine .inr ⟨g,off,h1,h2,fun i row hi=>?_⟩;obtain⟨g',off',vs',h1',h2',-,-,-,h3',bo,bc,rfl,h5⟩:=h.at i row hi;rw[h1] at h1';cases h1';have:=h3' 0 _ rfl;rw[Nat.mul_one,Nat.add_zero] at this;refine⟨bo,bc,this,?_⟩;rcases h5 with h6 | ⟨g2,off2,h6,-,h7,h8⟩
  ·exact .inl h6
  ·exact .inr ⟨g2,off2,h6,h7,h8⟩
theorem Zb4:(Tryz.prog.info? 87).map (fun i=>(i.zero,i.size,i.bytes))=some (some (.slice none 0 0),1,24):=by kernel_rfl
theorem Zws{w:World}{B n cap:Nat}{l:List Bool}{ao:Option Addr}(h:OwnK w B 1 n cap (bvs l) ao)(hn:n=l.length)(P:Nat->Prop)(hP:∀ g,B<=g->P g):BlE w P l [.slice ao n cap]:=by
 refine⟨ao,cap,by rw[hn],?_⟩;rw[Zjy] at h;rcases h.flatR Zg5 hn with h1 | ⟨g,off,h1,h2,h3⟩
 ·exact .inl h1
 ·exact .inr ⟨g,off,h1,hP g (h.blk_lt (by rw[h1];rfl)).1,h2,h3⟩
theorem Zr3{w:World}{l:List Bool}{V cap:Nat}(h:Zae w V 4 (bvs l))(P:Nat->Prop)(hP:P V):BlE w P l [.slice (some ⟨V,0,none⟩) l.length cap]:=by
 refine⟨some ⟨V,0,none⟩,cap,rfl,.inr ⟨V,0,rfl,hP,h.lt,?_⟩⟩;rw[<- Zjy];exact h.readsR
theorem RowM.cap_le{α:Type}{EL:World->(Nat->Prop)->α->List Value->Prop}{k base lo n cp:Nat}{w:World}{bad:Nat->Prop}{ao:Option Addr}{xs:List α}{vss:List (List Value)}(h:RowM EL k base w lo bad ao n cp xs vss):n<=cp:=by
 cases h.own with
 | nil _ h1 h2=>omega
 | «at» g off h1 h2 h3 h4=>exact h4
def Zio(w:World)(P:Nat->Prop)(rows:List (List Bool))(ao:Option Addr):Prop:=rows=[]\/∃ g off,ao=some ⟨g,off,none⟩/\P g/\g<w.heap.size/\∀ i row,rows[i]?=some row->∃ bo bc,w.cell? ⟨g,off+i,none⟩=some (.slice bo row.length bc)/\(row=[]\/∃ g2 off2,bo=some ⟨g2,off2,none⟩/\P g2/\g2<w.heap.size/\Zav w g2 off2 (row.flatMap Zc5))
theorem RowM.rowsP{base lo n cp:Nat}{w:World}{bad:Nat->Prop}{ao:Option Addr}{rows:List (List Bool)}{vss:List (List Value)}(h:RowM BlE 1 base w lo bad ao n cp rows vss)(P:Nat->Prop)(h1:∀ g,lo<=g->P g)(h2:∀ g,base<=g->P g):Zio w P rows ao:=by
 rcases Nat.eq_zero_or_pos rows.length with h0 | h0
 ·exact .inl (List.eq_nil_of_length_eq_zero h0)
 ·obtain⟨g,off,vs,e1,e2,e3,-⟩:=h.at 0 rows[0] (đb h0)
  refine .inr ⟨g,off,e1,h1 g e3,e2,fun i row hi=>?_⟩;obtain⟨g',off',vs',h1',h2',-,-,-,h3',bo,bc,rfl,h5⟩:=h.at i row hi;rw[e1] at h1';cases h1';have:=h3' 0 _ rfl;rw[Nat.mul_one,Nat.add_zero] at this;refine⟨bo,bc,this,?_⟩;rcases h5 with h6 | ⟨g2,off2,h6,h9,h7,h8⟩
  ·exact .inl h6
  ·exact .inr ⟨g2,off2,h6,h2 g2 h9.1,h7,h8⟩
theorem Zio.rowsB{w w':World}{P p:Nat->Prop}{rows:List (List Bool)}{ao:Option Addr}(h:Zio w P rows ao)(on:Only w w' p)(hp:∀ g,P g->¬ p g):Zfb w' rows ao:=by
 rcases h with h | ⟨g,off,h1,hP,h2,h3⟩
 ·exact .inl h
 ·refine .inr ⟨g,off,h1,đm h2 on.size,fun i row hi=>?_⟩
  obtain⟨bo,bc,h4,h5⟩:=h3 i row hi;refine⟨bo,bc,by rw[đx (w:=w) (a:=⟨g,off+i,none⟩) (on.block g h2 (hp g hP))];exact h4,?_⟩;rcases h5 with h6 | ⟨g2,off2,h6,h9,h7,h8⟩
  ·exact .inl h6
  ·exact .inr ⟨g2,off2,h6,đm h7 on.size,h8.of_block (on.block g2 h7 (hp g2 h9))⟩
def Zd3(w:World)(Q:Nat->Prop)(A:Nat)(c:Crw)(H C:List (List Bool)):Prop:=∃ qo mo uo ho co qc mc uc hc cc,Zae w A 113 (Ze0 c H C qo mo uo ho co qc mc uc hc cc)/\¬ Q A/\c.us.length<=uc/\C.length<=cc /\
 (∀ W,Only w W Q->ReckC W c H C qo mo uo ho co)/\(C=[]\/∃ g off,co=some ⟨g,off,none⟩/\g<w.heap.size/\¬ Q g/\∀ i row,C[i]?=some row->∃ bo bc,w.cell? ⟨g,off+i,none⟩=some (.slice bo row.length bc)/\∀ W,Only w W Q->Zan Zc5 W bo row)
theorem Zio.only{w w':World}{P p:Nat->Prop}{rows:List (List Bool)}{ao:Option Addr}(h:Zio w P rows ao)(on:Only w w' p)(hp:∀ g,P g->¬ p g):Zio w' P rows ao:=by
 rcases h with h | ⟨g,off,h1,hP,h2,h3⟩
 ·exact .inl h
 ·refine .inr ⟨g,off,h1,hP,đm h2 on.size,fun i row hi=>?_⟩
  obtain⟨bo,bc,h4,h5⟩:=h3 i row hi;refine⟨bo,bc,by rw[đx (w:=w) (a:=⟨g,off+i,none⟩) (on.block g h2 (hp g hP))];exact h4,?_⟩;rcases h5 with h6 | ⟨g2,off2,h6,h9,h7,h8⟩
  ·exact .inl h6
  ·exact .inr ⟨g2,off2,h6,h9,đm h7 on.size,h8.of_block (on.block g2 h7 (hp g2 h9))⟩
theorem Zio.mono{w:World}{P P':Nat->Prop}{rows:List (List Bool)}{ao:Option Addr}(h:Zio w P rows ao)(hp:∀ g,P g->P' g):Zio w P' rows ao:=by
 rcases h with h | ⟨g,off,h1,hP,h2,h3⟩
 ·exact .inl h
 ·refine .inr ⟨g,off,h1,hp g hP,h2,fun i row hi=>?_⟩
  obtain⟨bo,bc,h4,h5⟩:=h3 i row hi;refine⟨bo,bc,h4,?_⟩;rcases h5 with h6 | ⟨g2,off2,h6,h9,h7,h8⟩
  ·exact .inl h6
  ·exact .inr ⟨g2,off2,h6,hp g2 h9,h7,h8⟩
def Z2i(w w':World)(A:Nat)(c:Crw)(cs:List Value):Prop:=∀ (w0:World) (Q:Nat->Prop),Zhs w0 c cs->Below w0.heap.size w0 w->(∀ g,Q g->w0.heap.size<=g/\g<w.heap.size)->Zd3 w' Q A c (Zaj c) (Za7 c)
theorem Z2j {w w':World} {A:Nat} {c:Crw} {H C:List (List Bool)} {qo mo uo ho co:Option Addr} {qc mc uc hc cc:Nat} (hH0:H=Zaj c) (hC0:C=Za7 c) (hA:Zae w' A 113 (Ze0 c H C qo mo uo ho co qc mc uc hc cc)) (hAA:w.heap.size<=A) (hb:Below w.heap.size w w') (hcu:c.us.length<=uc) (hcc:C.length<=cc)
  (hH:Zio w' (fun g=>w.heap.size<=g) H ho) (hC:Zio w' (fun g=>w.heap.size<=g) C co):Z2i w w' A c [.slice qo c.qs.length qc,.slice mo c.ms.length mc,.slice uo c.us.length uc]:=by
 subst hH0 hC0;intro w0 Q hc0 hb0 hQ;obtain⟨qo',qc',mo',mc',uo',uc',e0,hq0,hm0,hu0,-⟩:=hc0;simp only[List.cons.injEq,Value.slice.injEq,and_true] at e0;obtain⟨⟨e1,-⟩,⟨e2,-⟩,⟨e3,-⟩⟩:=e0;subst e1 e2 e3
 have hnew:∀ g,w.heap.size<=g->¬ Q g:=fun g h1 h2=>by have:=(hQ g h2).2;omega
 have hb1:Below w0.heap.size w0 w':=hb0.trans (hb.mono hb0.size);refine⟨qo,mo,uo,ho,co,qc,mc,uc,hc,cc,hA,hnew A hAA,hcu,hcc,fun W oW=>?_,?_⟩
 ·have hW:Below w0.heap.size w0 W:=oW.later hb1 (fun g h=>(hQ g h).1)
  exact⟨hq0.below hW,hm0.below hW,hu0.below hW,hH.rowsB oW hnew,hC.rowsB oW hnew⟩
 ·rcases hC with h | ⟨g,off,h1,hP,h2,h3⟩
  ·exact .inl h
  ·refine .inr ⟨g,off,h1,h2,hnew g hP,fun i row hi=>?_⟩
   obtain⟨bo,bc,h4,h5⟩:=h3 i row hi;refine⟨bo,bc,h4,fun W oW=>?_⟩;rcases h5 with h6 | ⟨g2,off2,h6,h9,h7,h8⟩
   ·exact .inl h6
   ·exact .inr ⟨g2,off2,h6,đm h7 oW.size,h8.of_block (oW.block g2 h7 (hnew g2 h9))⟩
def Z0c(w:World)(c:Crw)(cs:List Value)(e:Ending)(w':World):Prop :=
 (if Zal c=true then ∃ A,e = .returned (.tuple #[.pointer (some ⟨A,0,none⟩),.bool true])/\Zbo w' A c (Zaj c) (Za7 c)/\w.heap.size<=A/\Z2i w w' A c cs
  else e = .returned (.tuple #[.pointer none,.bool false]))/\Below w.heap.size w w'
theorem Zd4(w:World)(c:Crw)(cs:List Value)(hc:Zhs w c cs)(B:Nat)(hT:Tab w B)(hok:CrwOk c) :
  Calls Tryz.prog 81 #[.agg cs.toArray] w fun e w'=>Z0c w c cs e w':=by
 have HVC:=ħ (fun W (hW:Below w.heap.size w W)=>Zte W c cs (hc.below hW) B (Zbw.step (w:=w) hT hW) hok);obtain⟨qo,qc,mo,mc,uo,uc,rfl,hq,hm,hu,hcap⟩:=hc;have HCAP:=ħ hcap;have HQ:=ħ (fun W (hW:Below w.heap.size w W)=>hq.below hW);have HM:=ħ (fun W (hW:Below w.heap.size w W)=>hm.below hW);have HU:=ħ (fun W (hW:Below w.heap.size w W)=>hu.below hW);have HT:=ħ (fun W (hW:Below w.heap.size w W)=>(show Tab W B from Zbw.step (w:=w) hT hW));have hnq:=hok.nq;have hnm:=hok.nm;have hnu:=hok.nu;have HCN:=ħ (fun p (hp:p∈c.qs)=>(hok.q p hp).2);have HMN:=ħ (fun m (hm:m∈c.ms)=>(hok.m m hm).2.1);unfold Z0c;have HVP:=ħ (fun(h:Zal c=true)=>Zau h);have HHF:Hid (Zaj c=c.qs.map (fun p=>c.ms.map (hmB p))):=ħ rfl;have HCF:Hid (Za7 c=c.us.map (Zeo c (Zaj c))):=ħ rfl;generalize Zal c=vc at *;generalize hHF:Zaj c=HF at *;have HFD:=ħ hHF.symm;clear hHF;generalize hCF:Za7 c=CF at *;have HCD:=ħ hCF.symm;clear hCF;clear hq hm hu hok hT hcap;generalize hqs:c.qs.length=nq at *;generalize hmsl:c.ms.length=nm at *;generalize husl:c.us.length=nu at *;have HNQ:=ħ hqs;have HNM:=ħ hmsl;have HNU:=ħ husl;clear hqs hmsl husl;have bx:=(đc w.heap.size w).alloc (đd _) (.cells #[.slice qo nq qc,.slice mo nm mc,.slice uo nu uc] 26);have B1:=ħ bx;have X1:Hid (Zae (w.alloc (.cells #[.slice qo nq qc,.slice mo nm mc,.slice uo nu uc] 26)) w.heap.size 26 [.slice qo nq qc,.slice mo nm mc,.slice uo nu uc]):=ħ (heap_alloc_new w _);clear bx
 go_enter Tryz.func81,Tryz.ntmps81
 go_upto_region 1 with(fail)
 generalize w.alloc (.cells #[.slice qo nq qc,.slice mo nm mc,.slice uo nu uc] 26)=w1 at *;have c0:=X1.o.cell 0 _ rfl;have c1:=X1.o.cell 1 _ rfl;have c2:=X1.o.cell 2 _ rfl
 go_wp2_with fail
 refine(HVC.o w1 B1.o).mono ?_;rintro e w2 ⟨rfl,b2⟩;have B2:=ħ (B1.o.trans (b2.mono B1.o.size));have X2:=ħ (X1.o.step b2);clear b2 c0 c1 c2 B1 X1 HVC
 cases vc with
 | false =>
  go_wp2_with fail
  ((try simp only[Exit.inBlock,Exit.then]);refine bodyPost_ret (results_tmp2 rfl _ _ _) rfl ?_)
  exact⟨rfl,B2.o⟩
 | true =>
  obtain⟨h1,h2,h3,h4,h5,h6⟩:=HVP.o rfl;have HPV:=ħ h4;have HMV:=ħ h5;have HUV:=ħ h6;clear h4 h5 h6 HVP;have c0:=X2.o.cell 0 _ rfl;have c1:=X2.o.cell 1 _ rfl;have c2:=X2.o.cell 2 _ rfl;have bx:=(đc w2.heap.size w2).alloc (đd _) (.cells #[.slice qo nq qc,.slice mo nm mc,.slice uo nu uc,.slice none 0 0,.slice none 0 0] 113);have B3:=ħ (B2.o.trans (bx.mono B2.o.size));have X3:=ħ (X2.o.step bx);have A3:Hid (Zae (w2.alloc (.cells #[.slice qo nq qc,.slice mo nm mc,.slice uo nu uc,.slice none 0 0,.slice none 0 0] 113)) w2.heap.size 113 [.slice qo nq qc,.slice mo nm mc,.slice uo nu uc,.slice none 0 0,.slice none 0 0]):=ħ (heap_alloc_new _ _);have HAB:Hid (w.heap.size<=w2.heap.size/\w.heap.size<w2.heap.size):=ħ ⟨B2.o.size,X2.o.lt⟩;clear bx
  go_upto_region 4 with(fail)
  generalize hw3:w2.alloc (.cells #[.slice qo nq qc,.slice mo nm mc,.slice uo nu uc,.slice none 0 0,.slice none 0 0] 113)=w3 at *
  have hs3:w3.heap.size=w2.heap.size+1:=by rw[<- hw3];simp
  have HS3:=ħ hs3;clear hw3 hs3 c0 c1 c2 X2 B2;generalize w2.heap.size=A at *;have R3:Hid (RowM BlE 1 (A+1) w3 (A+1) (· = A) none 0 0 (HF.take 0) []):=ħ (by rw[List.take_zero];exact RowM.nil _ _ _);have c0:=X3.o.cell 0 _ rfl
  go_wp2_with fail
  clear c0
  go_loopw [23] (fun iv wr=>∃ (i:Nat) (ho:Option Addr) (hc:Nat) (vss:List (List Value)),iv = .int .i64 i/\i<=nq/\Hid (Zae wr A 113 [.slice qo nq qc,.slice mo nm mc,.slice uo nu uc,.slice ho i hc,.slice none 0 0])/\Hid (RowM BlE 1 (A+1) wr (A+1) (· = A) ho i hc (HF.take i) vss)/\Hid (Zae wr w.heap.size 26 [.slice qo nq qc,.slice mo nm mc,.slice uo nu uc])/\Hid (Below w.heap.size w wr)/\Hid (A+1<=wr.heap.size)) (fun i _=>(nq-intOf i).toNat)
  case atStart=>exact⟨0,none,0,[],rfl,by omega,A3,R3,X3,B3,ħ (by rw[HS3.o];exact đd _)⟩
  case round =>
   clear A3 R3 X3 B3 HS3;obtain⟨i,ho,hc,vss,rfl,hi,A4,R4,X4,B4,L4⟩:=hrel;have e2:IntKind.i64.wrap ((i:Int)+1)=((i+1:Nat):Int):=đh _ (by omega);by_cases hlt:i<nq
   ·have ii:(i:Int)<nq:=by omega
    obtain⟨p,hp⟩:∃ p,c.qs[i]?=some p:=⟨_,đb (by rw[HNQ.o];exact hlt)⟩;have HPM:=ħ (đe hp);have hpv:=HPV.o p HPM.o;have HHO:=ħ (fun W vs (hpc:Zao W (fun _=>True) p vs) (hT:Tab W B) m (hm:m∈c.ms) bo bc (hb:Zoq W (fun _=>True) m.b bo)=>Zv8 p W (fun _=>True) (fun _=>True) vs B m.b bo m.b.length bc (HCN.o p HPM.o) (Zm5 p (Zho hpv)) hpc hT rfl (HMN.o m hm) (Z3i (Zo2 (HMV.o m hm))) hb);have HRI:Hid (HF.take (i+1)=HF.take i++[c.ms.map (hmB p)]):=ħ (by rw[đv,HHF.o,đj,hp];rfl);obtain⟨g,off,vs,hao,hgl,hpc,hrd⟩:=(HQ.o wr B4.o).at i p hp;obtain⟨xa,xn,xc,hvf,-⟩:=hpc.form;subst hvf;have HPC:=ħ (fun W (hW:Below wr.heap.size wr W)=>hpc.below hW);have s0:=hrd 0 _ rfl;have s1:=hrd 1 _ rfl;have s2:=hrd 2 _ rfl;have s3:=hrd 3 _ rfl;have s4:=hrd 4 _ rfl;rw[Nat.add_zero] at s0;clear hp hpc hrd hgl hpv;subst hao;generalize hR:c.ms.map (hmB p)=RW at *;have HRL:Hid (RW.length=nm):=ħ (by rw[<- hR,đr,HNM.o]);have HRG:Hid (∀ k m,c.ms[k]?=some m->RW[k]?=some (hmB p m)):=ħ (fun k m h=>by rw[<- hR,đj,h];rfl);clear hR;have HHP:Hid (∀ m,hmB p m=((Ze8 p m.b).1&&((Ze8 p m.b).2==0))):=ħ (fun m=>rfl);generalize p.k=q0 at *;generalize Zad p.l=q1 at *;generalize Zad p.r=q2 at *;generalize p.c=q3 at *;have bx:=(đc wr.heap.size wr).alloc (đd _) (.cells #[.int .i64 q0,.string q1,.string q2,.int .i64 q3,.slice xa xn xc] 54);have P5:Hid (Zae (wr.alloc (.cells #[.int .i64 q0,.string q1,.string q2,.int .i64 q3,.slice xa xn xc] 54)) wr.heap.size 54 [.int .i64 q0,.string q1,.string q2,.int .i64 q3,.slice xa xn xc]):=ħ (heap_alloc_new _ _);have BX:=ħ bx;clear bx
    go_upto_region 7 with(fail)
    clear s0 s1 s2 s3 s4;generalize wr.alloc (.cells #[.int .i64 q0,.string q1,.string q2,.int .i64 q3,.slice xa xn xc] 54)=w5 at *;have X5:=ħ (X4.o.step BX.o);have x1:=X5.o.cell 1 _ rfl
    go_wp2_with fail
    clear x1;have HP5:=ħ (fun W (hW:Below w5.heap.size w5 W)=>HPC.o W (BX.o.trans (hW.mono BX.o.size)));have B5:=ħ (B4.o.trans (BX.o.mono B4.o.size));have A5:=ħ (A4.o.step BX.o);have R5:=ħ (R4.o.step BlE.keeps BX.o);have HL5:Hid (∀ g,blk ho=some g->g<w5.heap.size):=ħ (fun g hg=>(R5.o.own.blk_lt hg).2);have L5:Hid (A+1<=w5.heap.size):=ħ (đo L4.o BX.o.size);have HPL:Hid (wr.heap.size<w5.heap.size):=ħ P5.o.lt;generalize wr.heap.size=PB at *;clear HPC BX A4 R4 X4 B4 L4
    go_loopw [7,30] (fun rv kv wq=>∃ (k:Nat) (ro:Option Addr) (rc:Nat),kv = .int .i64 k/\k<=nm/\rv = .slice ro k rc/\Hid (OwnK wq w5.heap.size 1 k rc (bvs (RW.take k)) ro)/\Hid (Zae wq PB 54 [.int .i64 q0,.string q1,.string q2,.int .i64 q3,.slice xa xn xc])/\Hid (Below w5.heap.size w5 wq)) (fun _ k _=>(nm-intOf k).toNat)
    case atStart=>exact⟨0,none,0,rfl,by omega,rfl,ħ (.nil (by simp[bvs]) rfl rfl),P5,ħ (đc _ _)⟩
    case round =>
     clear P5;obtain⟨k,ro,rc,rfl,hk,rfl,O6,P6,W6⟩:=hrel;have e3:IntKind.i64.wrap ((k:Int)+1)=((k+1:Nat):Int):=đh _ (by omega);by_cases hkn:k<nm
     ·have kk:(k:Int)<nm:=by omega
      obtain⟨m,hmk⟩:∃ m,c.ms[k]?=some m:=⟨_,đb (by rw[HNM.o];exact hkn)⟩;have HRK:Hid (bvs (RW.take k)++[.bool (hmB p m)]=bvs (RW.take (k+1))):=ħ (by rw[đv,HRG.o k m hmk];simp[bvs]);rw[HHP.o] at HRK;have B6:=ħ (B5.o.trans (W6.o.mono B5.o.size));obtain⟨gm,om,cs2,hmo,hgm,hmc,hrd⟩:=(HM.o wr B6.o).at k m hmk;obtain⟨bo,bc,to',tc,rfl,hbr,-⟩:=hmc;have s0:=hrd 0 _ rfl;have s1:=hrd 1 _ rfl;have s2:=hrd 2 _ rfl;rw[Nat.add_zero] at s0;have bx:=(đc wr.heap.size wr).alloc (đd _) (.cells #[.slice bo m.b.length bc,.slice to' m.t.length tc,.int .i64 m.r] 44);have HCA:=ħ (HHO.o _ _ (HP5.o _ (W6.o.trans (bx.mono W6.o.size))) (HT.o _ (B6.o.trans (bx.mono B6.o.size))) m (đe hmk) bo bc (hbr.below bx));have M7:Hid (Zae (wr.alloc (.cells #[.slice bo m.b.length bc,.slice to' m.t.length tc,.int .i64 m.r] 44)) wr.heap.size 44 [.slice bo m.b.length bc,.slice to' m.t.length tc,.int .i64 m.r]):=ħ (heap_alloc_new _ _);have P7:=ħ (P6.o.step bx);have O7:=ħ (O6.o.below bx);have W7:=ħ (W6.o.trans (bx.mono W6.o.size));clear hrd hgm hbr bx hmk P6 O6 W6 B6;have HMO:=ħ hmo;subst hmo;generalize m.t.length=nt at *;generalize m.r=mr at *
      go_upto_region 11 with(fail)
      clear s0 s1 s2;generalize wr.alloc (.cells #[.slice bo m.b.length bc,.slice to' nt tc,.int .i64 mr] 44)=w7 at *;generalize (Ze8 p m.b).1=r1 at *;generalize (Ze8 p m.b).2=r2 at *;generalize m.b.length=nb at *;have y0:=P7.o.cell 0 _ rfl;have y1:=P7.o.cell 1 _ rfl;have y2:=P7.o.cell 2 _ rfl;have y3:=P7.o.cell 3 _ rfl;have y4:=P7.o.cell 4 _ rfl;have m0:=M7.o.cell 0 _ rfl
      go_wp2_with fail
      refine HCA.o.mono ?_;rintro e w8 ⟨rfl,b8⟩;have O8:=ħ (O7.o.below b8);have P8:=ħ (P7.o.step b8);have W8:=ħ (W7.o.trans (b8.mono W7.o.size));clear b8 y0 y1 y2 y3 y4 m0 O7 P7 W7 HCA M7 HMO
      cases r1 with
      | false =>
       go_wp2_with (at_builtin;refine Zcn 87 4 (.bool false) 1 1 Tryz.underlying87 Zdl rfl (by omega) (by omega) w8 w5.heap.size rfl (.tmp 41) (.tmp 47) rfl ro rc k (bvs (RW.take k)) ?q1 O8.o W8.o.size 1 1 #[.bool false] 4 ?q2 rfl (by omega) ?q3 ?q4 ?_;(case q1=>rfl);(case q2=>rfl);(case q3=>simp[Value.oneCell']);(case q4=>omega);intro g5 off5 c5 wa o8 gr8 b8 or8;have O9:=ħ o8;have B9:=ħ b8;have P9:=ħ (P8.o.grownBy gr8 (fun e=>by have h:=(O8.o.blk_lt e).1;have:=HPL.o;omega));clear o8 gr8 b8 or8)
       have W9:=ħ (W8.o.trans B9.o);go_roundw
       case rel=>exact⟨k+1,some ⟨g5,off5,none⟩,c5,by go_num,by omega,rfl,ħ (by have h:=HRK.o;rw[đq] at h;rw[<- h];exact O9.o),P9,W9⟩
       case measure=>simp only[intOf];omega
      | true =>
       by_cases hr2:r2=0
       ·have n2:(r2==(0:Int))=true:=by rw[hr2];rfl
        have HRK2:Hid (bvs (RW.take k)++[.bool true]=bvs (RW.take (k+1))):=ħ (by have:=HRK.o;rwa [n2] at this);clear hr2
        go_wp2_with (at_builtin;refine Zcn 87 4 (.bool false) 1 1 Tryz.underlying87 Zdl rfl (by omega) (by omega) w8 w5.heap.size rfl (.tmp 41) (.tmp 47) rfl ro rc k (bvs (RW.take k)) ?q1 O8.o W8.o.size 1 1 #[.bool true] 4 ?q2 rfl (by omega) ?q3 ?q4 ?_;(case q1=>rfl);(case q2=>rfl);(case q3=>simp[Value.oneCell']);(case q4=>omega);intro g5 off5 c5 wa o8 gr8 b8 or8;have O9:=ħ o8;have B9:=ħ b8;have P9:=ħ (P8.o.grownBy gr8 (fun e=>by have h:=(O8.o.blk_lt e).1;have:=HPL.o;omega));clear o8 gr8 b8 or8)
        have W9:=ħ (W8.o.trans B9.o);go_roundw
        case rel=>exact⟨k+1,some ⟨g5,off5,none⟩,c5,by go_num,by omega,rfl,ħ (by rw[<- HRK2.o];exact O9.o),P9,W9⟩
        case measure=>simp only[intOf];omega
       ·have n2:(r2==(0:Int))=false:=by simpa using hr2
        have HRK2:Hid (bvs (RW.take k)++[.bool false]=bvs (RW.take (k+1))):=ħ (by have:=HRK.o;rwa [n2] at this);clear hr2
        go_wp2_with (at_builtin;refine Zcn 87 4 (.bool false) 1 1 Tryz.underlying87 Zdl rfl (by omega) (by omega) w8 w5.heap.size rfl (.tmp 41) (.tmp 47) rfl ro rc k (bvs (RW.take k)) ?q1 O8.o W8.o.size 1 1 #[.bool false] 4 ?q2 rfl (by omega) ?q3 ?q4 ?_;(case q1=>rfl);(case q2=>rfl);(case q3=>simp[Value.oneCell']);(case q4=>omega);intro g5 off5 c5 wa o8 gr8 b8 or8;have O9:=ħ o8;have B9:=ħ b8;have P9:=ħ (P8.o.grownBy gr8 (fun e=>by have h:=(O8.o.blk_lt e).1;have:=HPL.o;omega));clear o8 gr8 b8 or8)
        have W9:=ħ (W8.o.trans B9.o);go_roundw
        case rel=>exact⟨k+1,some ⟨g5,off5,none⟩,c5,by go_num,by omega,rfl,ħ (by rw[<- HRK2.o];exact O9.o),P9,W9⟩
        case measure=>simp only[intOf];omega
     ·have kk:¬ ((k:Int)<nm):=by omega
      obtain rfl:nm=k:=by omega
      have HTK:Hid (RW.take nm=RW):=ħ (List.take_of_length_le (by rw[HRL.o];exact đd _));have B6:=ħ (B5.o.trans (W6.o.mono B5.o.size));have A6:=ħ (A5.o.step W6.o);have X6:=ħ (X5.o.step W6.o);have R6:=ħ (R5.o.step BlE.keeps W6.o);have E6:Hid (BlE wr (fun g=>w5.heap.size<=g) RW [.slice ro nm rc]):=ħ (Zws (by have:=O6.o;rwa [HTK.o] at this) HRL.o.symm _ (fun g hg=>hg));have L6:Hid (A+1<=wr.heap.size):=ħ (đo L5.o W6.o.size);clear A5 X5 R5 O6;have a3:=A6.o.cell 3 _ rfl
      go_upto_region 15 with(first | fail | (at_builtin;refine Zcn 86 87 (.slice none 0 0) 1 24 Tryz.underlying86 Zb4 rfl (by omega) (by omega) wr (A+1) rfl (.tmp 54) (.tmp 56) rfl ho hc i vss.flatten ?t1 R6.o.own ?t5 1 1 #[.slice ro nm rc] 87 ?t2 rfl (by omega) ?t3 ?t4 ?_;(case t1=>rfl);(case t5=>exact L6.o);(case t2=>rfl);(case t3=>intro u hu;simp at hu;subst hu;rfl);(case t4=>omega);intro g5 off5 c5 wa o8 gr8 b8 or8;have HBG:Hid (A+1<=g5):=ħ (o8.blk_lt (g:=g5) rfl).1;have R8:=ħ (RowM.add BlE.keeps R6.o HL5.o L5.o (fun g hg=>by have:=L5.o;omega) E6.o rfl o8 gr8 or8);have A8:=ħ (A6.o.grownBy gr8 (fun e=>by have:=(R6.o.own.blk_lt e).1;omega));have X8:=ħ (X6.o.grownBy gr8 (fun e=>by have:=(R6.o.own.blk_lt e).1;have:=HAB.o.2;omega));have B8:=ħ (B6.o.trans (b8.mono (by have:=HAB.o.1;omega)));have t3:=A8.o.cell 3 _ rfl;have tf:=A8.o.warm 3;clear a3 o8 gr8 b8 or8))
      clear t3 tf;have on:=(Only.refl wa (· = A)).setCell (a:=⟨A,3,none⟩) (.slice (some ⟨g5,off5,none⟩) (i+1) c5) rfl;have A9:=ħ (A8.o.set 3 (.slice (some ⟨g5,off5,none⟩) (i+1) c5));have R9:=ħ (RowM.turn BlE.keeps R8.o on (fun g hg=>.inl hg) (fun g hg e=>by have:=HBG.o;have h:g5=g:=đa hg;omega));have X9:=ħ (X8.o.only on (fun e=>by have:=HAB.o.2;omega));have B9:=ħ (Only.later B8.o on (fun g hg=>by have:=HAB.o.1;omega));have L9:Hid (A+1<=(wa.setCell ⟨A,3,none⟩ (.slice (some ⟨g5,off5,none⟩) (i+1) c5)).heap.size):=ħ (by have:=A9.o.lt;omega);clear on A8 R8 X8 B8
      go_wp2_with fail
      go_roundw
      case rel=>exact⟨i+1,some ⟨g5,off5,none⟩,c5,vss++[[.slice ro nm rc]],by go_num,by omega,A9,ħ (by rw[HRI.o];exact R9.o),X9,B9,L9⟩
      case measure=>simp only[intOf];omega
   ·have ii:¬ ((i:Int)<nq):=by omega
    obtain rfl:nq=i:=by omega
    have HTF:Hid (HF.take nq=HF):=ħ (List.take_of_length_le (by rw[HHF.o,đr,HNQ.o];exact đd _));have HFR:Hid (Zio wr (fun g=>A+1<=g) HF ho):=ħ (by have:=R4.o.rowsP (fun g=>A+1<=g) (fun g h=>h) (fun g h=>h);rwa [HTF.o] at this)
    have HFL:Hid (∀ r∈HF,r.length=c.ms.length):=ħ (by
     rw[HHF.o];intro r hr;obtain⟨p,-,rfl⟩:=List.mem_map.1 hr
     rw[đr])
    have HFN:Hid (HF.length=nq):=ħ (by rw[HHF.o,đr,HNQ.o]);have x2:=X4.o.cell 2 _ rfl
    go_wp2_with fail
    clear x2 R4 HTF HHF HPV HMV HCN HMN HT;have HWA:Hid (A<wr.heap.size/\w.heap.size<wr.heap.size):=ħ ⟨A4.o.lt,X4.o.lt⟩;generalize wr=wo at *;have RC:Hid (RowM BlE 1 wo.heap.size wo wo.heap.size (· = A) none 0 0 (CF.take 0) []):=ħ (by rw[List.take_zero];exact RowM.nil _ _ _)
    go_loopw [64] (fun jv wr=>∃ (j:Nat) (co:Option Addr) (cc:Nat) (vss:List (List Value)),jv = .int .i64 j/\j<=nu/\Hid (Zae wr A 113 [.slice qo nq qc,.slice mo nm mc,.slice uo nu uc,.slice ho nq hc,.slice co j cc])/\Hid (RowM BlE 1 wo.heap.size wr wo.heap.size (· = A) co j cc (CF.take j) vss)/\Hid (Zae wr w.heap.size 26 [.slice qo nq qc,.slice mo nm mc,.slice uo nu uc])/\Hid (Only wo wr (· = A))/\Hid (Below w.heap.size w wr)/\Hid (wo.heap.size<=wr.heap.size)) (fun j _=>(nu-intOf j).toNat)
    case atStart=>exact⟨0,none,0,[],rfl,by omega,A4,RC,X4,ħ (Only.refl _ _),B4,ħ (đd _)⟩
    case round =>
     clear A4 RC X4 B4;obtain⟨j,co,cc,vss,rfl,hj,A5,R5,X5,F5,B5,L5⟩:=hrel;have e3:IntKind.i64.wrap ((j:Int)+1)=((j+1:Nat):Int):=đh _ (by omega);by_cases hjn:j<nu
     ·have jj:(j:Int)<nu:=by omega
      obtain⟨x,hx⟩:∃ x,c.us[j]?=some x:=⟨_,đb (by rw[HNU.o];exact hjn)⟩;have HXV:=ħ (Zfc (HUV.o x (đe hx)));have HCJ:Hid (CF.take (j+1)=CF.take j++[Zeo c HF x]):=ħ (by rw[đv,HCF.o,đj,hx];rfl);have HCL:Hid ((CF.take j).length=j):=ħ (by rw[List.length_take,HCF.o,đr,HNU.o];omega);obtain⟨gu,ou,huo,hgu,hcu⟩:=(HU.o wr B5.o).at Zbj j x hx;have s0:=hcu 0 _ rfl;have s1:=hcu 1 _ rfl;have s2:=hcu 2 _ rfl;have s3:=hcu 3 _ rfl;rw[Nat.add_zero] at s0;have HUO:=ħ huo;have bx:=(đc wr.heap.size wr).alloc (đd _) (.cells #[.int .i64 x.q,.int .i64 x.w,.int .i64 x.f,.int .i64 x.h] 39);have U6:Hid (Zae (wr.alloc (.cells #[.int .i64 x.q,.int .i64 x.w,.int .i64 x.f,.int .i64 x.h] 39)) wr.heap.size 39 [.int .i64 x.q,.int .i64 x.w,.int .i64 x.f,.int .i64 x.h]):=ħ (heap_alloc_new _ _);have A6:=ħ (A5.o.step bx);have R6:=ħ (R5.o.step BlE.keeps bx);have X6:=ħ (X5.o.step bx);have F6:=ħ (F5.o.step bx);have B6:=ħ (B5.o.trans (bx.mono B5.o.size));have L6:Hid (wr.heap.size<=(wr.alloc (.cells #[.int .i64 x.q,.int .i64 x.w,.int .i64 x.f,.int .i64 x.h] 39)).heap.size):=ħ bx.size;have HKL:Hid (∀ g,blk co=some g->g<wr.heap.size):=ħ (fun g hg=>(R5.o.own.blk_lt hg).2);have HAL:Hid (A<wr.heap.size/\w.heap.size<wr.heap.size):=ħ ⟨A5.o.lt,X5.o.lt⟩;clear hx hgu hcu bx A5 R5 X5 F5 B5;subst huo;have HRO:=ħ (fun W (hr:Zbo W A c HF (CF.take j))=>Zwq W A c HF (CF.take j) x hr HXV.o.1 (by rw[HFN.o];exact HXV.o.2.1) HFL.o (by rw[HNM.o];exact hnm));rw[HNM.o] at HRO;have HRL:=ħ (Zf0 c HF x);rw[HNM.o] at HRL;generalize hRX:Zeo c HF x=RX at *;clear hRX;unfold Zcg at HRO;generalize x.q=u0 at *;generalize x.w=u1 at *;generalize x.f=u2 at *;generalize x.h=u3 at *
      go_upto_region 19 with(fail)
      clear s0 s1 s2 s3;generalize wr.alloc (.cells #[.int .i64 u0,.int .i64 u1,.int .i64 u2,.int .i64 u3] 39)=wx at *;refine Za8 [0,1,2,3,4,5,6] [7,8,9,10,11,12] (fun w'=>Zae w' A 113 [.slice qo nq qc,.slice mo nm mc,.slice (some ⟨gu,ou,none⟩) nu uc,.slice ho nq hc,.slice co j cc]/\Zae w' wr.heap.size 39 [.int .i64 u0,.int .i64 u1,.int .i64 u2,.int .i64 u3]) (by kernel_rfl) (by kernel_rfl) (by kernel_rfl) (fun _ _ d _ _ h=>by cases d<;>exact h) ⟨A6.o.step (đc _ _).drew,U6.o.step (đc _ _).drew⟩ ?_;simp only[Zb6,List.filterMap_cons,List.filterMap_nil,List.getElem?_cons_zero,List.getElem?_cons_succ,Option.map_some,List.map_cons,List.map_nil];apply Exists.intro;refine⟨?hh,?ht⟩
      case hh =>
       intro w' hw';have c4:=hw'.1.cell 4 _ rfl;have p0:=hw'.2.cell 0 _ rfl;have p1:=hw'.2.cell 1 _ rfl;have p2:=hw'.2.cell 2 _ rfl;have p3:=hw'.2.cell 3 _ rfl;clear hw'
       repeat still_step
       exact wpStill_nil rfl
      case ht =>
       have BD:=(đc wx.heap.size wx).drew;have A7:=ħ (A6.o.step BD);have U7:=ħ (U6.o.step BD);have R7:=ħ (R6.o.step BlE.keeps BD);have X7:=ħ (X6.o.step BD);have F7:=ħ (F6.o.step BD);have B7:=ħ (B6.o.trans (BD.mono B6.o.size));have L7:Hid (wr.heap.size<=wx.drew.heap.size):=ħ (đo L6.o BD.size);clear BD A6 U6 R6 X6 F6 B6 L6;generalize wx.drew=wd at *;have HRQ:=ħ (HRO.o wd ⟨qo,mo,some ⟨gu,ou,none⟩,ho,co,qc,mc,uc,hc,cc,by unfold Ze0;rw[HFN.o,HCL.o,HNQ.o,HNM.o,HNU.o];exact A7.o,⟨HQ.o wd B7.o,HM.o wd B7.o,HU.o wd B7.o,HFR.o.rowsB F7.o (fun g hg e=>by omega),R7.o.rowsB⟩,by rw[HNU.o];exact HCAP.o,by rw[HCL.o];exact R7.o.cap_le⟩);refine Zah ?_
       go_wp2_with fail
       refine HRQ.o.mono ?_;rintro e w6 ⟨bo,rfl,-,⟨V,rfl,hV,hVB⟩,b6⟩;have A8:=ħ (A7.o.step b6);have U8:=ħ (U7.o.step b6);have R8:=ħ (R7.o.step BlE.keeps b6);have X8:=ħ (X7.o.step b6);have F8:=ħ (F7.o.step b6);have B8:=ħ (B7.o.trans (b6.mono B7.o.size));have E8:Hid (BlE w6 (fun g=>wr.heap.size<=g) RX [.slice (some ⟨V,0,none⟩) nm nm]):=ħ (by have:=Zr3 (cap:=nm) hVB (fun g=>wr.heap.size<=g) (đo L7.o hV);rwa [HRL.o] at this);clear hV hVB b6 HRQ HRO A7 U7 R7 X7 F7 B7
       go_wp2_with fail
       refine Zaa ⟨⟨A8.o,U8.o⟩,?_⟩;refine Zah ?_
       go_wp2_with fail
       have bz:=(đc w6.heap.size w6).alloc (đd _) (.cells #[.slice (some ⟨V,0,none⟩) nm nm] 87);refine Zaa ⟨⟨A8.o.step bz,U8.o.step bz⟩,?_⟩;clear bz;refine Zah ?_
       go_wp2_with (at_builtin;go_loud (refine Zcn 86 87 (.slice none 0 0) 1 24 Tryz.underlying86 Zb4 rfl (by omega) (by omega) w6 wo.heap.size rfl (.tmp 72) (.tmp 76) rfl co cc j vss.flatten ?t1 R8.o.own ?t5 1 1 #[.slice (some ⟨V,0,none⟩) nm nm] 87 ?t2 rfl (by omega) ?t3 ?t4 ?_;(case t1=>rfl);(case t5=>exact đo L5.o (Nat.le_of_lt U8.o.lt));(case t2=>rfl);(case t3=>intro u hu;simp at hu;subst hu;rfl);(case t4=>omega);intro g5 off5 c5 wa o8 gr8 b8 or8;have HBG:Hid (wo.heap.size<=g5):=ħ (o8.blk_lt (g:=g5) rfl).1;have HNE:Hid (∀ g,g<wo.heap.size->blk co≠some g):=ħ (fun g hg e=>by have:=(R8.o.own.blk_lt e).1;omega);have R9:=ħ (RowM.add BlE.keeps R8.o HKL.o L5.o (fun g hg=>by have:=HAL.o.1;omega) E8.o rfl o8 gr8 or8);have A9:=ħ (A8.o.grownBy gr8 (HNE.o A HWA.o.1));have X9:=ħ (X8.o.grownBy gr8 (HNE.o w.heap.size HWA.o.2));have U9:=ħ (U8.o.grownBy gr8 (fun e=>by have:=HKL.o wr.heap.size e;omega));have B9:=ħ (B8.o.trans (b8.mono (by have:=HWA.o.2;omega)));have F9:=ħ (F8.o.belowB b8);clear o8 gr8 b8 or8))
       refine Zaa ⟨⟨A9.o,U9.o⟩,?_⟩;refine Zah ?_
       go_wp2_with fail
       refine Zaa ⟨⟨A9.o,U9.o⟩,?_⟩;refine Zah ?_
       go_wp2_with fail
       refine Zaa ⟨⟨A9.o,U9.o⟩,?_⟩;refine Zbu ?_;have t3:=A9.o.cell 4 _ rfl;have tf:=A9.o.warm 4;have on:=(Only.refl wa (· = A)).setCell (a:=⟨A,4,none⟩) (.slice (some ⟨g5,off5,none⟩) (j+1) c5) rfl;have A10:=ħ (A9.o.set 4 (.slice (some ⟨g5,off5,none⟩) (j+1) c5));have R10:=ħ (RowM.turn BlE.keeps R9.o on (fun g hg=>.inl hg) (fun g hg e=>by have:=HBG.o;have:=HWA.o.1;have h:g5=g:=đa hg;omega));have X10:=ħ (X9.o.only on (fun e=>by have:=HAB.o.2;omega));have B10:=ħ (Only.later B9.o on (fun g hg=>by have:=HAB.o.1;omega));have F10:=ħ (F9.o.setCell (a:=⟨A,4,none⟩) (.slice (some ⟨g5,off5,none⟩) (j+1) c5) rfl);have L10:Hid (wo.heap.size<=(wa.setCell ⟨A,4,none⟩ (.slice (some ⟨g5,off5,none⟩) (j+1) c5)).heap.size):=ħ F10.o.size;clear on A8 U8 R8 X8 F8 B8 E8
       go_wp2_with fail
       go_roundw
       case rel=>exact⟨j+1,some ⟨g5,off5,none⟩,c5,vss++[[.slice (some ⟨V,0,none⟩) nm nm]],by go_num,by omega,A10,ħ (by rw[HCJ.o];exact R10.o),X10,F10,B10,L10⟩
       case measure=>simp only[intOf];omega
     ·have jj:¬ ((j:Int)<nu):=by omega
      obtain rfl:nu=j:=by omega
      have HTC:Hid (CF.take nu=CF):=ħ (List.take_of_length_le (by rw[HCF.o,đr,HNU.o];exact đd _));have HCN:Hid (CF.length=nu):=ħ (by rw[HCF.o,đr,HNU.o])
      go_wp2_with fail
      ((try simp only[Exit.inBlock,Exit.then]);refine bodyPost_ret (results_tmp2 rfl _ _ _) rfl ?_)
      exact⟨⟨A,rfl,⟨qo,mo,uo,ho,co,qc,mc,uc,hc,cc,by unfold Ze0;rw[HFN.o,HCN.o,HNQ.o,HNM.o,HNU.o];exact A5.o,⟨HQ.o wr B5.o,HM.o wr B5.o,HU.o wr B5.o,HFR.o.rowsB F5.o (fun g hg e=>by omega),by have:=R5.o.rowsB;rwa [HTC.o] at this⟩,by rw[HNU.o];exact HCAP.o,by rw[HCN.o];exact R5.o.cap_le⟩,HAB.o.1,by rw[<- HNQ.o,<- HNM.o,<- HNU.o];exact Z2j HFD.o HCD.o (by unfold Ze0;rw[HFN.o,HCN.o,HNQ.o,HNM.o,HNU.o];exact A5.o) HAB.o.1 B5.o (by rw[HNU.o];exact HCAP.o) (by rw[HCN.o];exact R5.o.cap_le) ((HFR.o.only F5.o (fun g hg e=>by omega)).mono (fun g hg=>by have:=HAB.o.1;omega)) (by have:=R5.o.rowsP (fun g=>w.heap.size<=g) (fun g h=>by have:=HWA.o;omega) (fun g h=>by have:=HWA.o;omega);rwa [HTC.o] at this)⟩,B5.o⟩
end
end Go.Proofs.YtbcgocpihobjnaaGreatDoor
