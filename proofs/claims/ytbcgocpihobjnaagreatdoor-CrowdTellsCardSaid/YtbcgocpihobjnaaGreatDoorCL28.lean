import Derived.Test.YtbcgocpihobjnaaGreatDoorCL26
import Derived.Test.YtbcgocpihobjnaaGreatDoorCL27
import Derived.Test.YtbcgocpihobjnaaGreatDoorCL24
import Derived.Test.YtbcgocpihobjnaaGreatDoorCL23
import Derived.Test.YtbcgocpihobjnaaGreatDoorCL25
set_option linter.all false
set_option maxHeartbeats 32000000
set_option maxRecDepth 100000
namespace Go.Proofs.YtbcgocpihobjnaaGreatDoor
section
open Go.RowKit Go.Sort Go.Maps
theorem np{s:List Nat}(h:NmL s):NmOk s:=⟨h.1,dQ h.2 (by decide)⟩
theorem Zqd(w:World)(P:Nat->Prop)(l:List Bnd)(ao:Option Addr)(n cap B:Nat)(hT:Tab w B)(hn:n=l.length)(bN:n<=10000000000000)(aJ:∀ b∈l,NmL b.n)(hk:tJ w P l ao) :
  Calls Tryz.prog 91 #[.slice ao n cap] w fun e w'=>e = .returned (.bool (vbP l))/\RowKit.Below w.heap.size w w':=by
 have HK:=I hk;have HN:=I hn;have cV:=I aJ;have HT:=I hT;have bx:=(aG w.heap.size w).alloc (aO _) (.map #[] 0);have BX:=I bx;have QX:Hid (oN (w.alloc (.map #[] 0)) w.heap.size []):=I (oN.nil w);obtain⟨V,hV⟩:=exq (vbP l);have HV:Hid (V=vbG ((l.take 0).map (·.n)) (l.drop 0)):=I (by rw[<- hV];rfl);rw[hV];clear hk hn aJ hT bx hV;have qG:=@run_makeMap Tryz.prog
 go_enter Tryz.func91,Tryz.ntmps91
 go_upto_region 2 with(fail)
 generalize j5:w.alloc (.map #[] 0)=wx at *
 go_wp2_with fail
 have S0:Hid (oN wx w.heap.size ((l.take 0).map (·.n))):=I (by simpa using QX.o);have O0:Hid (Only wx wx (· = w.heap.size)):=I (Only.refl _ _);clear QX;have rR:=I (fun W (hW:RowKit.Below w.heap.size w W)=>gS.step (w:=w) HT.o hW);have lR:=I (fun(W:World) (hW:Only wx W (· = w.heap.size))=>Only.later (aG w.heap.size w) (Only.trans (Only.of_below (p:=fun g=>w.heap.size<=g) BX.o) (hW.mono (fun g _ hg=>by rw[hg];exact aO _))) (fun g hg=>hg));generalize hb:w.heap.size=b at *
 go_loopw [9] (fun cc wr=>∃ (i:Nat),cc = .int .i64 i/\i<=n/\Hid (oN wr b ((l.take i).map (·.n)))/\Hid (Only wx wr (· = b))/\Hid (V=vbG ((l.take i).map (·.n)) (l.drop i))) (fun c _=>(n-intOf c).toNat)
 case atStart=>exact⟨0,rfl,by omega,S0,O0,HV⟩
 case round =>
  clear S0 O0 HV;obtain⟨i,rfl,hi,hq,ho,hv⟩:=hrel;have e2:=w1i i (by omega);by_cases aE:i<n
  ·have ii:(i:Int)<n:=by omega
   have HQ:Hid (∃ q,l[i]?=some q/\∃ g off,ao=some ⟨g,off,none⟩/\g<b/\dD wr g (off+i*2) [.string (aB q.n),.int .i64 q.v]):=I (by
    have hl:i<l.length:=by rw[<- HN.o];exact aE
    refine⟨l[i],aL hl,?_⟩;rcases HK.o with h | ⟨g,off,h1,h2,h3,h4⟩
    ·rw[h] at hl;exact absurd hl (jU _)
    ·have xJ:g<b:=by rw[<- hb];exact h3
     have h5:=Vz h4 i _ (aL hl);have Lv:=BX.o
     exact⟨g,off,h1,xJ,(h5.of_block (Lv.block g xJ)).of_block (ho.o.block g (by have:=Lv.size;omega) (by omega))⟩)
   obtain⟨q,bX,gk,off,bI,dT,aH⟩:=HQ.o;clear HQ;have bQ:=I (hv.o.trans (my l i q bX));have fW:=I (cV.o q (bU bX));have dM:Hid ((l.take i).map (·.n)++[q.n]=(l.take (i+1)).map (·.n)):=I (by rw[lN,bX,List.map_append];rfl)
   have Xb:Hid (∀ k∈(l.take i).map (·.n),NmOk k):=I (fun k hk=>by
    obtain⟨x,hx,rfl⟩:=List.mem_map.1 hk
    exact np (cV.o x (List.mem_of_mem_take hx)))
   have s0:=aH 0 _ rfl;have s1:=aH 1 _ rfl;rw[Nat.add_zero] at s0;have mT:=I bI;clear aH bX;subst bI;have xP:=I (fun W (hW:oN W b ((l.take i).map (·.n)))=>oN.look Xb.o q.n (np fW.o) hW);have Gb:=I (fun W (hW:Only wx W (· = b))=>WB q.n W B (show Tab W B from rR.o W (lR.o W hW)) fW.o.2 fW.o.1);have bx:=(aG wr.heap.size wr).alloc (aO _) (.cells #[.string (aB q.n),.int .i64 q.v] 164);have Y1:=hnw wr 164 [.string (aB q.n),.int .i64 q.v];have kL:=I (hq.o.step bx);have qT:=I (ho.o.step bx);clear bx hq ho hv
   go_upto_region 5 with(fail)
   have Pj:=I (Lb q.n (np fW.o));have Xc:=I (np fW.o);clear fW s0 s1;generalize wr.heap.size=A at *;generalize cY:aB q.n=y at *;clear cY;generalize q.v=v at *;generalize wr.alloc (.cells #[.string y,.int .i64 v] 164)=wy at *;have y0:=Y1.o.cell 0 _ rfl;have y1:=Y1.o.cell 1 _ rfl;have xI:=xP.o wy kL.o;generalize uO:decide (q.n∈(l.take i).map (·.n))=mt at *;clear uO;generalize iG q.n=vn at *
   cases mt with
   | true =>
    have HF:Hid (V=false):=I bQ.o
    go_wp2
    go_ret;exact⟨aF HF.o.symm,lR.o _ qT.o⟩
   | false =>
    have nX:Hid (V=(vn&&(decide (0<=v)&&(decide (v<=65535)&&vbG ((l.take (i+1)).map (·.n)) (l.drop (i+1)))))):=I bQ.o;clear bQ
    go_wp2_with fail
    refine(Gb.o wy qT.o).mono ?_;rintro e w2 ⟨rfl,d2⟩;have qU:=I (kL.o.step (vN d2));have iX:=I (qT.o.step (vN d2));have Y2:=I (Y1.o.step (vN d2));clear d2 y0 y1 xI kL qT Y1;have y0:=Y2.o.cell 0 _ rfl;have y1:=Y2.o.cell 1 _ rfl
    cases vn with
    | false =>
     have HF:Hid (V=false):=I nX.o
     go_wp2
     go_ret;exact⟨aF HF.o.symm,hb ▸ lR.o _ iX.o⟩
    | true =>
     have uP:Hid (V=(decide (0<=v)&&(decide (v<=65535)&&vbG ((l.take (i+1)).map (·.n)) (l.drop (i+1))))):=I nX.o;clear nX;by_cases v0:v<0
     ·have HF:Hid (V=false):=I (by rw[uP.o,decide_eq_false (show ¬ 0<=v by omega),dS])
      go_wp2
      go_ret;exact⟨aF HF.o.symm,hb ▸ lR.o _ iX.o⟩
     ·by_cases v1:65535<v
      ·have HF:Hid (V=false):=I (by rw[uP.o,decide_eq_false (show ¬ v<=65535 by omega),dS,Bool.and_false])
       go_wp2
       go_ret;exact⟨aF HF.o.symm,hb ▸ lR.o _ iX.o⟩
      ·have HF:Hid (V=vbG ((l.take (i+1)).map (·.n)) (l.drop (i+1))):=I (by rw[uP.o,decide_eq_true (show 0<=v by omega),decide_eq_true (show v<=65535 by omega),cH,cH])
       have qW:Hid (((l.take i).map (·.n)).length<maxLen):=I (by rw[eB,List.length_take];exact Nat.lt_of_le_of_lt (Nat.min_le_left _ _) (Nat.lt_of_le_of_lt hi (Nat.lt_of_le_of_lt bN (by decide))));obtain⟨D,bD,hh,ha⟩:=qU.o;have HH:=I hh;have HA:=I ha;have HO:=I bD;clear hh ha bD
       go_wp2_with (at_mapUpdate;refine wpList_mapUpdate_own _ rfl (.tmp 33) (.tmp 35) _ 162 rfl 9 4 La Tryz.underlying162 (plainElem Tryz.prog 4) b ((l.take i).map (·.n)).length D rfl HO.o qW.o (.string y) (.bool true) (mM q.n) rfl rfl Pj.o (.lit (.bool true)) [] (plainElem_bool Tryz.underlying4 true) ?_;intro w6 gG fB;have Bw:=I (oN.put q.n Xc.o HO.o HH.o HA.o gG);have Xd:=I (iX.o.trans (eh fB));clear gG fB y0 y1 qU iX Y2 HO HH HA)
       rw[dM.o] at Bw;go_roundw
       case rel=>exact⟨i+1,by go_num,by omega,Bw,Xd,HF⟩
       case measure=>simp only[intOf];omega
  ·have ii:¬ ((i:Int)<n):=by omega
   have HF:Hid (V=true):=I (by rw[hv.o,List.drop_eq_nil_of_le (by rw[<- HN.o];omega),vbG])
   go_wp2
   go_ret;exact⟨aF HF.o.symm,lR.o _ ho.o⟩
def Ld(n:Int):Bool:=!inB n 0 4096
theorem Z18(n:Int)(w:World):Calls Tryz.prog 139 #[.int .i64 n] w fun e w'=>e = .returned (.bool (Ld n))/\w=w':=by
 have HW:=I (fun W=>vQ n 0 4096 W);unfold Ld;generalize inB n 0 4096=b at *
 go_enter Tryz.func139,Tryz.ntmps139
 go_wp2_with fail
 refine(HW.o w).mono ?_;rintro e wa ⟨rfl,rfl⟩
 go_wp2_with fail
 go_ret;exact⟨rfl,rfl⟩
theorem Zz2(w:World)(ao:Option Addr)(l:List Int)(c:Nat)(h:aY aZ w ao l)(hl:l.length<=100000000000000) :
  Calls Tryz.prog 88 #[.slice ao l.length c,.func (.func 139) #[] #[]] w fun e w'=>e = .returned (.bool (l.any Ld))/\Below w.heap.size w w':=by
 rcases h with h | ⟨g,off,h1,h2,h3⟩
 ·subst h
  exact(Tryz.slices_ContainsFunc_empty (α:=Int) ao c _ w).mono (fun e w' ⟨a,b⟩=>⟨a,by rw[b];exact aG _ _⟩)
 ·subst h1
  refine(Tryz.slices_ContainsFunc (α:=Int) (.int .i64) Ld 139 #[] (enters_of Tryz.func139 (by kernel_rfl) rfl) g off l.length c l w ?hp (aO _) (by omega) (fun j hj=>?_)).mono (fun e w' ⟨a,q,b⟩=>⟨by rw[a,List.take_length],vN ⟨q,b⟩⟩)
  case hp=>exact fun W x _=>(Z18 x W).mono (fun e w' ⟨a,b⟩=>⟨a,0,b.symm⟩)
  have:=h3 j (.int .i64 l[j]) (by rw[<- Nv];unfold ivs;rw[dK,aL hj];rfl);rw[this,getElem!_pos l j hj]
def vR(m:Mem):Bool:=vbP m.b&&decide (m.t.length<=16)&&!m.t.any Ld&&inB m.r (-1) 16
theorem Zts(w:World)(m:Mem)(cs:List Value)(hm:Bc w m cs)(B:Nat)(hT:Tab w B)(hb:∀ b∈m.b,NmL b.n)(h1:m.b.length<=10000000000000)(h2:m.t.length<=100000000000000) :
  Calls Tryz.prog 77 #[.agg cs.toArray] w fun e w'=>e = .returned (.bool (vR m))/\Below w.heap.size w w':=by
 obtain⟨bo,bc,to',tc,rfl,kO,ht⟩:=hm;have rS:=I (fun W (hW:Below w.heap.size w W)=>Zqd W (fun _=>True) m.b bo m.b.length bc B (gS.step (w:=w) hT hW) rfl h1 hb (kO.below hW));have j8:=I (fun W (hW:Below w.heap.size w W)=>Zz2 W to' m.t tc (ht.below hW) h2);have gB:=I (fun W=>vQ m.r (-1) 16 W);have bx:=bwA w (.cells #[.slice bo m.b.length bc,.slice to' m.t.length tc,.int .i64 m.r] 44);have B1:=I bx;have X1:=hnw w 44 [.slice bo m.b.length bc,.slice to' m.t.length tc,.int .i64 m.r];clear bx hT hb kO ht;unfold vR;generalize m.t.any Ld=b3 at *;generalize vbP m.b=b1 at *;generalize m.b.length=nb at *;generalize m.t.length=nt at *;generalize inB m.r (-1) 16=b4 at *;generalize m.r=mr at *
 go_enter Tryz.func77,Tryz.ntmps77
 go_upto_region 1 with(fail)
 generalize w.alloc (.cells #[.slice bo nb bc,.slice to' nt tc,.int .i64 mr] 44)=w1 at *;have x0:=X1.o.cell 0 _ rfl
 go_wp2_with fail
 refine(rS.o w1 B1.o).mono ?_;rintro e w2 ⟨rfl,b2⟩;have B2:=B1.tr b2;have X2:=X1.st b2;clear b2 x0 B1 X1;obtain⟨x0,x1,x2⟩:=X2.o.c3
 cases b1 with
 | false =>
  go_wp2_with fail
  go_ret;exact⟨aF (by simp),B2.o⟩
 | true =>
  by_cases gi:nt<=16
  ·have hi:(nt:Int)<=16:=by omega
   have HD:Hid (decide (nt<=16)=true):=I (decide_eq_true gi)
   go_wp2_with fail
   refine(j8.o w2 B2.o).mono ?_;rintro e w3 ⟨rfl,Ps⟩;have B3:=I (B2.o.trans (Ps.mono B2.o.size));have X3:=I (X2.o.step Ps);clear Ps x0 x1 x2 B2 X2;have x2:=X3.o.cell 2 _ rfl
   cases b3 with
   | true =>
    go_wp2_with fail
    go_ret;exact⟨aF (by simp),B3.o⟩
   | false =>
    go_wp2_with fail
    refine(gB.o w3).mono ?_;rintro e w4 ⟨rfl,rfl⟩
    go_wp2_with fail
    go_ret;exact⟨aF (by first | rfl | simp[HD.o]),B3.o⟩
  ·have hi:¬ (nt:Int)<=16:=by omega
   have HD:Hid (decide (nt<=16)=false):=I (decide_eq_false gi)
   go_wp2_with fail
   go_ret;exact⟨aF (by first | rfl | simp[HD.o]),B2.o⟩
end
section
open Go.RowKit Go.Sort
def WE(q:Prd):Prop:=ByL q/\cO q<=1000000
def EF(m:Mem):Prop:=(∀ b∈m.b,NmL b.n)/\m.b.length<=10000000000000/\m.t.length<=100000000000000
theorem Z2a(B:Nat):PrF (fun W=>Tab W B) (fun _=>True) 73 #[] (fun q=>!jV q) WE:=by
 refine⟨enters_of Tryz.func73 (by kernel_rfl) rfl,fun w w' h hb=>h.step hb,fun q w vs hS h hT=>?_⟩;obtain⟨xa,xn,xc,rfl,-⟩:=h.form;have HV:=I (fun W (hW:Below w.heap.size w W)=>Ztr q W _ _ B hS.2 hS.1 (h.below hW) (gS.step (w:=w) hT hW));have bx:=bwA w (.cells #[.int .i64 q.k,.string (aB q.l),.string (aB q.r),.int .i64 q.c,.slice xa xn xc] 54);have B1:=I bx;have X1:=hnw w 54 [.int .i64 q.k,.string (aB q.l),.string (aB q.r),.int .i64 q.c,.slice xa xn xc];clear bx h hT hS;generalize jV q=b at *;generalize q.k=q0 at *;generalize aB q.l=q1 at *;generalize aB q.r=q2 at *;generalize q.c=q3 at *
 go_enter Tryz.func73,Tryz.ntmps73
 go_upto_region 1 with(fail)
 generalize w.alloc (.cells #[.int .i64 q0,.string q1,.string q2,.int .i64 q3,.slice xa xn xc] 54)=w1 at *;obtain⟨s0,s1,s2,s3,s4⟩:=X1.o.c5
 go_wp2_with fail
 refine(HV.o w1 B1.o).mono ?_;rintro e w2 ⟨rfl,b2⟩;have B2:=B1.tr b2;clear b2 s0 s1 s2 s3 s4
 go_wp2_with fail
 go_ret;exact⟨rfl,B2.o⟩
theorem Z2b(B:Nat):memFn (fun W=>Tab W B) 76 #[] (fun q=>!vR q) EF:=by
 refine⟨enters_of Tryz.func76 (by kernel_rfl) rfl,fun w w' h hb=>h.step hb,fun q w vs hS h hT=>?_⟩;have HV:=I (fun W (hW:Below w.heap.size w W)=>Zts W q vs (h.below hW) B (gS.step (w:=w) hT hW) hS.1 hS.2.1 hS.2.2);obtain⟨bo,bc,to',tc,rfl,-,-⟩:=h;have bx:=bwA w (.cells #[.slice bo q.b.length bc,.slice to' q.t.length tc,.int .i64 q.r] 44);have B1:=I bx;have X1:=hnw w 44 [.slice bo q.b.length bc,.slice to' q.t.length tc,.int .i64 q.r];clear bx hT hS;generalize vR q=b at *;generalize q.b.length=nb at *;generalize q.t.length=nt at *;generalize q.r=qr at *
 go_enter Tryz.func76,Tryz.ntmps76
 go_upto_region 1 with(fail)
 generalize w.alloc (.cells #[.slice bo nb bc,.slice to' nt tc,.int .i64 qr] 44)=w1 at *;obtain⟨s0,s1,s2⟩:=X1.o.c3
 go_wp2_with fail
 refine(HV.o w1 B1.o).mono ?_;rintro e w2 ⟨rfl,b2⟩;have B2:=B1.tr b2;clear b2 s0 s1 s2
 go_wp2_with fail
 go_ret;exact⟨rfl,B2.o⟩
theorem Z2c(A:Nat)(qo mo uo:Option Addr)(nq nm nu qc mc uc:Nat)(h1:nq<=1000000000)(h2:nm<=1000000000) :
  useFn (fun W=>aC W A 26 [.slice qo nq qc,.slice mo nm mc,.slice uo nu uc]) 79 #[.pointer (some ⟨A,0,none⟩)] (fun q=>!nG nq nm q) (fun _=>True):=by
 refine⟨enters_of Tryz.func79 (by kernel_rfl) rfl,fun w w' h hb=>h.step hb,fun q w vs hS h hT=>?_⟩;subst h;have HV:=I (fun W=>EB W qo mo uo nq nm nu qc mc uc q h1 h2);have bx:=bwA w (.cells #[.int .i64 q.q,.int .i64 q.w,.int .i64 q.f,.int .i64 q.h] 39);have B1:=I bx;have X1:=hnw w 39 [.int .i64 q.q,.int .i64 q.w,.int .i64 q.f,.int .i64 q.h];have C1:=I (hT.step bx);clear bx hT hS;unfold cQ at *;generalize nG nq nm q=b at *;generalize q.q=x0 at *;generalize q.w=x1 at *;generalize q.f=x2 at *;generalize q.h=x3 at *
 go_enter Tryz.func79,Tryz.ntmps79
 go_upto_region 1 with(fail)
 generalize w.alloc (.cells #[.int .i64 x0,.int .i64 x1,.int .i64 x2,.int .i64 x3] 39)=w1 at *;obtain⟨s0,s1,s2,s3⟩:=X1.o.c4;obtain⟨c0,c1,c2⟩:=C1.o.c3
 go_wp2_with fail
 refine(HV.o w1).mono ?_;rintro e w2 ⟨rfl,b2⟩;have B2:=B1.tr b2;clear b2 s0 s1 s2 s3 c0 c1 c2
 go_wp2_with fail
 go_ret;exact⟨rfl,B2.o⟩
def bG(c:Crw):Bool:=decide (c.qs.length<=128)&&decide (c.ms.length<=64)&&decide (c.us.length<=4096)&&!c.qs.any (fun q=>!jV q)&&!c.ms.any (fun m=>!vR m)&&!c.us.any (fun x=>!nG c.qs.length c.ms.length x)
structure CrwOk (c:Crw):Prop where
 q:∀ p∈c.qs,WE p
 m:∀ m∈c.ms,EF m
 nq:c.qs.length<=1000000
 nm:c.ms.length<=1000000
 nu:c.us.length<=1000000
theorem WG(w:World)(c:Crw)(cs:List Value)(hc:mO w c cs)(B:Nat)(hT:Tab w B)(aJ:CrwOk c) :
  Calls Tryz.prog 20 #[.agg cs.toArray] w fun e w'=>e = .returned (.bool (bG c))/\Below w.heap.size w w':=by
 obtain⟨qo,qc,mo,mc,uo,uc,rfl,hq,hm,hu,-⟩:=hc
 have HQ:=I (fun W (hW:Below w.heap.size w W)=>UG W (fun _=>True) c.qs qo c.qs.length qc rfl aJ.nq (by
  rcases hq.below hW with h | ⟨g,off,h1,h2,h3,h4⟩
  ·exact .inl h
  ·exact .inr ⟨g,off,h1,h2,h3,h4⟩) _ _ _ _ _ (Z2a B) aJ.q (gS.step (w:=w) hT hW))
 have HM:=I (fun W (hW:Below w.heap.size w W)=>Zqb W c.ms mo c.ms.length mc rfl aJ.nm (hm.below hW) _ _ _ _ _ (Z2b B) aJ.m (gS.step (w:=w) hT hW));have HU:=I (fun W (hW:Below w.heap.size w W) A (hA:aC W A 26 [.slice qo c.qs.length qc,.slice mo c.ms.length mc,.slice uo c.us.length uc])=>Zqc W c.us uo c.us.length uc rfl aJ.nu (hu.below hW) _ _ _ _ _ (Z2c A qo mo uo c.qs.length c.ms.length c.us.length qc mc uc (by have:=aJ.nq;omega) (by have:=aJ.nm;omega)) (fun _ _=>trivial) hA);have eW:=aJ.nq;have cY:=aJ.nm;have dH:=aJ.nu;clear hq hm hu aJ hT;unfold bG;generalize c.qs.any (fun q=>!jV q)=b1 at *;generalize c.ms.any (fun m=>!vR m)=b2 at *;generalize c.us.any (fun x=>!nG c.qs.length c.ms.length x)=b3 at *;generalize c.qs.length=nq at *;generalize c.ms.length=nm at *;generalize c.us.length=nu at *;have bx:=bwA w (.cells #[.slice qo nq qc,.slice mo nm mc,.slice uo nu uc] 26);have B1:=I bx;have X1:=hnw w 26 [.slice qo nq qc,.slice mo nm mc,.slice uo nu uc];clear bx
 go_enter Tryz.func20,Tryz.ntmps20
 go_upto_region 1 with(fail)
 generalize w.alloc (.cells #[.slice qo nq qc,.slice mo nm mc,.slice uo nu uc] 26)=w1 at *;obtain⟨c0,c1,c2⟩:=X1.o.c3;by_cases g1:128<nq
 ·have i1:(128:Int)<(nq:Int):=by omega
  have HD:Hid (decide (nq<=128)=false):=I (decide_eq_false (by omega))
  go_wp2_with fail
  go_ret;exact⟨aF (by first | rfl | simp[HD.o]),B1.o⟩
 have i1:¬ (128:Int)<(nq:Int):=by omega
 have rz:Hid (decide (nq<=128)=true):=I (decide_eq_true (by omega));by_cases g2:64<nm
 ·have i2:(64:Int)<(nm:Int):=by omega
  have HD:Hid (decide (nm<=64)=false):=I (decide_eq_false (by omega))
  go_wp2_with fail
  go_ret;exact⟨aF (by first | rfl | simp[HD.o]),B1.o⟩
 have i2:¬ (64:Int)<(nm:Int):=by omega
 have sa:Hid (decide (nm<=64)=true):=I (decide_eq_true (by omega));by_cases g3:4096<nu
 ·have i3:(4096:Int)<(nu:Int):=by omega
  have HD:Hid (decide (nu<=4096)=false):=I (decide_eq_false (by omega))
  go_wp2_with fail
  go_ret;exact⟨aF (by first | rfl | simp[HD.o]),B1.o⟩
 have i3:¬ (4096:Int)<(nu:Int):=by omega
 have Pt:Hid (decide (nu<=4096)=true):=I (decide_eq_true (by omega))
 go_wp2_with fail
 refine(HQ.o w1 B1.o).mono ?_;rintro e w2 ⟨rfl,uQ⟩;have B2:=I (B1.o.trans (uQ.mono B1.o.size));have X2:=I (X1.o.step uQ);clear uQ c0 c1 c2 i1 i2 i3 B1 X1;obtain⟨c0,c1,c2⟩:=X2.o.c3
 cases b1 with
 | true =>
  go_wp2_with fail
  go_ret;exact⟨aF (by first | rfl | simp[rz.o,sa.o,Pt.o]),B2.o⟩
 | false =>
  go_wp2_with fail
  refine(HM.o w2 B2.o).mono ?_;rintro e w3 ⟨rfl,Ps⟩;have B3:=I (B2.o.trans (Ps.mono B2.o.size));have X3:=I (X2.o.step Ps);clear Ps c0 c1 c2 B2 X2;obtain⟨c0,c1,c2⟩:=X3.o.c3
  cases b2 with
  | true =>
   go_wp2_with fail
   go_ret;exact⟨aF (by first | rfl | simp[rz.o,sa.o,Pt.o]),B3.o⟩
  | false =>
   go_wp2_with fail
   refine(HU.o w3 B3.o _ X3.o).mono ?_;rintro e w4 ⟨rfl,IA⟩;have B4:=I (B3.o.trans (IA.mono B3.o.size));clear IA c0 c1 c2 B3 X3
   go_wp2_with fail
   go_ret;exact⟨aF (by first | rfl | simp[rz.o,sa.o,Pt.o]),B4.o⟩
end
section
open Go.RowKit Go.Sort Go.Maps
theorem Ztt(l:List Nat)(w:World)(hl:l.length<=9223372036854775807)(hb:∀ y∈l,y<256) :
  Calls Tryz.prog 233 #[.string (aB l)] w fun e w'=>e = .returned (.bool (nD l))/\w=w':=by
 rw[<- PY];have SZ:=I (tH l);have HX:Hid (∀ i:Nat,i<l.length->∀ w,(Instr.index 9 (.string (aB l)) (.int .i64 (i:Int))).run Tryz.prog w = .ok (.int .u8 ((l.getD i 0:Nat):Int)) w):=I (fun i hi w=>St l i hi hb w);clear hb;generalize aB l=t at *;have iK:=SZ.o;by_cases h0:l.length<1
 ·have i0:(l.length:Int)<1:=by omega
  go_enter Tryz.func233,Tryz.ntmps233
  go_wp2
  go_ret;exact⟨aF (by unfold zQ;rw[decide_eq_true h0];rfl),rfl⟩
 ·have i0:¬ ((l.length:Int)<1):=by omega
  by_cases Cd:20<l.length
  ·have Tw:(20:Int)<l.length:=by omega
   go_enter Tryz.func233,Tryz.ntmps233
   go_wp2
   go_ret;exact⟨aF (by unfold zQ;rw[decide_eq_true Cd];simp),rfl⟩
  ·have Tw:¬ ((20:Int)<l.length):=by omega
   have hx:∀ w,(Instr.index 9 (.string t) (.int .i64 0)).run Tryz.prog w = .ok (.int .u8 ((l.getD 0 0:Nat):Int)) w:=fun w=>HX.o 0 (by omega) w
   obtain⟨v,hv⟩:=exq (l.getD 0 0);rw[hv] at hx;have HV:=I hv;obtain⟨q,hq⟩:=exq (tX v);have HQ:=I hq;clear hv hq
   go_enter Tryz.func233,Tryz.ntmps233
   go_wp2_with fail
   refine(nr v w).mono ?_;rintro e w1 ⟨rfl,rfl⟩;rw[HQ.o]
   cases q with
   | false =>
    go_wp2
    go_ret;exact⟨aF (by unfold zQ;rw[HV.o,HQ.o];simp),rfl⟩
   | true =>
    clear hx
    go_wp2_with fail
    go_loop [3] (fun c=>∃ i:Nat,c = .int .i64 i/\1<=i/\i<=l.length/\Hid (∀ j,1<=j->j<i->jR (l.getD j 0)=true)) (fun c=>(l.length-intOf c).toNat)
    case atStart=>exact⟨1,rfl,by omega,by omega,I (fun j hj nJ=>absurd hj (by omega))⟩
    case round =>
     obtain⟨i,rfl,h1,hi,hz⟩:=hrel;have e2:=w1i i (by omega);by_cases aE:i<l.length
     ·have hx:=HX.o i aE
      have ii:(i:Int)<l.length:=by omega
      obtain⟨u,hu⟩:=exq (l.getD i 0);rw[hu] at hx;have HU:=I hu;clear hu
      have Jg:jR u=true->∀ j,1<=j->j<i+1->jR (l.getD j 0)=true:=fun hh j hj nJ=>by
       rcases gQ j i with h | h
       ·exact hz.o j hj h
       ·obtain rfl:j=i:=by omega
        rw[HU.o];exact hh
      have Pu:=I Jg;clear Jg;obtain⟨x,sM⟩:=exq (tX u);obtain⟨y,Xj⟩:=exq (Ko u);have Ce:=I sM;have Jh:=I Xj;clear sM Xj
      go_wp2_with fail
      refine(nr u _).mono ?_;rintro e w' ⟨rfl,rfl⟩;rw[Ce.o]
      cases x with
      | true =>
       go_wp2
       go_round
       case rel=>exact⟨i+1,rfl,by omega,by omega,I (Pu.o (BK Ce.o))⟩
       case measure=>simp[intOf];omega
      | false =>
       go_wp2_with fail
       refine(WH u _).mono ?_;rintro e w' ⟨rfl,rfl⟩;rw[Jh.o]
       cases y with
       | true =>
        go_wp2
        go_round
        case rel=>exact⟨i+1,rfl,by omega,by omega,I (Pu.o (by unfold jR;rw[Ce.o,Jh.o];rfl))⟩
        case measure=>simp[intOf];omega
       | false =>
        by_cases Xk:u=95
        ·have c1:(u:Int)=95:=by omega
         have c2:((u:Int)==95)=true:=by rw[beq_iff_eq];omega
         go_wp2
         go_round
         case rel=>exact⟨i+1,rfl,by omega,by omega,I (Pu.o (by unfold jR;rw[Ce.o,Jh.o,Xk];rfl))⟩
         case measure=>simp[intOf];omega
        ·have c1:¬ ((u:Int)=95):=by omega
         have c2:((u:Int)==95)=false:=by rw[beq_eq_false_iff_ne];omega
         go_wp2
         go_ret;exact⟨aF (by unfold zQ;rw[WI jR l i h1 aE (by rw[HU.o];unfold jR;rw[Ce.o,Jh.o,show(u==95)=false from beq_eq_false_iff_ne.mpr Xk];rfl)];simp),rfl⟩
     ·obtain rfl:i=l.length:=by omega
      go_wp2
      go_ret;exact⟨aF (by unfold zQ;rw[WJ jR l hz.o,HV.o,HQ.o,decide_eq_false h0,decide_eq_false Cd];rfl),rfl⟩
theorem WK(l:List Nat)(w:World)(hl:l.length<=9223372036854775807)(hb:∀ y∈l,y<256) :
  Calls Tryz.prog 199 #[.string (aB l)] w fun e w'=>e = .returned (.bool (gX l))/\RowKit.Below w.heap.size w w':=by
 have H1:=I (Ztt l w hl hb);have H2:=I (fun(W:World) (g:Nat) (hr:aC W g 9 (tY.map (fun s=>.string (aB s))))=>SD g 0 8 8 tY l W rfl (by omega) (fun j u hj=>by rw[Nat.zero_add];exact hr.cell j u hj) hb DW);have HV:Hid (gX l=(nD l&&!yN tY l)):=I rfl;have B0:=I (aG w.heap.size w);clear hl hb;generalize gX l=V at *;generalize nD l=b1 at *;generalize yN tY l=b2 at *;generalize aB l=t at *
 go_enter Tryz.func199,Tryz.ntmps199
 go_wp2_with fail
 refine H1.o.mono ?_;rintro e w1 ⟨rfl,rfl⟩
 cases b1 with
 | false =>
  go_wp2
  go_ret;exact⟨aF (by rw[HV.o];rfl),B0.o⟩
 | true =>
  go_wp2_with fail
  refine(RZ w).mono ?_;rintro e w2 ⟨rfl,hv,uQ⟩;have HH:=I (H2.o w2 _ hv);have B2:=I uQ;clear hv uQ
  go_wp2_with fail
  refine HH.o.mono ?_;rintro e w3 ⟨rfl,rfl⟩
  go_wp2
  go_ret;exact⟨aF (by rw[HV.o];rfl),B2.o⟩
theorem EG(l:List Nat)(w:World)(hl:l.length<=9223372036854775807)(hb:∀ y∈l,y<256) :
  Calls Tryz.prog 172 #[.string (aB l)] w fun e w'=>e = .returned (.bool (iG l))/\RowKit.Below w.heap.size w w':=by
 have SZ:=I (tH l);have HX:Hid (∀ i:Nat,i<l.length->∀ w,(Instr.index 9 (.string (aB l)) (.int .i64 (i:Int))).run Tryz.prog w = .ok (.int .u8 ((l.getD i 0:Nat):Int)) w):=I (fun i hi w=>St l i hi hb w);have HS:Hid (∀ i:Nat,i<=l.length->∀ w,(Instr.slice 9 (.string (aB l)) (some (.int .i64 (i:Int))) none none).run Tryz.prog w = .ok (.string (aB (l.drop i))) w):=I (fun i hi w=>VC l i hi w);have HU:Hid (∀ i:Nat,i<=l.length->∀ w,(Instr.slice 9 (.string (aB l)) none (some (.int .i64 (i:Int))) none).run Tryz.prog w = .ok (.string (aB (l.take i))) w):=I (fun i hi w=>VD l i hi w);have wC:=I (fun(i:Nat) W=>WK (l.take i) W (by rw[List.length_take];omega) (fun y hy=>hb y (List.mem_of_mem_take hy)));have sO:=I (fun(i:Nat) W=>WK (l.drop i) W (by rw[List.length_drop];omega) (fun y hy=>hb y (List.mem_of_mem_drop hy)));have HV:Hid (iG l=(decide (bL bO l<l.length)&&(gX (l.take (bL bO l))&&gX (l.drop (bL bO l+1))))):=I rfl;have HB:=I hb;have B0:=I (aG w.heap.size w);clear hb;generalize iG l=V at *;generalize aB l=t at *
 go_enter Tryz.func172,Tryz.ntmps172
 go_wp2_with fail
 go_loop [3] (fun c=>∃ i:Nat,c = .int .i64 i/\i<=l.length/\Hid (∀ j,j<i->l.getD j 0≠46)) (fun c=>(l.length-intOf c).toNat)
 case atStart=>exact⟨0,rfl,by omega,I (fun j hj=>absurd hj (jU j))⟩
 case round =>
  obtain⟨i,rfl,hi,hz⟩:=hrel;have iK:=SZ.o;by_cases aE:i<l.length
  ·have hx:=HX.o i aE
   have e2:=w1i i (by omega)
   have ii:(i:Int)<l.length:=by omega
   obtain⟨v,hv⟩:=exq (l.getD i 0);rw[hv] at hx;have uR:=I hv;clear hv;by_cases xL:v=46
   ·have c1:((v:Int)==46)=true:=by rw[beq_iff_eq];omega
    have HR:Hid (bL bO l=i):=I (UZ l i aE hz.o (by rw[uR.o];exact xL));have fZ:Hid (V=(gX (l.take i)&&gX (l.drop (i+1)))):=I (by rw[HV.o,HR.o,decide_eq_true aE,cH]);have hu:=HU.o i (by omega)
    have hs:∀ w,(Instr.slice 9 (.string t) (some (.int .i64 ((i:Int)+1))) none none).run Tryz.prog w = .ok (.string (aB (l.drop (i+1)))) w:=fun w=>by
     have h:=HS.o (i+1) (by omega) w
     rwa [show((i+1:Nat):Int)=(i:Int)+1 from by omega] at h
    have F1:=I (wC.o i);have F2:=I (sO.o (i+1));clear xL HR HV hz uR;generalize gX (l.take i)=b1 at *;generalize gX (l.drop (i+1))=b2 at *;generalize aB (l.take i)=s1 at *;generalize aB (l.drop (i+1))=s2 at *
    go_wp2_with fail
    refine(F1.o w).mono ?_;rintro e w1 ⟨rfl,Xg⟩;have B1:=I Xg;clear Xg
    cases b1 with
    | false =>
     go_wp2
     go_ret;exact⟨aF (by rw[fZ.o];rfl),B1.o⟩
    | true =>
     go_wp2_with fail
     refine(F2.o w1).mono ?_;rintro e w2 ⟨rfl,uQ⟩;have B2:=I (B1.o.trans (uQ.mono B1.o.size));clear uQ hu hs hx F1 F2
     cases b2 with
     | false =>
      go_wp2
      go_ret;exact⟨aF (by rw[fZ.o];rfl),B2.o⟩
     | true =>
      go_wp2
      go_ret;exact⟨aF (by rw[fZ.o];rfl),B2.o⟩
   ·have c1:((v:Int)==46)=false:=by rw[beq_eq_false_iff_ne];omega
    have HZ:Hid (∀ j,j<i+1->l.getD j 0≠46):=I (fun j hj=>by
     rcases gQ j i with h | h
     ·exact hz.o j h
     ·obtain rfl:j=i:=by omega
      rw[uR.o];exact xL)
    clear xL hz
    go_wp2
    go_round
    case rel=>exact⟨i+1,by go_num,by omega,HZ⟩
    case measure=>simp only[intOf];omega
  ·have ii:¬ ((i:Int)<l.length):=by omega
   have HX:Hid (V=false):=I (by rw[HV.o,VB l (fun j hj=>hz.o j (by omega)),decide_eq_false (by omega)];rfl)
   go_wp2
   go_ret;exact⟨aF HX.o.symm,B0.o⟩
theorem Zqe(κ:Int)(l r:List Nat)(c:Int)(ao:Option Addr)(n cap:Nat)(w:World)(hl:NmL l)(hr:NmL r) :
  Calls Tryz.prog 198 #[.agg #[.int .i64 κ,.string (aB l),.string (aB r),.int .i64 c,.slice ao n cap]] w fun e w'=>e = .returned (.bool (oV κ l r c n))/\RowKit.Below w.heap.size w w':=by
 have bx:=(aG w.heap.size w).alloc (aO _) (.cells #[.int .i64 κ,.string (aB l),.string (aB r),.int .i64 c,.slice ao n cap] 54);have B1:=I bx;have X1:=hnw w 54 [.int .i64 κ,.string (aB l),.string (aB r),.int .i64 c,.slice ao n cap];have H1:=I (fun W=>EG l W hl.2 hl.1);have H2:=I (fun W=>EG r W hr.2 hr.1);have HV:Hid (oV κ l r c n=(κ==0&&(n==0&&((l==[]||iG l)&&((r==[]||iG r)&&(decide (-1099511627776<=c)&&decide (c<1099511627776))))))):=I rfl
 have HE:∀ m:List Nat,(aB m).toList.isEmpty=(m==[]):=fun m=>by
  cases m with
  | nil=>exact Kz.trans rfl
  | cons a b=>rw[Hp _ (by simp)];rfl
 have Wp:=HE l;have rr:=HE r;obtain⟨V,hV⟩:=exq (oV κ l r c n);rw[hV] at HV ⊢;clear bx hl hr HE hV;generalize (l==[])=e1 at *;generalize (r==[])=e2 at *;generalize iG l=v1 at *;generalize iG r=v2 at *;generalize aB l=y at *;generalize aB r=z at *
 go_enter Tryz.func198,Tryz.ntmps198
 go_upto_region 1 with(fail)
 generalize w.alloc (.cells #[.int .i64 κ,.string y,.string z,.int .i64 c,.slice ao n cap] 54)=w1 at *;obtain⟨x0,x1,x2,x3,x4⟩:=X1.o.c5;by_cases k0:κ=0
 ·have k0b:(κ==0)=true:=beq_iff_eq.mpr k0
  rw[k0b,cH] at HV;clear k0;by_cases n0:n=0
  ·have n0b:(n==0)=true:=beq_iff_eq.mpr n0
   have n0c:((n:Int)==0)=true:=by rw[n0];rfl
   rw[n0b,cH] at HV;clear n0 n0b
   cases e1 with
   | true =>
    rw[Bool.true_or,cH] at HV
    cases e2 with
    | true =>
     rw[Bool.true_or,cH] at HV;by_cases c1:-1099511627776<=c
     ·rw[decide_eq_true c1,cH] at HV
      go_wp2
      go_ret;exact⟨aF (by rw[HV.o]),B1.o⟩
     ·rw[decide_eq_false c1,dS] at HV
      go_wp2
      go_ret;exact⟨aF (by rw[HV.o]),B1.o⟩
    | false =>
     rw[Bool.false_or] at HV
     go_wp2_with fail
     refine(H2.o w1).mono ?_;rintro e w2 ⟨rfl,b2⟩;have B2:=B1.tr b2;have X2:=I (X1.o.step b2);clear b2 x0 x1 x2 x3 x4;have x3:=X2.o.cell 3 _ rfl
     cases v2 with
     | false =>
      rw[dS] at HV
      go_wp2
      go_ret;exact⟨aF (by rw[HV.o]),B2.o⟩
     | true =>
      rw[cH] at HV;by_cases c1:-1099511627776<=c
      ·rw[decide_eq_true c1,cH] at HV
       go_wp2
       go_ret;exact⟨aF (by rw[HV.o]),B2.o⟩
      ·rw[decide_eq_false c1,dS] at HV
       go_wp2
       go_ret;exact⟨aF (by rw[HV.o]),B2.o⟩
   | false =>
    rw[Bool.false_or] at HV
    go_wp2_with fail
    refine(H1.o w1).mono ?_;rintro e w2 ⟨rfl,b2⟩;have B2:=B1.tr b2;have X2:=I (X1.o.step b2);clear b2 x0 x1 x2 x3 x4;have x2:=X2.o.cell 2 _ rfl;have x3:=X2.o.cell 3 _ rfl
    cases v1 with
    | false =>
     rw[dS] at HV
     go_wp2
     go_ret;exact⟨aF (by rw[HV.o]),B2.o⟩
    | true =>
     rw[cH] at HV
     cases e2 with
     | true =>
      rw[Bool.true_or,cH] at HV;by_cases c1:-1099511627776<=c
      ·rw[decide_eq_true c1,cH] at HV
       go_wp2
       go_ret;exact⟨aF (by rw[HV.o]),B2.o⟩
      ·rw[decide_eq_false c1,dS] at HV
       go_wp2
       go_ret;exact⟨aF (by rw[HV.o]),B2.o⟩
     | false =>
      rw[Bool.false_or] at HV
      go_wp2_with fail
      refine(H2.o w2).mono ?_;rintro e w3 ⟨rfl,b3⟩;have B3:=B2.tr b3;have X3:=I (X2.o.step b3);clear b3 x2 x3;have x3:=X3.o.cell 3 _ rfl
      cases v2 with
      | false =>
       rw[dS] at HV
       go_wp2
       go_ret;exact⟨aF (by rw[HV.o]),B3.o⟩
      | true =>
       rw[cH] at HV;by_cases c1:-1099511627776<=c
       ·rw[decide_eq_true c1,cH] at HV
        go_wp2
        go_ret;exact⟨aF (by rw[HV.o]),B3.o⟩
       ·rw[decide_eq_false c1,dS] at HV
        go_wp2
        go_ret;exact⟨aF (by rw[HV.o]),B3.o⟩
  ·have n0b:(n==0)=false:=beq_eq_false_iff_ne.mpr n0
   have n0c:((n:Int)==0)=false:=by rw[beq_eq_false_iff_ne];omega
   rw[n0b,dS] at HV;clear n0 n0b
   go_wp2
   go_ret;exact⟨aF (by rw[HV.o]),B1.o⟩
 ·have k0b:(κ==0)=false:=beq_eq_false_iff_ne.mpr k0
  rw[k0b,dS] at HV;clear k0
  go_wp2
  go_ret;exact⟨aF (by rw[HV.o]),B1.o⟩
theorem Zqf(w:World)(l r:List Nat)(c:Int)(ao:Option Addr)(n cap:Nat)(hl:NmL l)(hr:NmL r) :
  Calls Tryz.prog 171 #[.agg #[.int .i64 0,.string (aB l),.string (aB r),.int .i64 c,.slice ao n cap]] w fun e w'=>e = .returned (.bool (oV 0 l r c n))/\RowKit.Below w.heap.size w w':=by
 have bx:=(aG w.heap.size w).alloc (aO _) (.cells #[.int .i64 0,.string (aB l),.string (aB r),.int .i64 c,.slice ao n cap] 54);have B1:=I bx;have X1:=hnw w 54 [.int .i64 0,.string (aB l),.string (aB r),.int .i64 c,.slice ao n cap];have HA:=I (fun W=>Zqe 0 l r c ao n cap W hl hr);clear bx hl hr;generalize oV 0 l r c n=V at *;generalize aB l=y at *;generalize aB r=z at *
 go_enter Tryz.func171,Tryz.ntmps171
 go_upto_region 1 with(fail)
 generalize w.alloc (.cells #[.int .i64 0,.string y,.string z,.int .i64 c,.slice ao n cap] 54)=w1 at *;have x0:=X1.o.cell 0 _ rfl
 go_wp2_with (refine wpList_load_row rfl 54 (.tmp 1) rfl w.heap.size ?x1 54 #[.int .i64 0,.string y,.string z,.int .i64 c,.slice ao n cap] (0,0) _ X1.o Tryz.underlying54 rfl (oT _ rfl) ?_;(case x1=>rfl))
 refine(HA.o w1).mono ?_;rintro e w2 ⟨rfl,b2⟩;have B2:=B1.tr b2;clear b2
 go_wp2
 go_ret;exact⟨rfl,B2.o⟩
theorem WL:∀ (N:Nat) (p:Prd) (w:World) (P:Nat->Prop) (vs:List Value),cO p<=N->N<=1000000->ByL p->cK w P p vs ->
  Calls Tryz.prog 171 #[.agg vs.toArray] w fun e w'=>e = .returned (.bool (dV p))/\RowKit.Below w.heap.size w w'
 | 0,p,w,P,vs,hN,_,_,_=>by have:=Hl p;omega
 | N+1,.mk κ l r c ks,w,P,vs,hN,hM,hb,h=>by
  have uL:cR ks<=N:=by unfold cO at hN;omega
  have hl:=Hm ks;unfold cK at h;unfold ByL at hb;obtain⟨ao,cap,rfl,hk⟩:=h;by_cases hκ:κ=0
  ·subst hκ
   have:=Zqf w l r c ao ks.length cap hb.1 hb.2.1;rw[Vy,if_pos rfl];exact this
  ·exact VP w P κ l r c ks ao ks.length cap hκ rfl (by omega) hk (fun q w' us hq bH=>WL N q w' P us (by
    obtain⟨i,hi⟩:=pV.1 hq;have:=Hn ks i q hi
    omega) (by omega) ((nk ks).1 hb.2.2 q hq) bH)
theorem Zqg(p:Prd)(w:World)(P:Nat->Prop)(vs:List Value)(hN:cO p<=1000000)(hb:ByL p)(aQ:vO p)(h:cK w P p vs) :
  Calls Tryz.prog 124 #[.agg vs.toArray] w fun e w'=>e = .returned (.bool (jV p))/\RowKit.Below w.heap.size w w':=by
 obtain⟨xa,xn,xc,rfl,-⟩:=h.form;have bx:=(aG w.heap.size w).alloc (aO _) (.cells #[.int .i64 p.k,.string (aB p.l),.string (aB p.r),.int .i64 p.c,.slice xa xn xc] 54);have B1:=I bx;have X1:=hnw w 54 [.int .i64 p.k,.string (aB p.l),.string (aB p.r),.int .i64 p.c,.slice xa xn xc];have HF:=I (fun W (hW:RowKit.Below w.heap.size w W)=>DP p 100 12 (by omega) (by omega) W P _ aQ (h.below hW));rw[VV p] at HF;have HG:=I (fun W (hW:RowKit.Below w.heap.size w W)=>WL (cO p) p W P _ (aO _) hN hb (h.below hW));have HV:Hid (jV p=(sA p&&dV p)):=I rfl;obtain⟨V,hV⟩:=exq (jV p);rw[hV] at HV ⊢;clear bx h hb aQ hN hV;generalize sA p=s at *;generalize dV p=f at *;generalize p.k=q0 at *;generalize aB p.l=q1 at *;generalize aB p.r=q2 at *;generalize p.c=q3 at *
 go_enter Tryz.func124,Tryz.ntmps124
 go_upto_region 1 with(fail)
 generalize w.alloc (.cells #[.int .i64 q0,.string q1,.string q2,.int .i64 q3,.slice xa xn xc] 54)=w1 at *
 go_wp2_with (refine wpList_load_row rfl 54 (.tmp 1) rfl w.heap.size ?a1 54 #[.int .i64 q0,.string q1,.string q2,.int .i64 q3,.slice xa xn xc] (0,0) _ X1.o Tryz.underlying54 rfl (oT _ rfl) ?_;(case a1=>rfl))
 refine(HF.o w1 B1.o).mono ?_;rintro e w2 ⟨rfl,b2⟩;have B2:=B1.tr b2;have X2:=I (X1.o.step b2);clear b2 X1 B1
 cases s with
 | false =>
  go_wp2
  go_ret;exact⟨aF (by rw[HV.o];rfl),B2.o⟩
 | true =>
  go_wp2_with (refine Ba (by rfl) 54 (.tmp 1) rfl w.heap.size (by rfl) 54 #[.int .i64 q0,.string q1,.string q2,.int .i64 q3,.slice xa xn xc] (0,0) _ X2.o Tryz.underlying54 rfl (oT _ rfl) ?_)
  refine(HG.o w2 B2.o).mono ?_;rintro e w3 ⟨rfl,b3⟩;have B3:=B2.tr b3;clear b3
  go_wp2
  go_ret;exact⟨aF (by rw[HV.o];rfl),B3.o⟩
theorem Zor(w:World)(P:Nat->Prop)(l:List Bnd)(ao:Option Addr)(n cap:Nat)(hn:n=l.length)(bN:n<=10000000000000)(aJ:∀ b∈l,NmL b.n)(hk:tJ w P l ao) :
  Calls Tryz.prog 125 #[.slice ao n cap] w fun e w'=>e = .returned (.bool (vbP l))/\RowKit.Below w.heap.size w w':=by
 have HK:=I (fun W (hW:RowKit.Below w.heap.size w W)=>hk.below hW);have HN:=I hn;have cV:=I aJ;have B0:=I (aG w.heap.size w);obtain⟨V,hV⟩:=exq (vbP l);have HV:Hid (V=vbG ((l.take 0).map (·.n)) (l.drop 0)):=I (by rw[<- hV];rfl);rw[hV];clear hk hn aJ hV
 go_enter Tryz.func125,Tryz.ntmps125
 go_wp2_with fail
 go_loopw [3] (fun cc wr=>∃ (i:Nat),cc = .int .i64 i/\i<=n/\Hid (RowKit.Below w.heap.size w wr)/\Hid (V=vbG ((l.take i).map (·.n)) (l.drop i))) (fun c _=>(n-intOf c).toNat)
 case atStart=>exact⟨0,rfl,by omega,B0,HV⟩
 case round =>
  clear B0 HV;obtain⟨i,rfl,hi,hw,hv⟩:=hrel;have e2:=w1i i (by omega);by_cases aE:i<n
  ·have ii:(i:Int)<n:=by omega
   have Pr:Hid (∀ W,RowKit.Below w.heap.size w W->∃ g off,ao=some ⟨g,off,none⟩/\g<w.heap.size/\∀ j b,l[j]?=some b->dD W g (off+j*2) [.string (aB b.n),.int .i64 b.v]):=I (fun W hW=>by
    rcases HK.o W hW with h | ⟨g,off,h1,h2,h3,h4⟩
    ·rw[h] at HN;have:=HN.o;simp at this;omega
    ·rcases HK.o w (aG _ _) with h' | ⟨g',off',kM,Pn,Cb,j6⟩
     ·rw[h'] at HN;have:=HN.o;simp at this;omega
     ·have e:g'=g:=by rw[h1] at kM;injection kM with kM;injection kM with kM _;exact kM.symm
      exact⟨g,off,h1,by rw[<- e];exact Cb,fun j b hb=>Vz h4 j b hb⟩)
   obtain⟨g,off,bI,hg,-⟩:=Pr.o w (aG _ _)
   have mB:Hid (∀ W,RowKit.Below w.heap.size w W->∀ j b,l[j]?=some b->dD W g (off+j*2) [.string (aB b.n),.int .i64 b.v]):=I (fun W hW=>by
    obtain⟨g',off',h1,-,h3⟩:=Pr.o W hW;rw[bI] at h1;injection h1 with h1;injection h1 with e1 e2;subst e1 e2
    exact h3)
   have Gc:=I hg;have mT:=I bI;clear Pr hg;subst bI;have HQ:Hid (∃ q,l[i]?=some q):=I ⟨_,aL (by rw[<- HN.o];exact aE)⟩;obtain⟨q,bX⟩:=HQ.o;have gZ:=I bX;have bQ:=I (hv.o.trans (my l i q bX));have fW:=I (cV.o q (bU bX));have aH:=mB.o wr hw.o i q bX;have s0:=aH 0 _ rfl;have s1:=aH 1 _ rfl;rw[Nat.add_zero] at s0;have Gb:=I (fun W=>EG q.n W fW.o.2 fW.o.1);have sP:=I (fun(b:Bnd) (hb:b∈l)=>Nr b.n q.n (cV.o b hb).1 fW.o.1);have Xh:Hid (decide (q.n∈(l.take i).map (·.n))=decide (q.n∈(l.take i).map (·.n))):=I rfl;clear aH bX HQ hv;obtain⟨mt,uO⟩:=exq (decide (q.n∈(l.take i).map (·.n)));have uS:=I uO;rw[uO] at bQ;clear uO Xh;generalize cY:aB q.n=y at *;have rt:=I cY;clear cY;generalize q.v=v at *;generalize iG q.n=vn at *
   go_wp2_with fail
   refine(Gb.o wr).mono ?_;rintro e w2 ⟨rfl,b2⟩;have W2:=hw.tr b2;have Cc:=cell_later b2 s0;have rx:=cell_later b2 s1;clear b2 hw s0 s1
   cases vn with
   | false =>
    have HF:Hid (V=false):=I (by rw[bQ.o,dS,Bool.and_false])
    go_wp2
    go_ret;exact⟨aF HF.o.symm,W2.o⟩
   | true =>
    by_cases v0:v<0
    ·have HF:Hid (V=false):=I (by rw[bQ.o,decide_eq_false (show ¬ 0<=v by omega),dS,Bool.and_false,Bool.and_false])
     go_wp2
     go_ret;exact⟨aF HF.o.symm,W2.o⟩
    ·by_cases v1:65535<v
     ·have HF:Hid (V=false):=I (by rw[bQ.o,decide_eq_false (show ¬ v<=65535 by omega),dS,Bool.and_false,Bool.and_false,Bool.and_false])
      go_wp2
      go_ret;exact⟨aF HF.o.symm,W2.o⟩
     ·have HF:Hid (V=(!mt&&vbG ((l.take (i+1)).map (·.n)) (l.drop (i+1)))):=I (by rw[bQ.o,decide_eq_true (show 0<=v by omega),decide_eq_true (show v<=65535 by omega),cH,cH,cH])
      clear bQ
      go_wp2_with fail
      clear Cc rx;have Z2:=I (aG w2.heap.size w2);have N0:Hid (q.n ∉ (l.take 0).map (·.n)):=I (by simp)
      go_loopw [4] (fun cc wr=>∃ (k:Nat),cc = .int .i64 k/\k<=i/\Hid (RowKit.Below w2.heap.size w2 wr)/\Hid (q.n ∉ (l.take k).map (·.n))) (fun c _=>(i-intOf c).toNat)
      case atStart=>exact⟨0,rfl,by omega,Z2,N0⟩
      case round =>
       clear Z2 N0;obtain⟨k,rfl,hk,hq,Xi⟩:=hrel;have e3:=w1i k (by omega);have W3:=W2.tr hq.o;by_cases iQ:k<i
       ·have kk:(k:Int)<i:=by omega
        have kn:(k:Int)<n:=by omega
        have HQ:Hid (∃ b,l[k]?=some b):=I ⟨_,aL (by rw[<- HN.o];omega)⟩;obtain⟨b,mC⟩:=HQ.o;have t0:wr.cell? ⟨g,off+k*2,none⟩=some (.string (aB b.n)):=mB.o wr W3.o k b mC 0 _ rfl
        have s0:wr.cell? ⟨g,off+i*2,none⟩=some (.string y):=by rw[<- rt.o];exact mB.o wr W3.o i q gZ.o 0 _ rfl
        have he:=sP.o b (bU mC);have dM:Hid ((l.take (k+1)).map (·.n)=(l.take k).map (·.n)++[b.n]):=I (by rw[lN,mC,List.map_append];rfl)
        have ry:Hid ((b.n==q.n)=true->q.n∈(l.take i).map (·.n)):=I (fun h=>by
         have fH:b∈l.take i:=bU (i:=k) (by rw[List.getElem?_take,if_pos iQ];exact mC)
         exact List.mem_map.2 ⟨b,fH,by simpa using h⟩)
        have gg:Hid ((b.n==q.n)=false->q.n≠b.n):=I (fun h e=>by rw[e] at h;simp at h);clear mC HQ;generalize (b.n==q.n)=rb at *;generalize aB b.n=z at *
        go_upto_region 9 with(fail)
        go_quiet (fail)
        have Q2:=I (below_drewN hq.o nq);have W4:=I (below_drewN W3.o nq);clear hq s0 t0 W3;generalize wr.drewN nq=wd at *
        cases rb with
        | true =>
         have HX:Hid (V=false):=I (by rw[HF.o,<- uS.o,decide_eq_true (ry.o rfl)];rfl)
         go_wp2
         go_ret;exact⟨aF HX.o.symm,W4.o⟩
        | false =>
         have Lx:Hid (q.n ∉ (l.take (k+1)).map (·.n)):=I (by
          rw[dM.o,kI];rintro (h | h)
          ·exact Xi.o h
          ·exact gg.o rfl (by simpa using h))
         go_wp2
         go_roundw
         case rel=>exact⟨k+1,by go_num,by omega,Q2,Lx⟩
         case measure=>simp only[intOf];omega
       ·have kk:¬ ((k:Int)<i):=by omega
        obtain rfl:k=i:=by omega
        have HX:Hid (V=vbG ((l.take (k+1)).map (·.n)) (l.drop (k+1))):=I (by rw[HF.o,<- uS.o,decide_eq_false Xi.o];rfl)
        go_wp2
        go_roundw
        case rel=>exact⟨k+1,by go_num,by omega,W3,HX⟩
        case measure=>simp only[intOf];omega
  ·have ii:¬ ((i:Int)<n):=by omega
   have HX:Hid (V=true):=I (by rw[hv.o,List.drop_eq_nil_of_le (by rw[<- HN.o];omega),vbG])
   go_wp2
   go_ret;exact⟨aF HX.o.symm,hw.o⟩
end
section
open Go.RowKit Go.Sort Go.Maps
def wZ(s:List Nat):List (List Nat)->List (List Nat)
 | []=>[s]
 | x::l=>if ltL s x=true then s::x::l else x::wZ s l
def jO(l:List (List Nat))(s:List Nat):List (List Nat):=if l.any (fun x=>x==s)=true then l else wZ s l
theorem WM{s y:List Nat}:∀ {l:List (List Nat)},y∈wZ s l↔y=s\/y∈l
 | []=>by show y∈[s]↔_;simp
 | x::l=>by
  unfold wZ;split
  ·simp
  ·rw[List.mem_cons,WM,List.mem_cons]
   constructor
   ·rintro (h | h | h)
    ·exact .inr (.inl h)
    ·exact .inl h
    ·exact .inr (.inr h)
   ·rintro (h | h | h)
    ·exact .inr (.inl h)
    ·exact .inl h
    ·exact .inr (.inr h)
theorem WN(s:List Nat):∀ l:List (List Nat),(wZ s l).length=l.length+1
 | []=>rfl
 | x::l=>by
  unfold wZ;split
  ·rfl
  ·rw[List.length_cons,WN s l];rfl
theorem WO{l:List (List Nat)}{s y:List Nat}:y∈jO l s↔y=s\/y∈l:=by
 unfold jO;split
 ·rename_i h
  obtain⟨x,hx,e⟩:=List.any_eq_true.1 h;rw[beq_iff_eq] at e;subst e;constructor
  ·exact .inr
  ·rintro (rfl | h2)
   ·exact hx
   ·exact h2
 ·exact WM
theorem nx(l:List (List Nat))(s:List Nat):(jO l s).length<=l.length+1:=by
 unfold jO;split
 ·omega
 ·rw[WN];exact aO _
theorem Zwh{s x:List Nat}{l:List (List Nat)}{i:Nat}(h:l[i]?=some x):wZ s (l.drop i)=if ltL s x=true then s::x::l.drop (i+1) else x::wZ s (l.drop (i+1)):=by
 have hi:=(fD.1 h).1;rw[List.drop_eq_getElem_cons hi];have e:l[i]=x:=(fD.1 h).2;rw[e];rfl
theorem Ztu{x:List Nat}{l:List (List Nat)}{i:Nat}(h:l[i]?=some x):l.drop i=x::l.drop (i+1):=by
 have hi:=(fD.1 h).1;rw[List.drop_eq_getElem_cons hi];have e:l[i]=x:=(fD.1 h).2;rw[e]
def Hq(w w':World)(L:List (List Nat))(e:Ending):Prop:=(∃ o c,e = .returned (.slice o L.length c)/\pW w' o L)/\Below w.heap.size w w'
theorem Zz3(w:World)(l:List (List Nat))(ao:Option Addr)(n cap:Nat)(s:List Nat)(hn:n=l.length)(bN:n<=1000000)(hl:pW w ao l)(hb:∀ x∈l,∀ y∈x,y<256)(hs:∀ y∈s,y<256) :
  Calls Tryz.prog 220 #[.slice ao n cap,.string (aB s)] w fun e w'=>Hq w w' (jO l s) e:=by
 have fQ:=I (fun W (hW:Below w.heap.size w W)=>hl.below hW)
 have uT:Hid (∀ i,i<n->∃ x,l[i]?=some x/\((aB x).toList==(aB s).toList)=(x==s)/\Op.bytesLess (aB s).toList (aB x).toList=ltL s x):=I (fun i hi=>by
  have h1:i<l.length:=by rw[<- hn];exact hi
  have h2:=hb l[i] (List.getElem_mem h1)
  exact⟨l[i],aL h1,Nr _ _ h2 hs,DC _ _ hs h2⟩)
 have HN:=I hn;obtain⟨R,hR⟩:=exq (jO l s);rw[hR]
 have Pv:Hid (∀ i x,l[i]?=some x->(x==s)=true->R=l):=I (fun i x h1 h2=>by
  rw[<- hR];unfold jO
  rw[if_pos (List.any_eq_true.2 ⟨x,bU h1,h2⟩)])
 have Pw:Hid ((∀ x∈l,(x==s)=false)->R=wZ s l):=I (fun h=>by
  rw[<- hR];unfold jO
  rw[if_neg (fun h2=>by
   obtain⟨x,hx,e⟩:=List.any_eq_true.1 h2;rw[h x hx] at e
   cases e)])
 clear hl hb hs hn hR;have IB:=I (bwA w (.cells #[] 9));have IC:=I (OwnK.made w 9 1);generalize ID:aB s=sy at *;have IE:=I ID;clear ID
 go_enter Tryz.func220,Tryz.ntmps220
 go_upto_region 2 with(fail)
 generalize w.alloc (.cells #[] 9)=w1 at *
 go_upto_region 4 with(fail)
 go_loopw [5,6,7] (fun ov dv iv wr=>∃ (i:Nat) (d:Bool) (gm om cm k:Nat) (out:List (List Nat)),ov = .slice (some ⟨gm,om,none⟩) k cm/\dv = .bool d/\iv = .int .i64 i/\i<=n/\k<=2*i+1/\Hid (k=out.length)/\Hid (wZ s l=out++(if d=true then l.drop i else wZ s (l.drop i)))/\Hid (∀ j,j<i->∀ x,l[j]?=some x->(x==s)=false)/\Hid (OwnK wr w.heap.size 1 k cm (out.map oY) (some ⟨gm,om,none⟩))/\Hid (Below w.heap.size w wr)) (fun _ _ i _=>(n-intOf i).toNat)
 case atStart=>exact⟨0,false,w.heap.size,0,0,0,[],rfl,rfl,rfl,by omega,by omega,I rfl,I rfl,I (fun j hj=>absurd hj (jU j)),IC,IB⟩
 case round =>
  clear IC IB;obtain⟨i,d,gm,om,cm,k,out,rfl,rfl,rfl,hi,hk,HK,HI,HE,OM,BM⟩:=hrel;have e2:=w1i i (by omega);by_cases aT:i<n
  ·have ii:(i:Int)<n:=by omega
   obtain⟨x,hx,tO,aE⟩:=uT.o i aT;obtain⟨gl,ol,fI,dT,dW⟩:=(fQ.o wr BM.o).at i x hx;have HX:=I hx;have Gd:=I fI;have rT:=I (Zwh (s:=s) hx);have j9:=I (Ztu hx)
   have iY:(x==s)=false->Hid (∀ j,j<i+1->∀ x,l[j]?=some x->(x==s)=false):=fun h=>I (fun j hj y hy=>by
    rcases gQ j i with h2 | h2
    ·exact HE.o j h2 y hy
    ·obtain rfl:i=j:=by omega
     rw[HX.o] at hy;obtain rfl:=bF hy
     exact h)
   have lS:=I (Pv.o i x hx);have Ly:Hid (oY x = .string (aB x)):=I rfl;have Lz:Hid (oY s = .string sy):=I (by rw[<- IE.o];rfl);clear hx dT;have sd:=I (fQ.o wr BM.o);subst fI;generalize aB x=y at *
   cases Ge:(x==s) with
   | true =>
    rw[Ge] at tO;have eX:=I (lS.o Ge);clear Ge
    go_wp2_with fail
    go_ret;exact⟨⟨_,_,by rw[eX.o,<- HN.o];rfl,by rw[eX.o];exact sd.o⟩,BM.o⟩
   | false =>
    rw[Ge] at tO;have Ji:=iY Ge;clear Ge iY lS
    cases d with
    | true =>
     go_upto_region 11 with(fail)
     clear aE tO
     go_upto_region 5 with(at_builtin;refine jM 194 9 (.string ⟨#[]⟩) 1 16 Tryz.underlying194 ep rfl (by omega) (by omega) wr w.heap.size rfl (.tmp 36) (.tmp 41) rfl (some ⟨gm,om,none⟩) cm k (out.map oY) ?p1 OM.o BM.o.size 1 1 #[.string y] 9 ?p2 rfl (by omega) ?p3 ?p4 ?_;(case p1=>rfl);(case p2=>rfl);(case p3=>intro u hu;simp at hu;subst hu;rfl);(case p4=>omega);intro g5 off5 c5 wa o8 aX b8 bW;have OA:=I o8;have LA:=I (BM.o.trans b8);clear o8 aX b8 bW)
     go_wp2_with fail
     go_roundw
     case rel=>exact⟨i+1,true,g5,off5,c5,k+1,out++[x],rfl,rfl,by go_num,by omega,by omega,I (by rw[gL,<- HK.o];rfl),I (by have:=HI.o;rw[if_pos rfl,j9.o] at this;rw[this,if_pos rfl,List.append_assoc];rfl),Ji,I (by rw[List.map_append];show OwnK _ _ _ _ _ (out.map oY++[oY x]) _;rw[Ly.o];exact OA.o),LA⟩
     case measure=>simp only[intOf];omega
    | false =>
     cases rN:ltL s x with
     | true =>
      rw[rN] at aE;have Jj:Hid (wZ s (l.drop i)=s::x::l.drop (i+1)):=I (by rw[rT.o,if_pos rN]);clear rN
      go_upto_region 9 with(fail)
      clear aE tO
      go_upto_region 10 with(at_builtin;refine jM 194 9 (.string ⟨#[]⟩) 1 16 Tryz.underlying194 ep rfl (by omega) (by omega) wr w.heap.size rfl (.tmp 32) (.tmp 34) rfl (some ⟨gm,om,none⟩) cm k (out.map oY) ?p1 OM.o BM.o.size 1 1 #[.string sy] 9 ?p2 rfl (by omega) ?p3 ?p4 ?_;(case p1=>rfl);(case p2=>rfl);(case p3=>intro u hu;simp at hu;subst hu;rfl);(case p4=>omega);intro g5 off5 c5 wb o8 aX b8 bW;have OA:=I o8;have LA:=I (BM.o.trans b8);clear o8 aX b8 bW)
      have Px:=(fQ.o wb LA.o).at i x HX.o;obtain⟨l3,l5,Xl,-,Px⟩:=Px
      obtain⟨rfl,rfl⟩:gl=l3/\ol=l5:=by simpa using Xl
      have IF:aB x=y:=by
       have h9:=Ly.o;injection h9
      rw[IF] at Px;have l7:Hid (OwnK wb w.heap.size 1 (k+1) c5 ((out++[s]).map oY) (some ⟨g5,off5,none⟩)):=I (by rw[List.map_append];show OwnK _ _ _ _ _ (out.map oY++[oY s]) _;rw[Lz.o];exact OA.o);have IG:=LA;clear OM BM OA LA dW Xl IF
      go_upto_region 11 with(fail)
      go_upto_region 5 with(at_builtin;refine jM 194 9 (.string ⟨#[]⟩) 1 16 Tryz.underlying194 ep rfl (by omega) (by omega) wb w.heap.size rfl (.tmp 36) (.tmp 41) rfl (some ⟨g5,off5,none⟩) c5 (k+1) ((out++[s]).map oY) ?p1 l7.o IG.o.size 1 1 #[.string y] 9 ?p2 rfl (by omega) ?p3 ?p4 ?_;(case p1=>rfl);(case p2=>rfl);(case p3=>intro u hu;simp at hu;subst hu;rfl);(case p4=>omega);intro g6 off6 c6 wa o8 aX b8 bW;have OA:=I o8;have LA:=I (IG.o.trans b8);clear o8 aX b8 bW)
      go_wp2_with fail
      go_roundw
      case rel=>exact⟨i+1,true,g6,off6,c6,k+1+1,out++[s]++[x],rfl,rfl,by go_num,by omega,by omega,I (by rw[gL,gL,<- HK.o];rfl),I (by have:=HI.o;rw[if_neg (by decide),Jj.o] at this;rw[this,if_pos rfl,List.append_assoc,List.append_assoc];rfl),Ji,I (by rw[List.map_append];show OwnK _ _ _ _ _ ((out++[s]).map oY++[oY x]) _;rw[Ly.o];exact OA.o),LA⟩
      case measure=>simp only[intOf];omega
     | false =>
      rw[rN] at aE;have Jj:Hid (wZ s (l.drop i)=x::wZ s (l.drop (i+1))):=I (by rw[rT.o,if_neg (by rw[rN];decide)]);clear rN
      go_upto_region 11 with(fail)
      clear aE tO
      go_upto_region 5 with(at_builtin;refine jM 194 9 (.string ⟨#[]⟩) 1 16 Tryz.underlying194 ep rfl (by omega) (by omega) wr w.heap.size rfl (.tmp 36) (.tmp 41) rfl (some ⟨gm,om,none⟩) cm k (out.map oY) ?p1 OM.o BM.o.size 1 1 #[.string y] 9 ?p2 rfl (by omega) ?p3 ?p4 ?_;(case p1=>rfl);(case p2=>rfl);(case p3=>intro u hu;simp at hu;subst hu;rfl);(case p4=>omega);intro g5 off5 c5 wa o8 aX b8 bW;have OA:=I o8;have LA:=I (BM.o.trans b8);clear o8 aX b8 bW)
      go_wp2_with fail
      go_roundw
      case rel=>exact⟨i+1,false,g5,off5,c5,k+1,out++[x],rfl,rfl,by go_num,by omega,by omega,I (by rw[gL,<- HK.o];rfl),I (by have:=HI.o;rw[if_neg (by decide),Jj.o] at this;rw[this,if_neg (by decide),List.append_assoc];rfl),Ji,I (by rw[List.map_append];show OwnK _ _ _ _ _ (out.map oY++[oY x]) _;rw[Ly.o];exact OA.o),LA⟩
      case measure=>simp only[intOf];omega
  ·have ii:¬ (i:Int)<n:=by omega
   obtain rfl:n=i:=by omega
   have rU:Hid (R=out++if d=true then [] else [s]):=I (by
    have h1:=Pw.o (fun x hx=>by
     obtain⟨j,hj,rfl⟩:=List.mem_iff_getElem.1 hx
     exact HE.o j (by rw[HN.o];exact hj) _ (aL hj))
    rw[h1,HI.o,List.drop_eq_nil_of_le (by rw[HN.o];exact aO _)]
    cases d<;>rfl)
   have Lz:Hid (oY s = .string sy):=I (by rw[<- IE.o];rfl)
   cases d with
   | true =>
    have mD:Hid (R=out):=I (by rw[rU.o,if_pos rfl,List.append_nil])
    go_wp2_with fail
    go_ret;exact⟨⟨_,_,by rw[mD.o,<- HK.o];rfl,by rw[mD.o];exact OM.o.strsR HK.o⟩,BM.o⟩
   | false =>
    have mD:Hid (R=out++[s]):=I (by rw[rU.o,if_neg (by decide)])
    go_upto_region 13 with(fail)
    go_upto_region 14 with(at_builtin;refine jM 194 9 (.string ⟨#[]⟩) 1 16 Tryz.underlying194 ep rfl (by omega) (by omega) wr w.heap.size rfl (.tmp 45) (.tmp 47) rfl (some ⟨gm,om,none⟩) cm k (out.map oY) ?p1 OM.o BM.o.size 1 1 #[.string sy] 9 ?p2 rfl (by omega) ?p3 ?p4 ?_;(case p1=>rfl);(case p2=>rfl);(case p3=>intro u hu;simp at hu;subst hu;rfl);(case p4=>omega);intro g5 off5 c5 wa o8 aX b8 bW;have OA:=I o8;have LA:=I (BM.o.trans b8);clear o8 aX b8 bW)
    go_wp2_with fail
    go_ret;refine⟨⟨_,_,by rw[mD.o,gL,<- HK.o];rfl,?_⟩,LA.o⟩;rw[mD.o];refine OwnK.strsR (n:=k+1) (B:=w.heap.size) (cap:=c5) ?_ (by rw[gL,<- HK.o];rfl);rw[List.map_append];show OwnK _ _ _ _ _ (out.map oY++[oY s]) _;rw[Lz.o];exact OA.o
mutual
def kK(L:List (List Nat)):Prd->List (List Nat)
 | .mk k l r c ks=>joinL (let a:=if (l==[])=true then L else jO L l;if (r==[])=true then a else jO a r) ks
def joinL(L:List (List Nat)):List Prd->List (List Nat)
 | []=>L
 | q::qs=>joinL (kK L q) qs
end
mutual
def Wb:Prd->List (List Nat)
 | .mk k l r c ks=>l::r::Fj ks
def Fj:List Prd->List (List Nat)
 | []=>[]
 | q::qs=>Wb q++Fj qs
end
theorem WP{L:List (List Nat)}{s y:List Nat}:(y≠[]->(y∈(if (s==[])=true then L else jO L s)↔y=s\/y∈L)):=fun hy=>by
 by_cases h:s=[]
 ·subst h
  rw[if_pos (show(([]:List Nat)==[])=true from rfl)];exact⟨.inr,fun h=>h.resolve_left hy⟩
 ·rw[if_neg (by simpa using h)]
  exact WO
mutual
theorem EH{y:List Nat}(hy:y≠[]):∀ (p:Prd) (L:List (List Nat)),y∈kK L p↔y∈L\/y∈Wb p
 | .mk k l r c ks,L=>by
  unfold kK Wb;rw[WQ hy ks,WP hy,WP hy,List.mem_cons,List.mem_cons];constructor
  ·rintro ((h | h | h) | h)
   ·exact .inr (.inr (.inl h))
   ·exact .inr (.inl h)
   ·exact .inl h
   ·exact .inr (.inr (.inr h))
  ·rintro (h | h | h | h)
   ·exact .inl (.inr (.inr h))
   ·exact .inl (.inr (.inl h))
   ·exact .inl (.inl h)
   ·exact .inr h
theorem WQ{y:List Nat}(hy:y≠[]):∀ (ks:List Prd) (L:List (List Nat)),y∈joinL L ks↔y∈L\/y∈Fj ks
 | [],L=>by unfold joinL Fj;simp
 | q::qs,L=>by
  unfold joinL Fj;rw[WQ hy qs,EH hy q,kI,or_assoc]
end
theorem WR(L:List (List Nat))(s:List Nat):(if (s==[])=true then L else jO L s).length<=L.length+1:=by
 split
 ·omega
 ·exact nx L s
mutual
theorem Wc:∀ (p:Prd) (L:List (List Nat)),(kK L p).length<=L.length+2*cO p
 | .mk k l r c ks,L=>by
  unfold kK cO;have h1:=WR L l;have h2:=WR (if (l==[])=true then L else jO L l) r;have h3:=WT ks (if (r==[])=true then(if (l==[])=true then L else jO L l) else jO (if (l==[])=true then L else jO L l) r);show(joinL (if (r==[])=true then(if (l==[])=true then L else jO L l) else jO (if (l==[])=true then L else jO L l) r) ks).length<=_;omega
theorem WT:∀ (ks:List Prd) (L:List (List Nat)),(joinL L ks).length<=L.length+2*cR ks
 | [],L=>by unfold joinL;omega
 | q::qs,L=>by
  unfold joinL;have h1:=Wc q L;have h2:=WT qs (kK L q)
  have h3:cR (q::qs)=cO q+cR qs:=by rw[cR]
  omega
end
def BtS(L:List (List Nat)):Prop:=∀ x∈L,∀ y∈x,y<256
theorem BtS.put{L:List (List Nat)}{s:List Nat}(h:BtS L)(hs:∀ y∈s,y<256):BtS (jO L s):=fun x hx=>by
 rcases WO.1 hx with rfl | h2
 ·exact hs
 ·exact h x h2
theorem BtS.opt{L:List (List Nat)}{s:List Nat}(h:BtS L)(hs:∀ y∈s,y<256):BtS (if (s==[])=true then L else jO L s):=by
 split
 ·exact h
 ·exact h.put hs
mutual
theorem BtS.join:∀ (p:Prd) (L:List (List Nat)),tI p->BtS L->BtS (kK L p)
 | .mk k l r c ks,L,hb,h=>by
  unfold tI at hb;unfold kK;exact BtS.joinL ks _ hb.2.2 ((h.opt hb.1.1).opt hb.2.1.1)
theorem BtS.joinL:∀ (ks:List Prd) (L:List (List Nat)),zZ ks->BtS L->BtS (joinL L ks)
 | [],L,hb,h=>by unfold Go.Proofs.YtbcgocpihobjnaaGreatDoor.joinL;exact h
 | q::qs,L,hb,h=>by
  unfold zZ at hb;unfold Go.Proofs.YtbcgocpihobjnaaGreatDoor.joinL;exact BtS.joinL qs _ hb.2 (BtS.join q L hb.1 h)
end
end
section
open Go.RowKit Go.Sort Go.Maps
theorem Ztv (w:World) (P:Nat->Prop) (κ:Int) (l r:List Nat) (c:Int) (ks:List Prd) (ao:Option Addr) (n cap:Nat) (L:List (List Nat)) (lo:Option Addr) (k lc:Nat) (hn:n=ks.length) (hk:k=L.length) (bN:k+2+2*cR ks<=1000000) (By:Nt w P ks ao) (hL:pW w lo L) (hb:BtS L) (hl:∀ y∈l,y<256) (hr:∀ y∈r,y<256) (mC:zZ ks)
  (ih:∀ (q:Prd) (w:World) (vs:List Value) (L:List (List Nat)) (lo:Option Addr) (k lc:Nat),q∈ks->cK w P q vs->k=L.length->k+2*cO q<=1000000->pW w lo L->BtS L->Calls Tryz.prog 192 #[.slice lo k lc,.agg vs.toArray] w fun e w'=>Hq w w' (kK L q) e) :
  Calls Tryz.prog 192 #[.slice lo k lc,.agg #[.int .i64 κ,.string (aB l),.string (aB r),.int .i64 c,.slice ao n cap]] w fun e w'=>Hq w w' (kK L (.mk κ l r c ks)) e:=by
 have Cf:=I (fun W L lo k lc s (hk:k=L.length) (h1:k<=1000000) (h2:pW W lo L) (h3:BtS L) (h4:∀ y∈s,y<256)=>Zz3 W L lo k lc s hk h1 h2 h3 h4);have Py:=I (fun W (hW:Below w.heap.size w W)=>By.below hW);have fQ:=I (fun W (hW:Below w.heap.size w W)=>hL.below hW);have IH:=I ih;have HN:=I hn;have Pz:=I hk;have HB:=I hb;have HLb:=I hl;have HRb:=I hr;have wD:=I (fun q (hq:q∈ks)=>(Vw ks).1 mC q hq);have aQ:=Hm ks
 have Ma:n<=1000000:=by omega
 obtain⟨R,hR⟩:=exq (kK L (.mk κ l r c ks));rw[hR];have HR:Hid (joinL (if (r==[])=true then(if (l==[])=true then L else jO L l) else jO (if (l==[])=true then L else jO L l) r) ks=R):=I (by rw[<- hR];unfold kK;rfl)
 have tQ:Hid ((aB l).toList.isEmpty=(l==[])/\(aB r).toList.isEmpty=(r==[])):=I (by
  have:∀ m:List Nat,(aB m).toList.isEmpty=(m==[]):=fun m=>by
   cases m with
   | nil=>exact Kz.trans rfl
   | cons a b=>rw[Hp _ (by simp)];rfl
  exact⟨this l,this r⟩)
 have xM:=tQ.o.1;have xN:=tQ.o.2;have B1:=I (bwA w (.cells #[.int .i64 κ,.string (aB l),.string (aB r),.int .i64 c,.slice ao n cap] 54));have X1:=hnw w 54 [.int .i64 κ,.string (aB l),.string (aB r),.int .i64 c,.slice ao n cap];clear By hL ih hb hl hr mC hR tQ hn hk aQ;generalize (l==[])=e1 at *;generalize (r==[])=e2 at *;have gO:=I (fun W L lo k lc (hk:k=L.length) (h1:k<=1000000) (h2:pW W lo L) (h3:BtS L)=>Cf.o W L lo k lc l hk h1 h2 h3 HLb.o);have se:=I (fun W L lo k lc (hk:k=L.length) (h1:k<=1000000) (h2:pW W lo L) (h3:BtS L)=>Cf.o W L lo k lc r hk h1 h2 h3 HRb.o);have lK:=I (fun L (h:BtS L)=>h.put (s:=l) HLb.o);have Qa:=I (fun L (h:BtS L)=>h.put (s:=r) HRb.o);clear Cf HLb HRb;unfold Hq at gO se;generalize aB l=y at *;generalize aB r=z at *
 go_enter Tryz.func192,Tryz.ntmps192
 go_upto_region 1 with(fail)
 generalize w.alloc (.cells #[.int .i64 κ,.string y,.string z,.int .i64 c,.slice ao n cap] 54)=w1 at *
 cases e1 with
 | true =>
  have x1:=X1.o.cell 1 _ rfl;have x2:=X1.o.cell 2 _ rfl;have Pv:Hid (joinL (if e2=true then L else jO L r) ks=R):=I HR.o;have HR:=Pv;clear Pv
  cases e2 with
  | true =>
   have lS:Hid (joinL L ks=R):=I HR.o;have HR:=lS;have sf:=I (fQ.o w1 B1.o)
   go_upto_region 6 with(fail)
   clear xM xN;have mB:Hid (joinL L (ks.drop 0)=R):=I HR.o
   go_loopw [0,5] (fun lv iv wr=>∃ (i:Nat) (o:Option Addr) (kk cp:Nat) (Lc:List (List Nat)),lv = .slice o kk cp/\iv = .int .i64 i/\i<=n/\Hid (kk=Lc.length)/\kk+2*cR (ks.drop i)<=1000000/\Hid (joinL Lc (ks.drop i)=R)/\Hid (pW wr o Lc)/\Hid (BtS Lc)/\Hid (Below w.heap.size w wr)/\Hid (aC wr w.heap.size 54 [.int .i64 κ,.string y,.string z,.int .i64 c,.slice ao n cap])) (fun _ i _=>(n-intOf i).toNat)
   case atStart=>exact⟨0,lo,k,lc,L,rfl,rfl,by omega,Pz,by show _+2*cR ks<=_;omega,mB,sf,HB,B1,X1⟩
   case round =>
    clear mB B1 X1;obtain⟨i,o,kk,cp,Lc,rfl,rfl,hi,HKc,xR,HJ,SC,BC,BR,XR⟩:=hrel;have ei:=w1i i (by omega);have x4:=XR.o.cell 4 _ rfl;by_cases aE:i<n
    ·have ii:(i:Int)<n:=by omega
     obtain⟨q,bX,g,off,bI,hg,us,bH,aH⟩:=(Py.o wr BR.o).get (i:=i) (by rw[<- HN.o];exact aE)
     have uU:ks.drop i=q::ks.drop (i+1):=by
      have h5:=(fD.1 bX).1;rw[List.drop_eq_getElem_cons h5,(fD.1 bX).2]
     have uV:cR (ks.drop i)=cO q+cR (ks.drop (i+1)):=by rw[uU];rw[cR]
     have sQ:Hid (joinL (kK Lc q) (ks.drop (i+1))=R):=I (by have:=HJ.o;rw[uU] at this;rw[joinL] at this;exact this);have gN:=I (IH.o q wr us Lc o kk cp (bU bX) bH HKc.o (by omega) SC.o BC.o);have yT:=Wc q Lc;have Qb:=I (BtS.join q Lc (wD.o q (bU bX)) BC.o);have iQ:=HKc.o;obtain⟨xa,xn,xc,rfl,-⟩:=bH.form;have s0:=aH 0 _ rfl;have s1:=aH 1 _ rfl;have s2:=aH 2 _ rfl;have s3:=aH 3 _ rfl;have s4:=aH 4 _ rfl;rw[Nat.add_zero] at s0;have mT:=I bI;unfold Hq at gN
     have bT:(kK Lc q).length+2*cR (ks.drop (i+1))<=1000000:=by omega
     clear aH bH bX uU uV yT iQ HJ xR;subst bI;generalize kK Lc q=Lq at *;generalize q.k=q0 at *;generalize aB q.l=q1 at *;generalize aB q.r=q2 at *;generalize q.c=q3 at *
     go_wp2_with fail
     refine gN.o.mono ?_;intro e w9 Qc;obtain⟨⟨o9,c9,rfl,Cg⟩,b9⟩:=Qc;have B9:=BR.tr b9;have X9:=I (XR.o.step b9);have S9:=I Cg;obtain⟨k9,uW⟩:=exq (Lq.length);have Gf:=I uW.symm;rw[uW] at bT ⊢;clear b9 Cg BR XR s0 s1 s2 s3 s4 x4 gN SC BC uW
     go_wp2_with fail
     go_roundw
     case rel=>exact⟨i+1,o9,k9,c9,Lq,rfl,by go_num,by omega,Gf,bT,sQ,S9,Qb,B9,X9⟩
     case measure=>simp only[intOf];omega
    ·have ii:¬ (i:Int)<n:=by omega
     obtain rfl:n=i:=by omega
     have HE:Hid (R=Lc):=I (by
      have:=HJ.o;rw[List.drop_eq_nil_of_le (by rw[HN.o];exact aO _)] at this;rw[joinL] at this
      exact this.symm)
     go_wp2_with fail
     go_ret;exact⟨⟨_,_,by rw[HE.o,<- HKc.o];rfl,by rw[HE.o];exact SC.o⟩,BR.o⟩
  | false =>
   have lS:Hid (joinL (jO L r) ks=R):=I HR.o;have HR:=lS
   go_wp2_with fail
   refine(se.o w1 L lo k lc Pz.o (by omega) ((I (fQ.o w1 B1.o))).out HB.o).mono ?_;intro e w3 Lp;obtain⟨⟨o3,c3,rfl,qY⟩,b3⟩:=Lp;have xS:=nx L r;have sg:=I (Qa.o L HB.o);have B3:=B1.tr b3;have X3:=I (X1.o.step b3);have S3:=I qY;have kW:=Pz.o;generalize jO L r=L3 at *;obtain⟨k3,Fy⟩:=exq (L3.length);have Tx:=I Fy.symm
   have hk3b:k3<=k+1:=by omega
   rw[Fy];clear b3 qY xS Fy kW x1 x2 lS
   go_upto_region 6 with(fail)
   clear xM xN;have mB:Hid (joinL L3 (ks.drop 0)=R):=I HR.o
   go_loopw [0,5] (fun lv iv wr=>∃ (i:Nat) (o:Option Addr) (kk cp:Nat) (Lc:List (List Nat)),lv = .slice o kk cp/\iv = .int .i64 i/\i<=n/\Hid (kk=Lc.length)/\kk+2*cR (ks.drop i)<=1000000/\Hid (joinL Lc (ks.drop i)=R)/\Hid (pW wr o Lc)/\Hid (BtS Lc)/\Hid (Below w.heap.size w wr)/\Hid (aC wr w.heap.size 54 [.int .i64 κ,.string y,.string z,.int .i64 c,.slice ao n cap])) (fun _ i _=>(n-intOf i).toNat)
   case atStart=>exact⟨0,o3,k3,c3,L3,rfl,rfl,by omega,Tx,by show _+2*cR ks<=_;omega,mB,S3,sg,B3,X3⟩
   case round =>
    clear mB B3 X3;obtain⟨i,o,kk,cp,Lc,rfl,rfl,hi,HKc,xR,HJ,SC,BC,BR,XR⟩:=hrel;have ei:=w1i i (by omega);have x4:=XR.o.cell 4 _ rfl;by_cases aE:i<n
    ·have ii:(i:Int)<n:=by omega
     obtain⟨q,bX,g,off,bI,hg,us,bH,aH⟩:=(Py.o wr BR.o).get (i:=i) (by rw[<- HN.o];exact aE)
     have uU:ks.drop i=q::ks.drop (i+1):=by
      have h5:=(fD.1 bX).1;rw[List.drop_eq_getElem_cons h5,(fD.1 bX).2]
     have uV:cR (ks.drop i)=cO q+cR (ks.drop (i+1)):=by rw[uU];rw[cR]
     have sQ:Hid (joinL (kK Lc q) (ks.drop (i+1))=R):=I (by have:=HJ.o;rw[uU] at this;rw[joinL] at this;exact this);have gN:=I (IH.o q wr us Lc o kk cp (bU bX) bH HKc.o (by omega) SC.o BC.o);have yT:=Wc q Lc;have Qb:=I (BtS.join q Lc (wD.o q (bU bX)) BC.o);have iQ:=HKc.o;obtain⟨xa,xn,xc,rfl,-⟩:=bH.form;have s0:=aH 0 _ rfl;have s1:=aH 1 _ rfl;have s2:=aH 2 _ rfl;have s3:=aH 3 _ rfl;have s4:=aH 4 _ rfl;rw[Nat.add_zero] at s0;have mT:=I bI;unfold Hq at gN
     have bT:(kK Lc q).length+2*cR (ks.drop (i+1))<=1000000:=by omega
     clear aH bH bX uU uV yT iQ HJ xR;subst bI;generalize kK Lc q=Lq at *;generalize q.k=q0 at *;generalize aB q.l=q1 at *;generalize aB q.r=q2 at *;generalize q.c=q3 at *
     go_wp2_with fail
     refine gN.o.mono ?_;intro e w9 Qc;obtain⟨⟨o9,c9,rfl,Cg⟩,b9⟩:=Qc;have B9:=BR.tr b9;have X9:=I (XR.o.step b9);have S9:=I Cg;obtain⟨k9,uW⟩:=exq (Lq.length);have Gf:=I uW.symm;rw[uW] at bT ⊢;clear b9 Cg BR XR s0 s1 s2 s3 s4 x4 gN SC BC uW
     go_wp2_with fail
     go_roundw
     case rel=>exact⟨i+1,o9,k9,c9,Lq,rfl,by go_num,by omega,Gf,bT,sQ,S9,Qb,B9,X9⟩
     case measure=>simp only[intOf];omega
    ·have ii:¬ (i:Int)<n:=by omega
     obtain rfl:n=i:=by omega
     have HE:Hid (R=Lc):=I (by
      have:=HJ.o;rw[List.drop_eq_nil_of_le (by rw[HN.o];exact aO _)] at this;rw[joinL] at this
      exact this.symm)
     go_wp2_with fail
     go_ret;exact⟨⟨_,_,by rw[HE.o,<- HKc.o];rfl,by rw[HE.o];exact SC.o⟩,BR.o⟩
 | false =>
  have x1:=X1.o.cell 1 _ rfl;have x2:=X1.o.cell 2 _ rfl;have Pv:Hid (joinL (if e2=true then jO L l else jO (jO L l) r) ks=R):=I HR.o;have HR:=Pv
  go_wp2_with fail
  refine(gO.o w1 L lo k lc Pz.o (by omega) (fQ.o w1 B1.o) HB.o).mono ?_;intro e w2 qU;obtain⟨⟨o2,c2,rfl,Ph⟩,b2⟩:=qU;have aU:=nx L l;have sh:=I (lK.o L HB.o);have B2:=B1.tr b2;have X2:=I (X1.o.step b2);have S2:=I Ph;have kW:=Pz.o;generalize jO L l=L2 at *;obtain⟨k2,sI⟩:=exq (L2.length);have xT:=I sI.symm
  have hk2b:k2<=k+1:=by omega
  rw[sI];clear b2 Ph aU sI kW X1 B1 Pv x1 x2;have x1:=X2.o.cell 1 _ rfl;have x2:=X2.o.cell 2 _ rfl
  cases e2 with
  | true =>
   have lS:Hid (joinL L2 ks=R):=I HR.o;have HR:=lS;have sf:=I S2.o
   go_upto_region 6 with(fail)
   clear xM xN;have mB:Hid (joinL L2 (ks.drop 0)=R):=I HR.o
   go_loopw [0,5] (fun lv iv wr=>∃ (i:Nat) (o:Option Addr) (kk cp:Nat) (Lc:List (List Nat)),lv = .slice o kk cp/\iv = .int .i64 i/\i<=n/\Hid (kk=Lc.length)/\kk+2*cR (ks.drop i)<=1000000/\Hid (joinL Lc (ks.drop i)=R)/\Hid (pW wr o Lc)/\Hid (BtS Lc)/\Hid (Below w.heap.size w wr)/\Hid (aC wr w.heap.size 54 [.int .i64 κ,.string y,.string z,.int .i64 c,.slice ao n cap])) (fun _ i _=>(n-intOf i).toNat)
   case atStart=>exact⟨0,o2,k2,c2,L2,rfl,rfl,by omega,xT,by show _+2*cR ks<=_;omega,mB,sf,sh,B2,X2⟩
   case round =>
    clear mB B2 X2;obtain⟨i,o,kk,cp,Lc,rfl,rfl,hi,HKc,xR,HJ,SC,BC,BR,XR⟩:=hrel;have ei:=w1i i (by omega);have x4:=XR.o.cell 4 _ rfl;by_cases aE:i<n
    ·have ii:(i:Int)<n:=by omega
     obtain⟨q,bX,g,off,bI,hg,us,bH,aH⟩:=(Py.o wr BR.o).get (i:=i) (by rw[<- HN.o];exact aE)
     have uU:ks.drop i=q::ks.drop (i+1):=by
      have h5:=(fD.1 bX).1;rw[List.drop_eq_getElem_cons h5,(fD.1 bX).2]
     have uV:cR (ks.drop i)=cO q+cR (ks.drop (i+1)):=by rw[uU];rw[cR]
     have sQ:Hid (joinL (kK Lc q) (ks.drop (i+1))=R):=I (by have:=HJ.o;rw[uU] at this;rw[joinL] at this;exact this);have gN:=I (IH.o q wr us Lc o kk cp (bU bX) bH HKc.o (by omega) SC.o BC.o);have yT:=Wc q Lc;have Qb:=I (BtS.join q Lc (wD.o q (bU bX)) BC.o);have iQ:=HKc.o;obtain⟨xa,xn,xc,rfl,-⟩:=bH.form;have s0:=aH 0 _ rfl;have s1:=aH 1 _ rfl;have s2:=aH 2 _ rfl;have s3:=aH 3 _ rfl;have s4:=aH 4 _ rfl;rw[Nat.add_zero] at s0;have mT:=I bI;unfold Hq at gN
     have bT:(kK Lc q).length+2*cR (ks.drop (i+1))<=1000000:=by omega
     clear aH bH bX uU uV yT iQ HJ xR;subst bI;generalize kK Lc q=Lq at *;generalize q.k=q0 at *;generalize aB q.l=q1 at *;generalize aB q.r=q2 at *;generalize q.c=q3 at *
     go_wp2_with fail
     refine gN.o.mono ?_;intro e w9 Qc;obtain⟨⟨o9,c9,rfl,Cg⟩,b9⟩:=Qc;have B9:=BR.tr b9;have X9:=I (XR.o.step b9);have S9:=I Cg;obtain⟨k9,uW⟩:=exq (Lq.length);have Gf:=I uW.symm;rw[uW] at bT ⊢;clear b9 Cg BR XR s0 s1 s2 s3 s4 x4 gN SC BC uW
     go_wp2_with fail
     go_roundw
     case rel=>exact⟨i+1,o9,k9,c9,Lq,rfl,by go_num,by omega,Gf,bT,sQ,S9,Qb,B9,X9⟩
     case measure=>simp only[intOf];omega
    ·have ii:¬ (i:Int)<n:=by omega
     obtain rfl:n=i:=by omega
     have HE:Hid (R=Lc):=I (by
      have:=HJ.o;rw[List.drop_eq_nil_of_le (by rw[HN.o];exact aO _)] at this;rw[joinL] at this
      exact this.symm)
     go_wp2_with fail
     go_ret;exact⟨⟨_,_,by rw[HE.o,<- HKc.o];rfl,by rw[HE.o];exact SC.o⟩,BR.o⟩
  | false =>
   have lS:Hid (joinL (jO L2 r) ks=R):=I HR.o;have HR:=lS
   go_wp2_with fail
   refine(se.o w2 L2 o2 k2 c2 xT.o (by omega) (S2).out sh.o).mono ?_;intro e w3 Lp;obtain⟨⟨o3,c3,rfl,qY⟩,b3⟩:=Lp;have xS:=nx L2 r;have sg:=I (Qa.o L2 sh.o);have B3:=B2.tr b3;have X3:=I (X2.o.step b3);have S3:=I qY;have kW:=xT.o;generalize jO L2 r=L3 at *;obtain⟨k3,Fy⟩:=exq (L3.length);have Tx:=I Fy.symm
   have hk3b:k3<=k2+1:=by omega
   rw[Fy];clear b3 qY xS Fy kW x1 x2 lS
   go_upto_region 6 with(fail)
   clear xM xN;have mB:Hid (joinL L3 (ks.drop 0)=R):=I HR.o
   go_loopw [0,5] (fun lv iv wr=>∃ (i:Nat) (o:Option Addr) (kk cp:Nat) (Lc:List (List Nat)),lv = .slice o kk cp/\iv = .int .i64 i/\i<=n/\Hid (kk=Lc.length)/\kk+2*cR (ks.drop i)<=1000000/\Hid (joinL Lc (ks.drop i)=R)/\Hid (pW wr o Lc)/\Hid (BtS Lc)/\Hid (Below w.heap.size w wr)/\Hid (aC wr w.heap.size 54 [.int .i64 κ,.string y,.string z,.int .i64 c,.slice ao n cap])) (fun _ i _=>(n-intOf i).toNat)
   case atStart=>exact⟨0,o3,k3,c3,L3,rfl,rfl,by omega,Tx,by show _+2*cR ks<=_;omega,mB,S3,sg,B3,X3⟩
   case round =>
    clear mB B3 X3;obtain⟨i,o,kk,cp,Lc,rfl,rfl,hi,HKc,xR,HJ,SC,BC,BR,XR⟩:=hrel;have ei:=w1i i (by omega);have x4:=XR.o.cell 4 _ rfl;by_cases aE:i<n
    ·have ii:(i:Int)<n:=by omega
     obtain⟨q,bX,g,off,bI,hg,us,bH,aH⟩:=(Py.o wr BR.o).get (i:=i) (by rw[<- HN.o];exact aE)
     have uU:ks.drop i=q::ks.drop (i+1):=by
      have h5:=(fD.1 bX).1;rw[List.drop_eq_getElem_cons h5,(fD.1 bX).2]
     have uV:cR (ks.drop i)=cO q+cR (ks.drop (i+1)):=by rw[uU];rw[cR]
     have sQ:Hid (joinL (kK Lc q) (ks.drop (i+1))=R):=I (by have:=HJ.o;rw[uU] at this;rw[joinL] at this;exact this);have gN:=I (IH.o q wr us Lc o kk cp (bU bX) bH HKc.o (by omega) SC.o BC.o);have yT:=Wc q Lc;have Qb:=I (BtS.join q Lc (wD.o q (bU bX)) BC.o);have iQ:=HKc.o;obtain⟨xa,xn,xc,rfl,-⟩:=bH.form;have s0:=aH 0 _ rfl;have s1:=aH 1 _ rfl;have s2:=aH 2 _ rfl;have s3:=aH 3 _ rfl;have s4:=aH 4 _ rfl;rw[Nat.add_zero] at s0;have mT:=I bI;unfold Hq at gN
     have bT:(kK Lc q).length+2*cR (ks.drop (i+1))<=1000000:=by omega
     clear aH bH bX uU uV yT iQ HJ xR;subst bI;generalize kK Lc q=Lq at *;generalize q.k=q0 at *;generalize aB q.l=q1 at *;generalize aB q.r=q2 at *;generalize q.c=q3 at *
     go_wp2_with fail
     refine gN.o.mono ?_;intro e w9 Qc;obtain⟨⟨o9,c9,rfl,Cg⟩,b9⟩:=Qc;have B9:=BR.tr b9;have X9:=I (XR.o.step b9);have S9:=I Cg;obtain⟨k9,uW⟩:=exq (Lq.length);have Gf:=I uW.symm;rw[uW] at bT ⊢;clear b9 Cg BR XR s0 s1 s2 s3 s4 x4 gN SC BC uW
     go_wp2_with fail
     go_roundw
     case rel=>exact⟨i+1,o9,k9,c9,Lq,rfl,by go_num,by omega,Gf,bT,sQ,S9,Qb,B9,X9⟩
     case measure=>simp only[intOf];omega
    ·have ii:¬ (i:Int)<n:=by omega
     obtain rfl:n=i:=by omega
     have HE:Hid (R=Lc):=I (by
      have:=HJ.o;rw[List.drop_eq_nil_of_le (by rw[HN.o];exact aO _)] at this;rw[joinL] at this
      exact this.symm)
     go_wp2_with fail
     go_ret;exact⟨⟨_,_,by rw[HE.o,<- HKc.o];rfl,by rw[HE.o];exact SC.o⟩,BR.o⟩
theorem WU:∀ (N:Nat) (p:Prd) (w:World) (P:Nat->Prop) (vs:List Value) (L:List (List Nat)) (lo:Option Addr) (k lc:Nat),cO p<=N->tI p->cK w P p vs->k=L.length->k+2*cO p<=1000000->pW w lo L->BtS L ->
  Calls Tryz.prog 192 #[.slice lo k lc,.agg vs.toArray] w fun e w'=>Hq w w' (kK L p) e
 | 0,p,w,P,vs,L,lo,k,lc,hN,_,_,_,_,_,_=>by have:=Hl p;omega
 | N+1,.mk κ l r c ks,w,P,vs,L,lo,k,lc,hN,hb,h,hk,bN,hL,hB=>by
  have Mc:cO (.mk κ l r c ks)=1+cR ks:=by rw[cO]
  unfold cK at h;unfold tI at hb;obtain⟨ao,cap,rfl,uH⟩:=h
  exact Ztv w P κ l r c ks ao ks.length cap L lo k lc rfl hk (by omega) uH hL hB hb.1.1 hb.2.1.1 hb.2.2 (fun q w' us L' lo' k' lc' hq bH h1 h2 h3 h4=>WU N q w' P us L' lo' k' lc' (by
   obtain⟨i,hi⟩:=pV.1 hq;have:=Hn ks i q hi
   omega) ((Vw ks).1 hb.2.2 q hq) bH h1 h2 h3 h4)
theorem Ztw(w:World)(Pb:Nat->Prop)(L:List (List Nat))(lo:Option Addr)(k lc:Nat)(l:List Bnd)(bo:Option Addr)(m bc:Nat)(hk:k=L.length)(bN:k<=1000000)(hL:pW w lo L)(hb:BtS L)(hm:m=l.length)(qZ:m<=1000000)(aJ:BndOk l)(xR:tJ w Pb l bo) :
  Calls Tryz.prog 191 #[.slice lo k lc,.slice bo m bc] w fun e w'=>e = .returned (.bool (L.all (fun x=>(rvP l x).2)))/\w=w':=by
 have uT:Hid (∀ i,i<k->∃ x g off,L[i]?=some x/\lo=some ⟨g,off,none⟩/\w.cell? ⟨g,off+i,none⟩=some (.string (aB x))/\(∀ y∈x,y<256)):=I (fun i hi=>by
  have h1:i<L.length:=by rw[<- hk];exact hi
  obtain⟨g,off,h2,-,h3⟩:=hL.at i L[i] (aL h1)
  exact⟨L[i],g,off,aL h1,h2,h3,hb _ (List.getElem_mem h1)⟩)
 have gj:=I (fun(x:List Nat) (hx:∀ y∈x,y<256)=>DY x w Pb l bo m bc hx hm qZ aJ xR);obtain⟨R,hR⟩:∃ R,L.all (fun x=>(rvP l x).2)=R:=⟨_,rfl⟩
 have Ty:Hid (∀ i x,L[i]?=some x->(rvP l x).2=false->R=false):=I (fun i x h1 h2=>by
  rw[<- hR,List.all_eq_false]
  exact⟨x,bU h1,by rw[h2];decide⟩)
 have Qd:Hid ((∀ i,i<k->∀ x,L[i]?=some x->(rvP l x).2=true)->R=true):=I (fun h=>by
  rw[<- hR,List.all_eq_true];intro x hx;obtain⟨i,hi,rfl⟩:=List.mem_iff_getElem.1 hx
  exact h i (by rw[hk];exact hi) _ (aL hi))
 rw[hR];clear hL hb aJ xR hm hk hR
 go_enter Tryz.func191,Tryz.ntmps191
 go_upto_region 2 with(fail)
 go_loopw [5] (fun iv wr=>∃ (i:Nat),iv = .int .i64 i/\i<=k/\Hid (∀ j,j<i->∀ x,L[j]?=some x->(rvP l x).2=true)/\wr=w) (fun i _=>(k-intOf i).toNat)
 case atStart=>exact⟨0,rfl,by omega,I (fun j hj=>absurd hj (jU j)),rfl⟩
 case round =>
  obtain⟨i,rfl,hi,HJ,rfl⟩:=hrel;have e2:=w1i i (by omega);by_cases aT:i<k
  ·have ii:(i:Int)<k:=by omega
   obtain⟨x,g,off,hx,fI,hc,Qe⟩:=uT.o i aT;have Tz:=I (gj.o x Qe);have HX:=I hx;have gp:=I (Ty.o i x hx);have Gd:=I fI;clear hx Qe;subst fI;generalize Ge:aB x=y at *;clear Ge;obtain⟨vb,Ua⟩:=exq ((rvP l x).2);have rS:=I Ua;rw[Ua] at Tz gp;generalize (rvP l x).1=va at *;clear Ua
   go_wp2_with fail
   refine Tz.o.mono ?_;rintro e w2 ⟨rfl,rfl⟩
   cases vb with
   | false =>
    have HE:=I (gp.o rfl)
    go_wp2_with fail
    go_ret;exact⟨by rw[HE.o];rfl,rfl⟩
   | true =>
    go_wp2_with fail
    go_roundw
    case rel=>exact⟨i+1,by go_num,by omega,I (fun j hj z hz=>by
     rcases gQ j i with h | h
     ·exact HJ.o j h z hz
     ·obtain rfl:i=j:=by omega
      rw[HX.o] at hz;obtain rfl:=bF hz
      exact rS.o),(by trivial)⟩
    case measure=>simp only[intOf];omega
  ·have ii:¬ (i:Int)<k:=by omega
   obtain rfl:k=i:=by omega
   have HE:=I (Qd.o HJ.o)
   go_wp2_with fail
   go_ret;exact⟨by rw[HE.o];rfl,rfl⟩
end
section
open Go.RowKit Go.Sort Go.Maps
theorem Zwl(f:Ky->Bool){ks:List Prd}{i:Nat}{q:Prd}(h:ks[i]?=some q):kS f (ks.take (i+1))=kS f (ks.take i)+if lW f q=true then 1 else 0:=by
 rw[lN,h,TO];show _+kS f [q]=_;rw[kS,kS];omega
theorem Zwm (w:World) (P:Nat->Prop) (κ:Int) (l' r':List Nat) (c:Int) (ks:List Prd) (ao:Option Addr) (n cap:Nat) (f:Ky->Bool) (bo:Option Addr) (m bc:Nat) (hκ:κ≠0) (hn:n=ks.length) (bN:n<=1000000) (By:Nt w P ks ao)
  (ih:∀ (q:Prd) (W:World) (us:List Value),Below w.heap.size w W->q∈ks->cK W P q us->Calls Tryz.prog 193 #[.agg us.toArray,.slice bo m bc] W fun e w'=>e = .returned (.bool (lW f q))/\Below W.heap.size W w') :
  Calls Tryz.prog 193 #[.agg #[.int .i64 κ,.string (aB l'),.string (aB r'),.int .i64 c,.slice ao n cap],.slice bo m bc] w fun e w'=>e = .returned (.bool (lW f (.mk κ l' r' c ks)))/\Below w.heap.size w w':=by
 have Py:=I (fun W (hW:Below w.heap.size w W)=>By.below hW);have IH:=I ih;have HN:=I hn;obtain⟨R,hR⟩:=exq (lW f (.mk κ l' r' c ks));rw[hR]
 have HR:Hid (R=if κ=1 then kS f ks==n else if κ=2 then decide (0<kS f ks) else decide (c<=((kS f ks:Nat):Int))):=I (by
  rw[<- hR];unfold lW
  rw[if_neg hκ,hn])
 have yV:(κ==0)=false:=by simpa using hκ
 have B1:=I (bwA w (.cells #[.int .i64 κ,.string (aB l'),.string (aB r'),.int .i64 c,.slice ao n cap] 54));have X1:=hnw w 54 [.int .i64 κ,.string (aB l'),.string (aB r'),.int .i64 c,.slice ao n cap];clear By ih hn hR hκ;generalize aB l'=y at *;generalize aB r'=z at *
 go_enter Tryz.func193,Tryz.ntmps193
 go_upto_region 1 with(fail)
 generalize w.alloc (.cells #[.int .i64 κ,.string y,.string z,.int .i64 c,.slice ao n cap] 54)=w1 at *;have x0:=X1.o.cell 0 _ rfl
 go_upto_region 5 with(fail)
 clear x0 yV
 go_upto_region 7 with(fail)
 have C0:Hid (((0:Nat):Int)=((kS f (ks.take 0):Nat):Int)):=I (by rw[List.take_zero,kS])
 go_loopw [9,10] (fun nv iv wr=>∃ (i a:Nat),iv = .int .i64 i/\nv = .int .i64 a/\i<=n/\a<=i/\Hid (a=kS f (ks.take i))/\Hid (Below w.heap.size w wr)/\Hid (aC wr w.heap.size 54 [.int .i64 κ,.string y,.string z,.int .i64 c,.slice ao n cap])) (fun _ i _=>(n-intOf i).toNat)
 case atStart=>exact⟨0,0,rfl,rfl,by omega,by omega,I (by rw[List.take_zero,kS]),B1,X1⟩
 case round =>
  clear C0 B1 X1;obtain⟨i,a,rfl,rfl,hi,gr,HA,BR,XR⟩:=hrel;have ei:=w1i i (by omega);have ea:=w1i a (by omega);have x4:=XR.o.cell 4 _ rfl;by_cases aE:i<n
  ·have ii:(i:Int)<n:=by omega
   obtain⟨q,bX,g,off,bI,hg,us,bH,aH⟩:=(Py.o wr BR.o).get (i:=i) (by rw[<- HN.o];exact aE);have lQ:=I (Zwl f bX);have gN:=I (IH.o q wr us BR.o (bU bX) bH);obtain⟨xa,xn,xc,rfl,-⟩:=bH.form;have s0:=aH 0 _ rfl;have s1:=aH 1 _ rfl;have s2:=aH 2 _ rfl;have s3:=aH 3 _ rfl;have s4:=aH 4 _ rfl;rw[Nat.add_zero] at s0;have mT:=I bI;clear aH bH bX;subst bI;generalize lW f q=tb at *;generalize q.k=q0 at *;generalize aB q.l=q1 at *;generalize aB q.r=q2 at *;generalize q.c=q3 at *
   go_wp2_with fail
   refine gN.o.mono ?_;rintro e w9 ⟨rfl,b9⟩;have B9:=BR.tr b9;have X9:=I (XR.o.step b9);clear b9 BR XR s0 s1 s2 s3 s4 x4 gN
   cases tb with
   | true =>
    go_wp2_with fail
    go_roundw
    case rel=>exact⟨i+1,a+1,by go_num,by go_num,by omega,by omega,I (by rw[lQ.o,<- HA.o];simp),B9,X9⟩
    case measure=>simp only[intOf];omega
   | false =>
    go_wp2_with fail
    go_roundw
    case rel=>exact⟨i+1,a,by go_num,rfl,by omega,by omega,I (by rw[lQ.o,<- HA.o];simp),B9,X9⟩
    case measure=>simp only[intOf];omega
  ·have ii:¬ (i:Int)<n:=by omega
   obtain rfl:n=i:=by omega
   have Ch:Hid (kS f ks=a):=I (by
    have:=HA.o;rw[HN.o,List.take_length] at this
    exact this.symm)
   have lS:Hid (R=if κ=1 then a==n else if κ=2 then decide (0<a) else decide (c<=((a:Nat):Int))):=I (by rw[HR.o,Ch.o]);have x0:=XR.o.cell 0 _ rfl;have x3:=XR.o.cell 3 _ rfl;clear HR HA Ch HN Py IH;by_cases k1:κ=1
   ·subst k1
    obtain⟨V,hV⟩:∃ b,(a==n)=b:=⟨_,rfl⟩
    have hV2:(((a:Nat):Int)==((n:Nat):Int))=V:=by
     rw[<- hV,Bool.eq_iff_iff,beq_iff_eq,beq_iff_eq];omega
    have HE:Hid (R=V):=I (by rw[lS.o,if_pos rfl,hV])
    go_wp2_with fail
    go_ret;exact⟨by rw[HE.o];rfl,BR.o⟩
   ·have k1b:(κ==1)=false:=by simpa using k1
    by_cases k2:κ=2
    ·subst k2
     have Gg:Hid (R=decide (0<a)):=I (by rw[lS.o,if_neg k1,if_pos rfl]);obtain⟨V,hV⟩:=exq (decide (0<a));have HE:Hid (R=V):=I (by rw[Gg.o,hV])
     have hV2:decide ((0:Int)<((a:Nat):Int))=V:=by
      rw[<- hV,Bool.eq_iff_iff,decide_eq_true_eq,decide_eq_true_eq];omega
     go_wp2_with fail
     go_ret;exact⟨by rw[HE.o];rfl,BR.o⟩
    ·have k2b:(κ==2)=false:=by simpa using k2
     obtain⟨V,hV⟩:∃ b,decide (c<=((a:Nat):Int))=b:=⟨_,rfl⟩;have HE:Hid (R=V):=I (by rw[lS.o,if_neg k1,if_neg k2,hV])
     go_wp2_with fail
     go_ret;exact⟨by rw[HE.o];rfl,BR.o⟩
theorem WV:∀ (N:Nat) (p:Prd) (w:World) (P Pb:Nat->Prop) (vs:List Value) (l:List Bnd) (bo:Option Addr) (m bc:Nat),cO p<=N->cO p<=1000000->tI p->cK w P p vs->m=l.length->m<=1000000->BndOk l->vbP l=true->tJ w Pb l bo ->
  Calls Tryz.prog 193 #[.agg vs.toArray,.slice bo m bc] w fun e w'=>e = .returned (.bool (lW (fR l) p))/\Below w.heap.size w w'
 | 0,p,w,P,Pb,vs,l,bo,m,bc,hN,_,_,_,_,_,_,_,_=>by have:=Hl p;omega
 | N+1,.mk κ l' r' c ks,w,P,Pb,vs,l,bo,m,bc,hN,hM,hb,h,hm,qZ,aJ,hv,xR=>by
  have Mc:cO (.mk κ l' r' c ks)=1+cR ks:=by rw[cO]
  have hl:=Hm ks;unfold cK at h;unfold tI at hb;obtain⟨ao,cap,rfl,uH⟩:=h;by_cases hκ:κ=0
  ·subst hκ
   have e:lW (fR l) (.mk 0 l' r' c ks)=fR l ⟨l',r',c⟩:=by rw[lW,if_pos rfl]
   rw[e];exact Zv9 l' r' c (.slice ao ks.length cap) rfl w Pb l bo m bc hb.1.1 hb.2.1.1 hm qZ aJ xR hv
  ·exact Zwm w P κ l' r' c ks ao ks.length cap (fR l) bo m bc hκ rfl (by omega) uH (fun q W us hW hq bH=>by
    obtain⟨i,hi⟩:=pV.1 hq;have:=Hn ks i q hi
    exact WV N q W P Pb us l bo m bc (by omega) (by omega) ((Vw ks).1 hb.2.2 q hq) bH hm qZ aJ hv (xR.below hW))
end
end Go.Proofs.YtbcgocpihobjnaaGreatDoor
