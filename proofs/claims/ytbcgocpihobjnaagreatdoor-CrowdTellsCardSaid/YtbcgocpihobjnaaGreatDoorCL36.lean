import Derived.Test.YtbcgocpihobjnaaGreatDoorCL35
import Derived.Test.YtbcgocpihobjnaaGreatDoorCL14
import Derived.Test.YtbcgocpihobjnaaGreatDoorCL0
set_option linter.all false
set_option maxHeartbeats 16000000
set_option maxRecDepth 100000
namespace Go.Proofs.YtbcgocpihobjnaaGreatDoor
section
open Go.RowKit Go.Sort Go.Maps
theorem Zt2(w:World)(ty:TypeId)(g M c:Nat)(vs:List Value)(hv:aC w g 3 vs)(hl:vs.length=M):(Builtin.clear_ #[33] ty #[.slice (some ⟨g,0,none⟩) M c]).run Tryz.prog w = .ok (.tuple #[]) (w.setCells g 0 (bE (eR M (fun _=>0)))):=by
 have e:bE (eR M (fun _=>0))=List.replicate M (.int .i64 0):=by
  unfold bE eR;rw[List.map_map];show(List.range M).map (fun _=>Value.int .i64 0)=_;rw[List.map_const',List.length_range]
 rw[e];by_cases h0:M=0
 ·subst h0
  simp[Builtin.clear_,run_underlying Tryz.underlying33];rfl
 ·exact Lib.run_clear_slice (P:=Tryz.prog) w 33 3 ty (.int .i64 0) Tryz.underlying33 Tryz.zeroValue3 rfl rfl g 0 M c (by omega) (fun j hj=>by rw[Nat.zero_add,hv.cell j (vs[j]'(by omega)) (aL _)];rfl) (fun j hj=>by rw[Nat.zero_add];exact hv.warm j)
theorem Wk{l:List Nat}{i x:Nat}(h:l[i]?=some x):(bE l)[i]?=some (.int .i64 (x:Int)):=by
 unfold bE;rw[dK,h];rfl
theorem Zxa(N:Nat):madeCells #[Value.int .i64 0] N=(bE (eR N (fun _=>0))).toArray:=by
 have e:bE (eR N (fun _=>0))=List.replicate N (.int .i64 0):=by
  unfold bE eR;rw[List.map_map];show(List.range N).map (fun _=>Value.int .i64 0)=_;rw[List.map_const',List.length_range]
 rw[e];apply Array.ext
 ·simp[madeCells]
 ·intro i h1 h2
  simp[madeCells,Nat.mod_one]
theorem ev(v0 v1 v2:Value):(Tryz.prog.info? 44).map (·.size)=some #[v0,v1,v2].size:=by
 show _=some 3
 kernel_rfl
theorem Z0f(w:World)(A:Nat)(c:Crw)(H C:List (List Bool))(grp:List Nat)(go:Option Addr)(gc wd:Nat)(hr:fG w A c H C)(aJ:ReckOk c C)(hg:aY aZ w go (grp.map Int.ofNat))(aT:∀ u,u∈grp->u<c.us.length)(aQ:grp.length<=12)(wP:wd<=1000) :
  Calls Tryz.prog 164 #[.pointer (some ⟨A,0,none⟩),.slice go grp.length gc,.int .i64 wd] w fun e w'=>e = .returned (.int .i64 ((tZ (aR c C) grp wd:Nat):Int))/\Below w.heap.size w w':=by
 have hM:=aJ.nm;have hU:=aJ.nu;have HR:=I hr;have cV:=I aJ;have KM:Hid (tZ (aR c C) grp wd=zT grp.length (lj (aR c C) grp) (fun m=>(aR c C).cap m wd) c.ms.length (2^grp.length-1)):=I rfl;have rf:Hid (∀ m,lj (aR c C) grp m=zU (fun i=>(aR c C).can (grp.getD i 0) m) grp.length):=I (fun m=>rfl);have eZ:=I aT;have HG:=I (fun W (hW:Below w.heap.size w W)=>hg.below hW)
 have sV:Hid (∀ u W,Below w.heap.size w W->u<c.us.length->∃ gc oc cc bo bc ru,W.cell? ⟨A,4,none⟩=some (.slice (some ⟨gc,oc,none⟩) c.us.length cc)/\W.cell? ⟨gc,oc+u,none⟩=some (.slice bo c.ms.length bc)/\aY lO W bo ru/\ru.length=c.ms.length/\∀ k,(aR c C).can u k=ru.getD k false):=I (fun u W hW hu=>by
  obtain⟨qo,mo,uo,ho,co,qc,mc,uc,hc,cc,hA,hR,-⟩:=HR.o.below hW;obtain⟨ru,fJ⟩:∃ y,C[u]?=some y:=⟨_,aL (by rw[aJ.len];exact hu)⟩;have gC:=aJ.row ru (bU fJ);have ha:=hA.cell 4 _ rfl;obtain⟨gc,oc,bo,bc,iE,mU,fS,iA⟩:=hR.c.at u ru fJ;rw[iE,aJ.len] at ha;rw[gC] at fS
  exact⟨gc,oc,cc,bo,bc,ru,ha,fS,iA,gC,fun k=>by
   show(C.getD u []).getD k false=_
   rw[bR (l:=C),fJ];rfl⟩)
 obtain⟨qo,mo,uo,ho,co,qc,mc,uc,hc,cc,hA,hR,-⟩:=hr;have cN:=hR.m;have nA:=I (fun W (hW:Below w.heap.size w W)=>cN.below hW);have jl:Hid (∀ W,Below w.heap.size w W->W.cell? ⟨A,1,none⟩=some (.slice mo c.ms.length mc)):=I (fun W (hW:Below w.heap.size w W)=>(hA.step hW).cell 1 _ rfl)
 have dM:Hid (∀ (k:Nat) (m:Mem),c.ms[k]?=some m->((aR c C).cap k wd:Int)=eI m.t wd/\eI m.t wd<=4096/\m.t.length<=1000):=I (fun k m h=>by
  obtain⟨h1,h2⟩:=aJ.tic m (bU h)
  have h0:0<=eI m.t wd/\eI m.t wd<=4096:=by
   unfold eI;rw[bR]
   cases hg:m.t[wd]? with
   | none=>exact⟨by show(0:Int)<=0;omega,by show(0:Int)<=4096;omega⟩
   | some y=>exact h1 y (bU hg)
  refine⟨?_,h0.2,h2⟩;show((eI (c.ms.getD k ⟨[],[],0⟩).t wd).toNat:Int)=_;rw[bR,h];show((eI m.t wd).toNat:Int)=_
  omega)
 have jt:Hid (∀ k,k<c.ms.length->∃ m,c.ms[k]?=some m):=I (fun k h=>⟨_,aL h⟩);clear cN hA hR aJ hg aT cV;generalize tZ (aR c C) grp wd=WF at *;generalize lj (aR c C) grp=cm at *;generalize (aR c C).cap=cap0 at *;generalize nB:(fun m=>cap0 m wd)=rm at *;have J4:Hid (∀ m,rm m=cap0 m wd):=I (fun m=>by rw[<- nB]);clear nB;generalize (aR c C).can=can0 at *;generalize c.ms.length=nm at *;generalize c.us.length=nu at *;generalize hL:grp.length=L at *;obtain⟨N,hN⟩:=exq (2^L)
 have hN0:0<N:=by rw[<- hN];exact Nat.pow_pos (by omega)
 have hN1:N<=4096:=by rw[<- hN];exact dQ (Nat.pow_le_pow_right (by omega) aQ) (by decide)
 have qH:=I hL;have zK:=I hN
 have eN:((2:Int)^L)=(N:Int):=by rw[<- hN];norm_cast
 rw[hN] at KM;clear hL hN
 go_enter Tryz.func164,Tryz.ntmps164
 go_upto_region 2 with(fail)
 have gW:=run_make_row' (P:=Tryz.prog) 33 3 (.int .i64 0) 8 Tryz.underlying33 sE rfl .i64 .i64 N (by omega) (by omega);rw[Zxa] at gW
 have eA:IntKind.i64.wrap ((N:Int)-1+1)=(N:Int):=by rw[fU _ (by omega)];omega
 have bx:=bwA w (.cells (bE (eR N (fun _=>0))).toArray 3);have KN:=bx.alloc (by simp) (.cells (bE (eR N (fun _=>0))).toArray 3);have B2:=I KN;have P2:Hid (aC ((w.alloc (.cells (bE (eR N (fun _=>0))).toArray 3)).alloc (.cells (bE (eR N (fun _=>0))).toArray 3)) w.heap.size 3 (bE (eR N (fun _=>0)))):=I (aC.below (aC.new w _ _) (Below.alloc (aG _ _) (aO _) _) (by simp));have Q2:Hid (aC ((w.alloc (.cells (bE (eR N (fun _=>0))).toArray 3)).alloc (.cells (bE (eR N (fun _=>0))).toArray 3)) (w.heap.size+1) 3 (bE (eR N (fun _=>0)))):=I (heap_alloc2_new _ _ _);clear bx KN
 go_cut [8,9] from 24 to 29 (fun nv xv wx=>∃ (P Q:Nat),nv = .slice (some ⟨P,0,none⟩) N N/\xv = .slice (some ⟨Q,0,none⟩) N N/\P≠Q/\w.heap.size<=P/\w.heap.size<=Q/\Hid (aC wx P 3 (bE (eR N (fun _=>0))))/\Hid (aC wx Q 3 (bE (eR N (fun _=>0))))/\Hid (Below w.heap.size w wx))
 case first =>
  go_region
  all_goals
   go_wp2_with fail
   go_meet
   case rel =>
    first
    | exact⟨_,_,rfl,rfl,by omega,by omega,by omega,I (P2.o.step (aG _ _).drew),I (Q2.o.step (aG _ _).drew),I (B2.o.drew)⟩
    | exact⟨_,_,rfl,rfl,by omega,by omega,by omega,I (Q2.o.step (aG _ _).drew),I (P2.o.step (aG _ _).drew),I (B2.o.drew)⟩
 case rest =>
  clear P2 Q2 B2 gW eA;obtain⟨P,Q,rfl,rfl,hPQ,hP,hQ,P3,Q3,B3⟩:=hcut;generalize wc=w3 at *;have p0:=P3.o.cell 0 _ (Wk (Sq _ hN0));have pf:=P3.o.warm 0
  go_upto_region 4 with(fail)
  clear p0 pf;have on:=(Only.refl w3 (· = P)).setCell (a:=⟨P,0,none⟩) (.int .i64 1) rfl
  have P4:Hid (aC (w3.setCell ⟨P,0,none⟩ (.int .i64 1)) P 3 (bE (eR N (zT L cm rm 0)))):=I (by
   have h:=P3.o.set 0 (.int .i64 ((1:Nat):Int));rw[ER,SW (g:=zT L cm rm 0) 1 rfl (fun t _ ht=>by show(if t=0 then 1 else 0)=0;rw[if_neg ht])] at h
   exact h)
  have Q4:=I (Q3.o.only on (fun e=>hPQ e.symm));have B4:=I (Only.later B3.o on (fun g hg=>by omega));clear on P3 Q3 B3;generalize w3.setCell ⟨P,0,none⟩ (.int .i64 1)=w4 at *;have a1:=jl.o w4 B4.o
  go_wp2_with fail
  clear a1
  go_loopw [38,8,9] (fun kv nv xv wr=>∃ (k P Q:Nat) (q:List Nat),kv = .int .i64 k/\nv = .slice (some ⟨P,0,none⟩) N N/\xv = .slice (some ⟨Q,0,none⟩) N N/\k<=nm/\P≠Q/\w.heap.size<=P/\w.heap.size<=Q/\Hid (aC wr P 3 (bE (eR N (zT L cm rm k))))/\Hid (q.length=N)/\Hid (aC wr Q 3 (bE q))/\Hid (Below w.heap.size w wr)) (fun k _ _ _=>(nm-intOf k).toNat)
  case atStart=>exact⟨0,P,Q,_,rfl,rfl,rfl,by omega,hPQ,hP,hQ,P4,I (Vq _ _),Q4,B4⟩
  case round =>
   clear P4 Q4 B4;obtain⟨k,P,Q,q,rfl,rfl,rfl,hk,hPQ,hP,hQ,P5,ic,Q5,B5⟩:=hrel;have e2:=w1i k (by omega);by_cases bT:k<nm
   ·have kk:(k:Int)<nm:=by omega
    obtain⟨m,Qw⟩:=jt.o k bT;obtain⟨vX,ht2,wu⟩:=dM.o k m Qw;obtain⟨gm,om,cs,lC,gI,dX,aH⟩:=(nA.o wr B5.o).at k m Qw;have yY:=I dX;obtain⟨mbo,mbc,mto,mtc,rfl,-,-⟩:=dX;have s0:=aH 0 _ rfl;have s1:=aH 1 _ rfl;have s2:=aH 2 _ rfl;rw[Nat.add_zero] at s0;have Gi:=I lC;have bx:=bwA wr (.cells #[.slice mbo m.b.length mbc,.slice mto m.t.length mtc,.int .i64 m.r] 44);have wL:=I (ni (wr.alloc (.cells #[.slice mbo m.b.length mbc,.slice mto m.t.length mtc,.int .i64 m.r] 44)) m _ (yY.o.below bx) wd (by omega) (by omega));have S6:=hnw wr 44 [.slice mbo m.b.length mbc,.slice mto m.t.length mtc,.int .i64 m.r];have P6:=I (P5.o.step bx);have Q6:=I (Q5.o.step bx);have B6:=B5.tr bx;rw[<- J4.o k] at vX;obtain⟨room,Db⟩:=exq (rm k);rw[Db] at vX;have mD:=I Db
    have wv:room<=4096:=by omega
    rw[<- vX] at wL;clear aH gI Qw vX ht2 wu bx P5 Q5 B5 Db yY;generalize m.b.length=nb at *;generalize m.t.length=nt at *;generalize m.r=mr at *;subst lC
    go_upto_region 7 with(fail)
    clear s0 s1 s2;generalize wr.alloc (.cells #[.slice mbo nb mbc,.slice mto nt mtc,.int .i64 mr] 44)=w6 at *;generalize wr.heap.size=Mb at *
    go_wp2_with (refine wpList_load_row rfl 44 (.tmp 11) rfl Mb ?la1 44 #[.slice mbo nb mbc,.slice mto nt mtc,.int .i64 mr] (0,0) _ S6.o Tryz.underlying44 rfl (ev _ _ _) ?_;(case la1=>rfl))
    refine wL.o.mono ?_;rintro e w7 ⟨rfl,b7⟩;have P7:=I (P6.o.step b7);have Q7:=I (Q6.o.step b7);have B7:=B6.tr b7;clear b7 P6 Q6 B6 S6 wL
    go_upto_region 9 with(fail)
    obtain⟨f,hf⟩:∃ y,(fun i=>can0 (grp.getD i 0) k)=y:=⟨_,rfl⟩;have HF:Hid (∀ i,f i=can0 (grp.getD i 0) k):=I (fun i=>by rw[<- hf]);have Ug:Hid (cm k=zU f L):=I (by rw[rf.o,hf]);clear hf
    have eL:(0:Int)<=L:=by omega
    obtain⟨wz,Gq⟩:=exq (w7);have Gr:=I Gq;rw[Gq] at P7 Q7 B7;clear Gq
    go_wp2_with fail
    go_loopw [48,13] (fun iv mv ws=>∃ (i:Nat),iv = .int .i64 i/\mv = .int .i64 ((zU f i:Nat):Int)/\i<=L/\Hid (Below wz.heap.size wz ws)) (fun i _ _=>(L-intOf i).toNat)
    case atStart=>exact⟨0,rfl,rfl,by omega,I (by rw[Gr.o];exact aG _ _)⟩
    case round =>
     obtain⟨i,rfl,rfl,hi,BZ⟩:=hrel;have e3:=w1i i (by omega);by_cases hiL:i<L
     ·have ii:(i:Int)<L:=by omega
      obtain⟨u,hu⟩:∃ u,grp[i]?=some u:=⟨_,aL (by rw[qH.o];exact hiL)⟩;have gV:=eZ.o u (bU hu);have BW:=B7.tr BZ.o;obtain⟨gl,ol,fI,dT,vE⟩:=(HG.o wr BW.o).at jN i (u:Int) (by rw[dK,hu];rfl);have l0:=vE 0 _ rfl;rw[Nat.mul_one,Nat.add_zero] at l0;have Gd:=I fI;obtain⟨g4,o4,c4,bo,bc,ru,x4,xr,iA,gC,iS⟩:=sV.o u wr BW.o gV
      have hFI:f i=ru.getD k false:=by
       rw[HF.o,bR (l:=grp),hu];exact iS k
      obtain⟨gb,ob,dE,iR⟩:=iA.bool k (by rw[gC];exact bT);obtain⟨bt,mW⟩:=exq (ru.getD k false);rw[mW] at iR hFI;have rY:=I hFI
      have uu:(u:Int)<nu:=by omega
      have GO:=CP f i;have J5:2^i<=2048:=dQ (Nat.pow_le_pow_right (by omega) (show i<=11 by omega)) (by decide);obtain⟨T2,hT2⟩:=exq (2^i)
      have eT:((2:Int)^i)=(T2:Int):=by rw[<- hT2];norm_cast
      have Ub:Hid (zU f (i+1)=zU f i ||| (if bt=true then T2 else 0)):=I (by rw[<- hT2,<- rY.o];rfl);obtain⟨mi,qG⟩:=exq (zU f i);obtain⟨mj,Zk⟩:=exq (zU f (i+1));have KP:=I Zk;rw[qG,hT2] at GO;rw[qG,Zk] at Ub;rw[qG];rw[hT2] at J5;subst fI;subst dE;clear hu dT vE iA gC iS hFI mW hT2 qG Zk
      cases bt with
      | false =>
       have sP:Hid (mj=mi):=I (by rw[Ub.o];simp)
       go_wp2_with fail
       clear l0 x4 xr iR eT;go_roundw
       case rel=>exact⟨i+1,by go_num,by rw[KP.o,sP.o],by omega,BZ⟩
       case measure=>simp only[intOf];omega
      | true =>
       have eO:bits .or .i64 (mi:Int) (T2:Int)=(mj:Int):=by
        rw[SM (by omega) (by omega),Ub.o];rfl
       go_wp2_with fail
       clear l0 x4 xr iR eT eO;go_roundw
       case rel=>exact⟨i+1,by go_num,by rw[KP.o],by omega,BZ⟩
       case measure=>simp only[intOf];omega
     ·have ii:¬ (i:Int)<L:=by omega
      obtain rfl:L=i:=by omega
      have P8:=I (P7.o.step BZ.o);have Q8:=I (Q7.o.step BZ.o);have B8:=B7.tr BZ.o;obtain⟨can,iS⟩:=exq (zU f L);have dW:=CP f L;rw[zK.o,iS] at dW;rw[iS] at Ug;rw[iS];clear P7 Q7 B7 BZ HF Gr iS;have Jd:=Zt2 wr 0 Q N N _ Q8.o (by rw[nz,ic.o])
      go_upto_region 16 with(fail)
      have Q9:Hid (aC (wr.setCells Q 0 (bE (eR N (fun _=>0)))) Q 3 (bE (eR N (fun _=>0)))):=I (aC.setCells (bE (eR N (fun _=>0))) [] _ wr (by simp[bE,Vq,ic.o]) Q8.o);have on:=Only.setCells_at wr Q 0 (bE (eR N (fun _=>0)));have P9:=I (P8.o.only on (fun e=>hPQ e));have B9:=I (Only.later B8.o on (fun g hg=>by omega));clear on P8 Q8 B8 Jd ic;generalize wr.setCells Q 0 (bE (eR N (fun _=>0)))=w9 at *;obtain⟨nw,hnw⟩:=exq (zT L cm rm k);have sZ:Hid (∀ t,nw t<=lH):=I (fun t=>by rw[<- hnw];exact TF _ _ _ _ _)
      have zL:Hid (∀ t,zT L cm rm (k+1) t=oU L can room nw N t):=I (fun t=>by
       show QQ L (cm k) (rm k) (zT L cm rm k) t=_
       rw[hnw,mD.o,Ug.o,<- zK.o];rfl)
      rw[hnw] at P9;clear hnw;have Q9':Hid (aC w9 Q 3 (bE (eR N (oU L can room nw 0)))):=I Q9.o;clear Q9
      go_wp2_with fail
      go_loopw [71] (fun iv ws=>∃ (i:Nat),iv = .int .i64 i/\i<=N/\Hid (aC ws P 3 (bE (eR N nw)))/\Hid (aC ws Q 3 (bE (eR N (oU L can room nw i))))/\Hid (Below w.heap.size w ws)) (fun i _=>(N-intOf i).toNat)
      case atStart=>exact⟨0,rfl,by omega,P9,Q9',B9⟩
      case round =>
       clear P9 Q9' B9;obtain⟨i,rfl,hi,Zl,ju,zB⟩:=hrel;have e4:=w1i i (by omega);by_cases aT:i<N
       ·have J6:(i:Int)<N:=by omega
        have p0:=Zl.o.cell i _ (Wk (Sq nw aT));obtain⟨x,hx⟩:=exq (nw i);have tV:=sZ.o i;rw[hx] at p0 tV;have HX:=I hx;have J7:x<=1152921504606846977:=tV;clear hx tV;by_cases h0:x=0
        ·subst h0
         have Qx:Hid (aC wr Q 3 (bE (eR N (oU L can room nw (i+1))))):=I (by rw[Ns (fun t _=>Zvk HX.o t)];exact ju.o)
         go_wp2_with fail
         clear p0;go_roundw
         case rel=>exact⟨i+1,by go_num,by omega,Zl,Qx,zB⟩
         case measure=>simp only[intOf];omega
        ·have x0:¬ (x:Int)=0:=by omega
         have x1:((x:Int)==0)=false:=by simpa using x0
         have eF:bits .andNot .i64 (can:Int) (i:Int)=((oM can i:Nat):Int):=X_ (by omega) (by omega);have jZ:=SN can i;have Qo:Hid (jS (oM can i) (oM can i)=true):=I (Z_ _);have Qx:Hid (aC wr Q 3 (bE (eR N (kR L can room nw i (oM can i+1))))):=I (by rw[Ns (fun t _=>Zs8 L can room nw i t)];exact ju.o);obtain⟨fr,Fw⟩:=exq (oM can i);rw[Fw] at eF jZ Qo Qx;have Cm:=I Fw;clear Fw
         go_wp2_with fail
         clear p0 eF
         go_loopw [19] (fun pv ws=>∃ (p:Nat),pv = .int .i64 p/\p<=fr/\Hid (jS p fr=true)/\Hid (aC ws P 3 (bE (eR N nw)))/\Hid (aC ws Q 3 (bE (eR N (kR L can room nw i (p+1)))))/\Hid (Below w.heap.size w ws)) (fun p _=>(intOf p).toNat)
         case atStart=>exact⟨fr,rfl,aO _,Qo,Zl,Qx,zB⟩
         case round =>
          clear Qo Zl Qx zB ju;obtain⟨p,rfl,hp,sU,jw,Up,Uq⟩:=hrel;have eU:IntKind.u64.wrap (p:Int)=(p:Int):=IntWalk.u64_in _ (by omega);have pK:=I (Zzf p (by omega) wr)
          have nO:Hid (oS 12 p=oS L p):=I (by
           obtain⟨d,hd⟩:∃ d,12=L+d:=⟨12-L,by omega⟩;rw[hd]
           exact SU L p d (by rw[zK.o];omega))
          have bH:=SV 12 p;obtain⟨pc,Zm⟩:=exq (oS 12 p);rw[Zm] at pK nO bH;clear Zm
          go_wp2_with fail
          refine pK.o.mono ?_;rintro e w13 ⟨rfl,rfl⟩;clear pK eU;have Kb:Hid (jS p (oM can i)=true):=I (by rw[Cm.o];exact sU.o);by_cases Gt:pc<=room
          ·have pr:(pc:Int)<=room:=by omega
           have Zn:i ||| p<N:=by
            rw[<- zK.o];exact Nat.or_lt_two_pow (by rw[zK.o];exact aT) (by rw[zK.o];omega)
           have eO:bits .or .i64 (i:Int) (p:Int)=((i ||| p:Nat):Int):=SM (by omega) (by omega);have HU:=I (Zzg (L:=L) (room:=room) (now:=nw) Kb.o (by rw[<- nO.o];exact Gt));have q3:=Up.o.cell (i ||| p) _ (Wk (Sq _ Zn));have qf:=Up.o.warm (i ||| p);rw[Z1w Kb.o] at q3;have Ur:oU L can room nw i (i ||| p)<=1152921504606846977:=TA ..;have wG:Hid (kR L can room nw i p (i ||| p)=min lH (oU L can room nw i (i ||| p)+x)):=I (by rw[<- HX.o];exact HU.o.1);obtain⟨a,ha⟩:=exq (oU L can room nw i (i ||| p));rw[ha] at q3 Ur wG;obtain⟨v,hv⟩:=exq (min lH (a+x));have eS:IntKind.i64.wrap ((a:Int)+(x:Int))=(a:Int)+(x:Int):=fU _ (by omega)
           have eM:min ((a:Int)+(x:Int)) 1152921504606846977=(v:Int):=by
            have:lH=1152921504606846977:=rfl;rw[<- hv];omega
           rw[hv] at wG
           have oE:Hid ((bE (eR N (kR L can room nw i (p+1)))).set (i ||| p) (.int .i64 (v:Int))=bE (eR N (kR L can room nw i p))):=I (by
            rw[ER,SW v wG.o (fun t _ ht=>HU.o.2 t ht)])
           obtain⟨ix,Dc⟩:=exq (i ||| p);rw[Dc] at eO q3 qf oE Zn
           have iix:(ix:Int)<N:=by omega
           clear HU wG ha hv Dc Ur
           go_upto_region 25 with(fail)
           clear q3 qf eO eS eM;have on:=(Only.refl wr (· = Q)).setCell (a:=⟨Q,ix,none⟩) (.int .i64 (v:Int)) rfl;have Zo:Hid (aC (wr.setCell ⟨Q,ix,none⟩ (.int .i64 (v:Int))) Q 3 (bE (eR N (kR L can room nw i p)))):=I (by rw[<- oE.o];exact Up.o.set ix _);have KQ:=I (jw.o.only on (fun e=>hPQ e));have wQ:=I (Only.later Uq.o on (fun g hg=>by omega));clear on jw Up Uq oE;generalize wr.setCell ⟨Q,ix,none⟩ (.int .i64 (v:Int))=KR at *;by_cases Ts:p=0
           ·subst Ts
            have QE:Hid (aC KR Q 3 (bE (eR N (oU L can room nw (i+1))))):=I (by rw[<- Ns (fun t _=>TD L can room nw i t)];exact Zo.o)
            go_wp2_with fail
            go_roundw
            case rel=>exact⟨i+1,by go_num,by omega,KQ,QE,wQ⟩
            case measure=>simp only[intOf];omega
           ·have q0:¬ (p:Int)=0:=by omega
            have q1:((p:Int)==0)=false:=by simpa using q0
            have e6:IntKind.i64.wrap ((p:Int)-1)=((p-1:Nat):Int):=by rw[fU _ (by omega)];omega
            have e7:bits .and .i64 ((p-1:Nat):Int) (fr:Int)=(((p-1) &&& fr:Nat):Int):=SL (by omega) (by omega)
            have QN:Hid (aC KR Q 3 (bE (eR N (kR L can room nw i (((p-1) &&& fr)+1))))):=I (by
             have key:eR N (kR L can room nw i p)=eR N (kR L can room nw i (((p-1) &&& fr)+1)):=Ns (fun t _=>by
              have h:=(TE (L:=L) (room:=room) (now:=nw) (n:=12) (by omega) Kb.o t).resolve_right Ts
              rwa [Cm.o] at h)
             rw[<- key]
             exact Zo.o)
            have xO:Hid (jS ((p-1) &&& fr) fr=true):=I (SO _ _);have aE:(p-1) &&& fr<=p-1:=Nat.and_le_left;obtain⟨p',Mu⟩:∃ y,(p-1) &&& fr=y:=⟨_,rfl⟩;rw[Mu] at e7 QN xO aE;clear Mu
            go_wp2_with fail
            go_roundw
            case rel=>exact⟨p',rfl,by omega,xO,KQ,QN,wQ⟩
            case measure=>simp only[intOf];omega
          ·have pr:¬ (pc:Int)<=room:=by omega
           have Zo:Hid (aC wr Q 3 (bE (eR N (kR L can room nw i p)))):=I (by
            rw[Ns (fun t _=>Zzh (L:=L) (can:=can) (room:=room) (now:=nw) (i:=i) (p:=p) (by rw[<- nO.o];exact Gt) t)]
            exact Up.o)
           clear Up;by_cases Ts:p=0
           ·subst Ts
            have QE:Hid (aC wr Q 3 (bE (eR N (oU L can room nw (i+1))))):=I (by rw[<- Ns (fun t _=>TD L can room nw i t)];exact Zo.o)
            go_wp2_with fail
            go_roundw
            case rel=>exact⟨i+1,by go_num,by omega,jw,QE,Uq⟩
            case measure=>simp only[intOf];omega
           ·have q0:¬ (p:Int)=0:=by omega
            have q1:((p:Int)==0)=false:=by simpa using q0
            have e6:IntKind.i64.wrap ((p:Int)-1)=((p-1:Nat):Int):=by rw[fU _ (by omega)];omega
            have e7:bits .and .i64 ((p-1:Nat):Int) (fr:Int)=(((p-1) &&& fr:Nat):Int):=SL (by omega) (by omega)
            have QN:Hid (aC wr Q 3 (bE (eR N (kR L can room nw i (((p-1) &&& fr)+1))))):=I (by
             have key:eR N (kR L can room nw i p)=eR N (kR L can room nw i (((p-1) &&& fr)+1)):=Ns (fun t _=>by
              have h:=(TE (L:=L) (room:=room) (now:=nw) (n:=12) (by omega) Kb.o t).resolve_right Ts
              rwa [Cm.o] at h)
             rw[<- key]
             exact Zo.o)
            have xO:Hid (jS ((p-1) &&& fr) fr=true):=I (SO _ _);have aE:(p-1) &&& fr<=p-1:=Nat.and_le_left;obtain⟨p',Mu⟩:∃ y,(p-1) &&& fr=y:=⟨_,rfl⟩;rw[Mu] at e7 QN xO aE;clear Mu
            go_wp2_with fail
            go_roundw
            case rel=>exact⟨p',rfl,by omega,xO,jw,QN,Uq⟩
            case measure=>simp only[intOf];omega
       ·have J6:¬ (i:Int)<N:=by omega
        obtain rfl:N=i:=by omega
        have Qx:Hid (aC wr Q 3 (bE (eR N (zT L cm rm (k+1))))):=I (by rw[Ns (fun t _=>zL.o t)];exact ju.o)
        go_wp2_with fail
        go_roundw
        case rel=>exact⟨k+1,Q,P,_,by go_num,rfl,rfl,by omega,fun e=>hPQ e.symm,hQ,hP,Qx,I (Vq _ _),Zl,zB⟩
        case measure=>simp only[intOf];omega
   ·have kk:¬ (k:Int)<nm:=by omega
    obtain rfl:nm=k:=by omega
    have pN:=P5.o.cell (N-1) _ (Wk (Sq _ (by omega)))
    have eN1:((N:Int)-1).toNat=N-1:=by omega
    have Mi:Hid (WF=zT L cm rm nm (N-1)):=I KM.o;rw[<- Mi.o] at pN
    have n1:(0:Int)<=(N:Int)-1:=by omega
    have n2:(N:Int)-1<(N:Int):=by omega
    go_wp2_with fail
    go_ret;exact⟨rfl,B5.o⟩
end
section
open Go.RowKit Go.Sort Go.Maps
theorem MstOk.nextG{C:Tbl}{k:Nat}{s:Mst}(h:MstOk C k s)(hk:k<C.U){p:Plc}(key:Gave C.can (fun m=>C.cap m (C.win k)) C.M (fun u=>u<C.U/\C.win u=C.win k) k ⟨s.G (C.win k),s.a,fun _=>false,[]⟩ p):MstOk C (k+1) ⟨aM s.G (C.win k) p.g,p.a⟩:=by
 refine⟨fun w t r=>?_,fun u hu=>?_,fun u hu=>?_⟩
 ·by_cases e:w=C.win k
  ·subst e
   refine⟨fun m=>?_,fun m u hu=>?_,fun m=>?_,fun u m hu ha=>?_⟩
   ·show(aM s.G _ p.g _ m).length<=_
    rw[cE];exact key.few m
   ·change u∈aM s.G _ p.g _ m at hu
    rw[cE] at hu;exact key.own m u rfl hu
   ·show(aM s.G _ p.g _ m).Nodup
    rw[cE];exact key.nodup m
   ·show u∈aM s.G _ p.g _ m
    rw[cE];exact key.told u m hu ha
  ·have hw:=h.ok w t r
   have cT:∀ u,u<C.U/\C.win u=w->p.a u=s.a u:=fun u hu=>key.else_ u (fun h'=>e (hu.2.symm.trans h'.2))
   refine⟨fun m=>?_,fun m u hu=>?_,fun m=>?_,fun u m hu ha=>?_⟩
   ·show(aM s.G _ p.g w m).length<=_
    rw[dA _ _ _ e];exact hw.few m
   ·change u∈aM s.G _ p.g w m at hu
    rw[dA _ _ _ e] at hu;obtain⟨b1,b2,b3,b4⟩:=hw.own m u hu;exact⟨b1,b2,b3,(cT u b3).trans b4⟩
   ·show(aM s.G _ p.g w m).Nodup
    rw[dA _ _ _ e];exact hw.nodup m
   ·show u∈aM s.G _ p.g w m
    rw[dA _ _ _ e];exact hw.told u m hu ((cT u hu).symm.trans ha)
 ·show 0<=p.a u
  by_cases e:u=k
  ·subst e
   obtain⟨m,-,h2⟩:=key.this;rw[h2];omega
  ·exact(key.has u e).2 (h.done u (by omega))
 ·show p.a u<0
  have h1:=h.left u (by omega);have h2:=key.has u (by omega)
  have h3:¬ 0<=s.a u:=by omega
  have h4:¬ 0<=p.a u:=fun h5=>h3 (h2.1 h5)
  omega
theorem MstOk.shortG{C:Tbl}{k:Nat}{s:Mst}(h:MstOk C k s)(hk:k<C.U){p:Plc}(key:Stuck C.can (fun m=>C.cap m (C.win k)) C.M (· = k) ⟨s.G (C.win k),s.a,fun _=>false,[]⟩ p)(uH:k∈p.r):Short C p.r (C.win k)/\k∈p.r:=by
 have aJ:=h.ok (C.win k) (fun _=>false) []
 have Pf:∀ v,v∈p.r->v=k\/∃ m,p.t m=true/\v∈s.G (C.win k) m:=fun v hv=>by
  rcases key.newr v hv (by simp) with h1 | ⟨m,-,h2,h3⟩
  ·exact .inl h1
  ·exact .inr ⟨m,h2,h3⟩
 refine⟨⟨key.reach,fun u hu=>?_,?_⟩,uH⟩
 ·rcases Pf u hu with h1 | ⟨m,h1,h2⟩
  ·subst h1;exact⟨hk,rfl⟩
  ·exact(aJ.own m u h2).2.2.1
 ·
  have Pg:=h.left k (aO _)
  let f:Nat->Nat:=fun u=>if s.a u<0 then C.M else(s.a u).toNat
  have h1:=li f (C.M+1) p.r;have h2:p.r.countP (fun u=>decide (f u<C.M+1))<=p.r.length:=List.countP_le_length;rw[List.range_succ,List.map_append,List.sum_append] at h1;simp only[List.map_cons,List.map_nil,List.sum_cons,List.sum_nil,Nat.add_zero] at h1;have h3:0<p.r.countP (fun u=>f u==C.M):=List.countP_pos_iff.2 ⟨k,uH,by show((if s.a k<0 then C.M else _)==C.M)=true;rw[if_pos Pg];simp⟩
  have h4:Si C p.r (C.win k)<=((List.range C.M).map (fun m=>p.r.countP (fun u=>f u==m))).sum:=by
   unfold Si;refine lh _ (fun m hm=>?_);by_cases e:p.r.any (fun u=>C.can u m)=true
   ·rw[if_pos e]
    obtain⟨u,hu,hc⟩:=List.any_eq_true.1 e;have ht:=key.shut u hu (by simp) m (List.mem_range.1 hm) hc;obtain⟨h5,h6,h7⟩:=key.full m ht rfl;refine dQ h5 ?_;rw[List.countP_eq_length_filter];refine Sj _ _ (aJ.nodup m) (fun v hv=>List.mem_filter.2 ⟨h7 v hv,?_⟩);have ha:s.a v=(m:Int):=(aJ.own m v hv).2.2.2;show((if s.a v<0 then C.M else(s.a v).toNat)==m)=true;rw[if_neg (by omega),ha];simp
   ·rw[if_neg e];exact Nat.zero_le _
  omega
def gA(T:Tbl)(wd:Nat)(a:Nat->Int)(m:Nat):List Nat:=(List.range T.U).filter (fun v=>T.win v==wd&&a v==(m:Int))
def gTo(T:Tbl)(wd:Nat)(a:Nat->Int)(m i:Nat):List Nat:=(List.range i).filter (fun v=>T.win v==wd&&a v==(m:Int))
theorem Z2l(T:Tbl)(wd:Nat)(a:Nat->Int)(m:Nat):gTo T wd a m T.U=gA T wd a m:=rfl
theorem pg{T:Tbl}{wd:Nat}{a:Nat->Int}{m i:Nat}(h1:T.win i=wd)(h2:a i=(m:Int)):gTo T wd a m (i+1)=gTo T wd a m i++[i]:=by
 unfold gTo;rw[List.range_succ,List.filter_append,List.filter_cons,if_pos (by simp[h1,h2])];rfl
theorem YS{T:Tbl}{wd:Nat}{a:Nat->Int}{m i:Nat}(h:¬ (T.win i=wd/\a i=(m:Int))):gTo T wd a m (i+1)=gTo T wd a m i:=by
 unfold gTo;rw[List.range_succ,List.filter_append,List.filter_cons,if_neg (by simpa using h)];simp
theorem YT(T:Tbl)(wd:Nat)(a:Nat->Int)(m:Nat):∀ d i,gTo T wd a m i <+: gTo T wd a m (i+d)
 | 0,i=>List.prefix_refl _
 | d+1,i=>by
  refine(YT T wd a m d i).trans ?_;show gTo T wd a m (i+d) <+: gTo T wd a m (i+d+1);unfold gTo;rw[List.range_succ,List.filter_append];exact List.prefix_append _ _
theorem FJ{T:Tbl}{wd:Nat}{a:Nat->Int}{m i:Nat}(hi:i<=T.U):(gA T wd a m).take (gTo T wd a m i).length=gTo T wd a m i:=by
 obtain⟨d,hd⟩:∃ d,T.U=i+d:=⟨T.U-i,by omega⟩;rw[<- Z2l,hd];exact(List.prefix_iff_eq_take.1 (YT T wd a m d i)).symm
theorem Z3l{T:Tbl}{wd:Nat}{a:Nat->Int}{m i:Nat}(hi:i<T.U)(h1:T.win i=wd)(h2:a i=(m:Int)):(gA T wd a m)[(gTo T wd a m i).length]?=some i:=by
 have h3:=FJ (T:=T) (wd:=wd) (a:=a) (m:=m) (i:=i+1) (by omega);rw[pg h1 h2] at h3
 have h4:((gA T wd a m).take (gTo T wd a m i++[i]).length)[(gTo T wd a m i).length]?=some i:=by rw[h3];simp
 rw[List.getElem?_take_of_lt (by simp)] at h4;exact h4
theorem Zxc{T:Tbl}{wd:Nat}{a:Nat->Int}{m i:Nat}(hi:i<T.U)(h1:T.win i=wd)(h2:a i=(m:Int)):(gA T wd a m).take ((gTo T wd a m i).length+1)=gTo T wd a m (i+1):=by
 have h3:=FJ (T:=T) (wd:=wd) (a:=a) (m:=m) (i:=i+1) (by omega);rw[pg h1 h2,gL,List.length_singleton] at h3;rw[pg h1 h2];exact h3
theorem FK{T:Tbl}{wd:Nat}{a:Nat->Int}{m v:Nat}:v∈gA T wd a m↔v<T.U/\T.win v=wd/\a v=(m:Int):=by
 unfold gA;rw[List.mem_filter,List.mem_range,dB,beq_iff_eq,beq_iff_eq]
theorem Z3m(T:Tbl)(wd:Nat)(a:Nat->Int)(m:Nat):(gA T wd a m).length=(List.range T.U).countP (fun v=>a v==(m:Int)&&T.win v==wd):=by
 unfold gA;rw[<- List.countP_eq_length_filter];refine congrArg (fun f=>List.countP f (List.range T.U)) (funext (fun v=>Bool.and_comm _ _))
theorem MstOk.sorted{C:Tbl}{k:Nat}{s:Mst}(h:MstOk C k s):MstOk C k ⟨fun w=>gA C w s.a,s.a⟩:=by
 refine⟨fun w t r=>?_,h.done,h.left⟩;have hw:=h.ok w t r;refine⟨fun m=>?_,fun m u hu=>?_,fun m=>?_,fun u m hu ha=>?_⟩
 ·refine dQ (Sj _ _ (List.nodup_range.filter _) (fun u hu=>?_)) (hw.few m)
  obtain⟨h1,h2,h3⟩:=FK.1 hu;exact hw.told u m ⟨h1,h2⟩ h3
 ·obtain⟨h1,h2,h3⟩:=FK.1 hu
  exact hw.own m u (hw.told u m ⟨h1,h2⟩ h3)
 ·exact List.nodup_range.filter _
 ·exact FK.2 ⟨hu.1,hu.2,ha⟩
section
variable {can:Nat->Nat->Bool} {cap:Nat->Nat} {M:Nat} {W:Nat->Prop}
theorem Gave.from{u:Nat}{s0 s s':Plc}(h:PlcPre can cap M W s0)(hh:∀ m,u∈s0.g m->s0.t m=true)(aV:Stuck can cap M (fun _=>False) s0 s)(key:Gave can cap M W u s s'):Gave can cap M W u s0 s':=by
 have hP:PlcPre can cap M W s:=h.after aV (fun v hv=>hv.elim);refine⟨fun m h1=>?_,key.few,key.nodup,fun m v h1 h2=>?_,fun m v h1 h2 h3=>?_,key.told,?_,fun v h1=>?_,fun v h1=>?_⟩
 ·rw[key.kept m (aV.more m h1),aV.g]
 ·cases e:s.t m with
  | false=>exact key.own m v e h2
  | true =>
   rw[key.kept m e] at h2;obtain⟨b1,b2,b3,b4⟩:=hP.own m v h2
   have iJ:v≠u:=fun e2=>by
    subst e2;rw[aV.g] at h2;rw[hh m h2] at h1;cases h1
   exact⟨b1,b2,b3,by rw[key.same m v e h2 iJ];exact b4⟩
 ·rw[key.same m v (aV.more m h1) (by rw[aV.g];exact h2) h3,aV.a]
 ·obtain⟨m1,h4,h5⟩:=key.this
  refine⟨m1,?_,h5⟩
  cases e:s0.t m1 with
  | false=>rfl
  | true=>rw[aV.more m1 e] at h4;cases h4
 ·rw[key.has v h1,aV.a]
 ·rw[key.else_ v h1,aV.a]
theorem Gave.enter{u:Nat}{s s':Plc}(key:Gave can cap M W u { s with r:=s.r++[u] } s'):Gave can cap M W u s s' :=
 ⟨key.kept,key.few,key.nodup,key.own,key.same,key.told,key.this,key.has,key.else_⟩
theorem Stuck.place{u:Nat}{s s2:Plc}(aV:Stuck can cap M (fun _=>False) { s with r:=s.r++[u] } s2)(Bn:∀ m,m<M->can u m=true->s2.t m=true):Stuck can cap M (· = u) s s2/\u∈s2.r:=by
 have qj:u∈s2.r:=aV.old.subset (by show u∈s.r++[u];simp);refine⟨⟨aV.g,aV.a,aV.more,List.IsPrefix.trans (List.prefix_append _ _) aV.old,aV.full,fun v h1 h2 m hm hc=>?_,fun v h1 h2=>?_,aV.reach⟩,qj⟩
 ·by_cases e:v=u
  ·subst e;exact Bn m hm hc
  ·exact aV.shut v h1 (fun h3=>by
    rcases kI.1 h3 with h4 | h4
    ·exact h2 h4
    ·exact e (List.mem_singleton.1 h4)) m hm hc
 ·by_cases e:v=u
  ·exact .inl e
  ·rcases aV.newr v h1 (fun h3=>by
    rcases kI.1 h3 with h4 | h4
    ·exact h2 h4
    ·exact e (List.mem_singleton.1 h4)) with h3 | h3
   ·exact h3.elim
   ·exact .inr h3
end
def lA(U:Nat)(a:Nat->Int):List Int:=(List.range U).map a
def tA(M:Nat)(t:Nat->Bool):List Bool:=(List.range M).map t
theorem ph(U:Nat)(a:Nat->Int):(lA U a).length=U:=by unfold lA;rw[eB,List.length_range]
theorem ey{U i:Nat}(a:Nat->Int)(h:i<U):(lA U a)[i]?=some (a i):=by unfold lA;rw[dK,List.getElem?_range h];rfl
theorem Z4e{M i:Nat}(t:Nat->Bool)(h:i<M):(tA M t)[i]?=some (t i):=by unfold tA;rw[dK,List.getElem?_range h];rfl
theorem YU{α:Type}(N:Nat)(f:Nat->α)(i:Nat)(v:α):((List.range N).map f).set i v=(List.range N).map (aM f i v):=by
 apply List.ext_getElem?;intro j;rw[List.getElem?_set,dK,dK,eB,List.length_range];by_cases hj:j<N
 ·rw[List.getElem?_range hj]
  by_cases e:i=j
  ·subst e;rw[if_pos rfl,if_pos hj];show _=some (aM f i v i);rw[cE]
  ·rw[if_neg e];show some (f j)=some (aM f i v j);rw[dA _ _ _ (fun h=>e h.symm)]
 ·rw[List.getElem?_eq_none (l:=List.range N) (by rw[List.length_range];omega)]
  split
  ·rw[if_neg (by omega)];rfl
  ·rfl
theorem YV(U:Nat)(a:Nat->Int)(i:Nat)(v:Int):(lA U a).set i v=lA U (aM a i v):=YU U a i v
theorem Z3n(M:Nat)(t:Nat->Bool)(i:Nat)(v:Bool):(tA M t).set i v=tA M (aM t i v):=YU M t i v
end
end Go.Proofs.YtbcgocpihobjnaaGreatDoor
