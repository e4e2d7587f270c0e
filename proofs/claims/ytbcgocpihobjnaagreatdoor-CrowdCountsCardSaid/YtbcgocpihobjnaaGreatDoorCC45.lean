import Derived.WideKeyEntry
import Derived.Test.YtbcgocpihobjnaaGreatDoorCC41
import Derived.Test.YtbcgocpihobjnaaGreatDoorCC14
import Derived.Test.YtbcgocpihobjnaaGreatDoorCC44
import Derived.Test.YtbcgocpihobjnaaGreatDoorCC0
import Derived.Test.YtbcgocpihobjnaaGreatDoorCC13
set_option linter.all false
set_option maxHeartbeats 16000000
set_option maxRecDepth 100000
namespace Go.Proofs.YtbcgocpihobjnaaGreatDoor
section
open Go.RowKit Go.Sort Go.Maps
theorem Ztr(w:World)(ty:TypeId)(g M c:Nat)(vs:List Value)(hv:Zae w g 3 vs)(hl:vs.length=M):(Builtin.clear_ #[33] ty #[.slice (some ⟨g,0,none⟩) M c]).run Tryz.prog w = .ok (.tuple #[]) (w.setCells g 0 (Za0 (Zcx M (fun _=>0)))):=by
 have e:Za0 (Zcx M (fun _=>0))=List.replicate M (.int .i64 0):=by
  unfold Za0 Zcx;rw[List.map_map];show(List.range M).map (fun _=>Value.int .i64 0)=_;rw[List.map_const',List.length_range]
 rw[e];by_cases h0:M=0
 ·subst h0
  simp[Builtin.clear_,run_underlying Tryz.underlying33];rfl
 ·exact Lib.run_clear_slice (P:=Tryz.prog) w 33 3 ty (.int .i64 0) Tryz.underlying33 Tryz.zeroValue3 rfl rfl g 0 M c (by omega) (fun j hj=>by rw[Nat.zero_add,hv.cell j (vs[j]'(by omega)) (đb _)];rfl) (fun j hj=>by rw[Nat.zero_add];exact hv.warm j)
theorem Zhz{l:List Nat}{i x:Nat}(h:l[i]?=some x):(Za0 l)[i]?=some (.int .i64 (x:Int)):=by
 unfold Za0;rw[đj,h];rfl
theorem Zxi(N:Nat):madeCells #[Value.int .i64 0] N=(Za0 (Zcx N (fun _=>0))).toArray:=by
 have e:Za0 (Zcx N (fun _=>0))=List.replicate N (.int .i64 0):=by
  unfold Za0 Zcx;rw[List.map_map];show(List.range N).map (fun _=>Value.int .i64 0)=_;rw[List.map_const',List.length_range]
 rw[e];apply Array.ext
 ·simp[madeCells]
 ·intro i h1 h2
  simp[madeCells,Nat.mod_one]
theorem Zha(v0 v1 v2:Value):(Tryz.prog.info? 44).map (·.size)=some #[v0,v1,v2].size:=by
 show _=some 3
 kernel_rfl
theorem Z0l(w:World)(A:Nat)(c:Crw)(H C:List (List Bool))(grp:List Nat)(go:Option Addr)(gc wd:Nat)(hr:Zbo w A c H C)(hok:ReckOk c C)(hg:Zan Zbg w go (grp.map Int.ofNat))(hin:∀ u,u∈grp->u<c.us.length)(hlen:grp.length<=12)(hwd:wd<=1000) :
  Calls Tryz.prog 164 #[.pointer (some ⟨A,0,none⟩),.slice go grp.length gc,.int .i64 wd] w fun e w'=>e = .returned (.int .i64 ((Zij (Za1 c C) grp wd:Nat):Int))/\Below w.heap.size w w':=by
 have hM:=hok.nm;have hU:=hok.nu;have HR:=ħ hr;have HOK:=ħ hok;have HWF:Hid (Zij (Za1 c C) grp wd=Zgt grp.length (Z28 (Za1 c C) grp) (fun m=>(Za1 c C).cap m wd) c.ms.length (2^grp.length-1)):=ħ rfl;have HCM:Hid (∀ m,Z28 (Za1 c C) grp m=Zgu (fun i=>(Za1 c C).can (grp.getD i 0) m) grp.length):=ħ (fun m=>rfl);have HIN:=ħ hin;have HG:=ħ (fun W (hW:Below w.heap.size w W)=>hg.below hW)
 have HROW:Hid (∀ u W,Below w.heap.size w W->u<c.us.length->∃ gc oc cc bo bc ru,W.cell? ⟨A,4,none⟩=some (.slice (some ⟨gc,oc,none⟩) c.us.length cc)/\W.cell? ⟨gc,oc+u,none⟩=some (.slice bo c.ms.length bc)/\Zan Zc5 W bo ru/\ru.length=c.ms.length/\∀ k,(Za1 c C).can u k=ru.getD k false):=ħ (fun u W hW hu=>by
  obtain⟨qo,mo,uo,ho,co,qc,mc,uc,hc,cc,hA,hR,-⟩:=HR.o.below hW;obtain⟨ru,hru⟩:∃ y,C[u]?=some y:=⟨_,đb (by rw[hok.len];exact hu)⟩;have hrl:=hok.row ru (đe hru);have ha:=hA.cell 4 _ rfl;obtain⟨gc,oc,bo,bc,hco,hgc,hrc,hrb⟩:=hR.c.at u ru hru;rw[hco,hok.len] at ha;rw[hrl] at hrc
  exact⟨gc,oc,cc,bo,bc,ru,ha,hrc,hrb,hrl,fun k=>by
   show(C.getD u []).getD k false=_
   rw[đf (l:=C),hru];rfl⟩)
 obtain⟨qo,mo,uo,ho,co,qc,mc,uc,hc,cc,hA,hR,-⟩:=hr;have hm0:=hR.m;have HMW:=ħ (fun W (hW:Below w.heap.size w W)=>hm0.below hW);have HAW:Hid (∀ W,Below w.heap.size w W->W.cell? ⟨A,1,none⟩=some (.slice mo c.ms.length mc)):=ħ (fun W (hW:Below w.heap.size w W)=>(hA.step hW).cell 1 _ rfl)
 have HTK:Hid (∀ (k:Nat) (m:Mem),c.ms[k]?=some m->((Za1 c C).cap k wd:Int)=Zcd m.t wd/\Zcd m.t wd<=4096/\m.t.length<=1000):=ħ (fun k m h=>by
  obtain⟨h1,h2⟩:=hok.tic m (đe h)
  have h0:0<=Zcd m.t wd/\Zcd m.t wd<=4096:=by
   unfold Zcd;rw[đf]
   cases hg:m.t[wd]? with
   | none=>exact⟨by show(0:Int)<=0;omega,by show(0:Int)<=4096;omega⟩
   | some y=>exact h1 y (đe hg)
  refine⟨?_,h0.2,h2⟩;show((Zcd (c.ms.getD k ⟨[],[],0⟩).t wd).toNat:Int)=_;rw[đf,h];show((Zcd m.t wd).toNat:Int)=_
  omega)
 have HMX:Hid (∀ k,k<c.ms.length->∃ m,c.ms[k]?=some m):=ħ (fun k h=>⟨_,đb h⟩);clear hm0 hA hR hok hg hin HOK;generalize Zij (Za1 c C) grp wd=WF at *;generalize Z28 (Za1 c C) grp=cm at *;generalize (Za1 c C).cap=cap0 at *;generalize hrm:(fun m=>cap0 m wd)=rm at *;have HRM:Hid (∀ m,rm m=cap0 m wd):=ħ (fun m=>by rw[<- hrm]);clear hrm;generalize (Za1 c C).can=can0 at *;generalize c.ms.length=nm at *;generalize c.us.length=nu at *;generalize hL:grp.length=L at *;obtain⟨N,hN⟩:∃ N,2^L=N:=⟨_,rfl⟩
 have hN0:0<N:=by rw[<- hN];exact Nat.pow_pos (by omega)
 have hN1:N<=4096:=by rw[<- hN];exact đo (Nat.pow_le_pow_right (by omega) hlen) (by decide)
 have HLL:=ħ hL;have HNN:=ħ hN
 have eN:((2:Int)^L)=(N:Int):=by rw[<- hN];norm_cast
 rw[hN] at HWF;clear hL hN
 go_enter Tryz.func164,Tryz.ntmps164
 go_upto_region 2 with(fail)
 have hmk:=run_make_row' (P:=Tryz.prog) 33 3 (.int .i64 0) 8 Tryz.underlying33 Zbl rfl .i64 .i64 N (by omega) (by omega);rw[Zxi] at hmk
 have eA:IntKind.i64.wrap ((N:Int)-1+1)=(N:Int):=by rw[đh _ (by omega)];omega
 have bx:=(đc w.heap.size w).alloc (đd _) (.cells (Za0 (Zcx N (fun _=>0))).toArray 3);have by2:=bx.alloc (by simp) (.cells (Za0 (Zcx N (fun _=>0))).toArray 3);have B2:=ħ by2;have P2:Hid (Zae ((w.alloc (.cells (Za0 (Zcx N (fun _=>0))).toArray 3)).alloc (.cells (Za0 (Zcx N (fun _=>0))).toArray 3)) w.heap.size 3 (Za0 (Zcx N (fun _=>0)))):=ħ (Zae.below (Zae.new w _ _) (Below.alloc (đc _ _) (đd _) _) (by simp));have Q2:Hid (Zae ((w.alloc (.cells (Za0 (Zcx N (fun _=>0))).toArray 3)).alloc (.cells (Za0 (Zcx N (fun _=>0))).toArray 3)) (w.heap.size+1) 3 (Za0 (Zcx N (fun _=>0)))):=ħ (heap_alloc2_new _ _ _);clear bx by2
 go_cut [8,9] from 24 to 29 (fun nv xv wx=>∃ (P Q:Nat),nv = .slice (some ⟨P,0,none⟩) N N/\xv = .slice (some ⟨Q,0,none⟩) N N/\P≠Q/\w.heap.size<=P/\w.heap.size<=Q/\Hid (Zae wx P 3 (Za0 (Zcx N (fun _=>0))))/\Hid (Zae wx Q 3 (Za0 (Zcx N (fun _=>0))))/\Hid (Below w.heap.size w wx))
 case first =>
  go_region
  all_goals
   go_wp2_with fail
   go_meet
   case rel =>
    first
    | exact⟨_,_,rfl,rfl,by omega,by omega,by omega,ħ (P2.o.step (đc _ _).drew),ħ (Q2.o.step (đc _ _).drew),ħ (B2.o.drew)⟩
    | exact⟨_,_,rfl,rfl,by omega,by omega,by omega,ħ (Q2.o.step (đc _ _).drew),ħ (P2.o.step (đc _ _).drew),ħ (B2.o.drew)⟩
 case rest =>
  clear P2 Q2 B2 hmk eA;obtain⟨P,Q,rfl,rfl,hPQ,hP,hQ,P3,Q3,B3⟩:=hcut;generalize wc=w3 at *;have p0:=P3.o.cell 0 _ (Zhz (Ze6 _ hN0));have pf:=P3.o.warm 0
  go_upto_region 4 with(fail)
  clear p0 pf;have on:=(Only.refl w3 (· = P)).setCell (a:=⟨P,0,none⟩) (.int .i64 1) rfl
  have P4:Hid (Zae (w3.setCell ⟨P,0,none⟩ (.int .i64 1)) P 3 (Za0 (Zcx N (Zgt L cm rm 0)))):=ħ (by
   have h:=P3.o.set 0 (.int .i64 ((1:Nat):Int));rw[Zna,Zrf (g:=Zgt L cm rm 0) 1 rfl (fun t _ ht=>by show(if t=0 then 1 else 0)=0;rw[if_neg ht])] at h
   exact h)
  have Q4:=ħ (Q3.o.only on (fun e=>hPQ e.symm));have B4:=ħ (Only.later B3.o on (fun g hg=>by omega));clear on P3 Q3 B3;generalize w3.setCell ⟨P,0,none⟩ (.int .i64 1)=w4 at *;have a1:=HAW.o w4 B4.o
  go_wp2_with fail
  clear a1
  go_loopw [38,8,9] (fun kv nv xv wr=>∃ (k P Q:Nat) (q:List Nat),kv = .int .i64 k/\nv = .slice (some ⟨P,0,none⟩) N N/\xv = .slice (some ⟨Q,0,none⟩) N N/\k<=nm/\P≠Q/\w.heap.size<=P/\w.heap.size<=Q/\Hid (Zae wr P 3 (Za0 (Zcx N (Zgt L cm rm k))))/\Hid (q.length=N)/\Hid (Zae wr Q 3 (Za0 q))/\Hid (Below w.heap.size w wr)) (fun k _ _ _=>(nm-intOf k).toNat)
  case atStart=>exact⟨0,P,Q,_,rfl,rfl,rfl,by omega,hPQ,hP,hQ,P4,ħ (Zdt _ _),Q4,B4⟩
  case round =>
   clear P4 Q4 B4;obtain⟨k,P,Q,q,rfl,rfl,rfl,hk,hPQ,hP,hQ,P5,HQL,Q5,B5⟩:=hrel;have e2:IntKind.i64.wrap ((k:Int)+1)=((k+1:Nat):Int):=đh _ (by omega);by_cases hkn:k<nm
   ·have kk:(k:Int)<nm:=by omega
    obtain⟨m,hmk'⟩:=HMX.o k hkn;obtain⟨ht1,ht2,ht3⟩:=HTK.o k m hmk';obtain⟨gm,om,cs,hmo,hgm,hmc,hrd⟩:=(HMW.o wr B5.o).at k m hmk';have HMC:=ħ hmc;obtain⟨mbo,mbc,mto,mtc,rfl,-,-⟩:=hmc;have s0:=hrd 0 _ rfl;have s1:=hrd 1 _ rfl;have s2:=hrd 2 _ rfl;rw[Nat.add_zero] at s0;have HMO:=ħ hmo;have bx:=(đc wr.heap.size wr).alloc (đd _) (.cells #[.slice mbo m.b.length mbc,.slice mto m.t.length mtc,.int .i64 m.r] 44);have HTI:=ħ (Zgh (wr.alloc (.cells #[.slice mbo m.b.length mbc,.slice mto m.t.length mtc,.int .i64 m.r] 44)) m _ (HMC.o.below bx) wd (by omega) (by omega));have S6:Hid (Zae (wr.alloc (.cells #[.slice mbo m.b.length mbc,.slice mto m.t.length mtc,.int .i64 m.r] 44)) wr.heap.size 44 [.slice mbo m.b.length mbc,.slice mto m.t.length mtc,.int .i64 m.r]):=ħ (heap_alloc_new _ _);have P6:=ħ (P5.o.step bx);have Q6:=ħ (Q5.o.step bx);have B6:=ħ (B5.o.trans (bx.mono B5.o.size));rw[<- HRM.o k] at ht1;obtain⟨room,hroom⟩:∃ y,rm k=y:=⟨_,rfl⟩;rw[hroom] at ht1;have HRO:=ħ hroom
    have hroom2:room<=4096:=by omega
    rw[<- ht1] at HTI;clear hrd hgm hmk' ht1 ht2 ht3 bx P5 Q5 B5 hroom HMC;generalize m.b.length=nb at *;generalize m.t.length=nt at *;generalize m.r=mr at *;subst hmo
    go_upto_region 7 with(fail)
    clear s0 s1 s2;generalize wr.alloc (.cells #[.slice mbo nb mbc,.slice mto nt mtc,.int .i64 mr] 44)=w6 at *;generalize wr.heap.size=Mb at *
    go_wp2_with (refine wpList_load_row rfl 44 (.tmp 11) rfl Mb ?la1 44 #[.slice mbo nb mbc,.slice mto nt mtc,.int .i64 mr] (0,0) _ S6.o Tryz.underlying44 rfl (Zha _ _ _) ?_;(case la1=>rfl))
    refine HTI.o.mono ?_;rintro e w7 ⟨rfl,b7⟩;have P7:=ħ (P6.o.step b7);have Q7:=ħ (Q6.o.step b7);have B7:=ħ (B6.o.trans (b7.mono B6.o.size));clear b7 P6 Q6 B6 S6 HTI
    go_upto_region 9 with(fail)
    obtain⟨f,hf⟩:∃ y,(fun i=>can0 (grp.getD i 0) k)=y:=⟨_,rfl⟩;have HF:Hid (∀ i,f i=can0 (grp.getD i 0) k):=ħ (fun i=>by rw[<- hf]);have HCK:Hid (cm k=Zgu f L):=ħ (by rw[HCM.o,hf]);clear hf
    have eL:(0:Int)<=L:=by omega
    obtain⟨wz,hwz⟩:∃ y,w7=y:=⟨_,rfl⟩;have HWZ:=ħ hwz;rw[hwz] at P7 Q7 B7;clear hwz
    go_wp2_with fail
    go_loopw [48,13] (fun iv mv ws=>∃ (i:Nat),iv = .int .i64 i/\mv = .int .i64 ((Zgu f i:Nat):Int)/\i<=L/\Hid (Below wz.heap.size wz ws)) (fun i _ _=>(L-intOf i).toNat)
    case atStart=>exact⟨0,rfl,rfl,by omega,ħ (by rw[HWZ.o];exact đc _ _)⟩
    case round =>
     obtain⟨i,rfl,rfl,hi,BZ⟩:=hrel;have e3:IntKind.i64.wrap ((i:Int)+1)=((i+1:Nat):Int):=đh _ (by omega);by_cases hiL:i<L
     ·have ii:(i:Int)<L:=by omega
      obtain⟨u,hu⟩:∃ u,grp[i]?=some u:=⟨_,đb (by rw[HLL.o];exact hiL)⟩;have hun:=HIN.o u (đe hu);have BW:=ħ (B7.o.trans (BZ.o.mono B7.o.size));obtain⟨gl,ol,hlo,hgl,hlc⟩:=(HG.o wr BW.o).at Zaz i (u:Int) (by rw[đj,hu];rfl);have l0:=hlc 0 _ rfl;rw[Nat.mul_one,Nat.add_zero] at l0;have HLO:=ħ hlo;obtain⟨g4,o4,c4,bo,bc,ru,x4,xr,hrb,hrl,hcan⟩:=HROW.o u wr BW.o hun
      have hFI:f i=ru.getD k false:=by
       rw[HF.o,đf (l:=grp),hu];exact hcan k
      obtain⟨gb,ob,hbo,hbc⟩:=hrb.bool k (by rw[hrl];exact hkn);obtain⟨bt,hbt⟩:∃ y,ru.getD k false=y:=⟨_,rfl⟩;rw[hbt] at hbc hFI;have HFI:=ħ hFI
      have uu:(u:Int)<nu:=by omega
      have hmi:=Zms f i;have hpi:2^i<=2048:=đo (Nat.pow_le_pow_right (by omega) (show i<=11 by omega)) (by decide);obtain⟨T2,hT2⟩:∃ y,2^i=y:=⟨_,rfl⟩
      have eT:((2:Int)^i)=(T2:Int):=by rw[<- hT2];norm_cast
      have HMN:Hid (Zgu f (i+1)=Zgu f i ||| (if bt=true then T2 else 0)):=ħ (by rw[<- hT2,<- HFI.o];rfl);obtain⟨mi,hmm⟩:∃ y,Zgu f i=y:=⟨_,rfl⟩;obtain⟨mj,hmj⟩:∃ y,Zgu f (i+1)=y:=⟨_,rfl⟩;have HMJ:=ħ hmj;rw[hmm,hT2] at hmi;rw[hmm,hmj] at HMN;rw[hmm];rw[hT2] at hpi;subst hlo;subst hbo;clear hu hgl hlc hrb hrl hcan hFI hbt hT2 hmm hmj
      cases bt with
      | false =>
       have HEQ:Hid (mj=mi):=ħ (by rw[HMN.o];simp)
       go_wp2_with fail
       clear l0 x4 xr hbc eT;go_roundw
       case rel=>exact⟨i+1,by go_num,by rw[HMJ.o,HEQ.o],by omega,BZ⟩
       case measure=>simp only[intOf];omega
      | true =>
       have eO:bits .or .i64 (mi:Int) (T2:Int)=(mj:Int):=by
        rw[Z1g (by omega) (by omega),HMN.o];rfl
       go_wp2_with fail
       clear l0 x4 xr hbc eT eO;go_roundw
       case rel=>exact⟨i+1,by go_num,by rw[HMJ.o],by omega,BZ⟩
       case measure=>simp only[intOf];omega
     ·have ii:¬ (i:Int)<L:=by omega
      obtain rfl:L=i:=by omega
      have P8:=ħ (P7.o.step BZ.o);have Q8:=ħ (Q7.o.step BZ.o);have B8:=ħ (B7.o.trans (BZ.o.mono B7.o.size));obtain⟨can,hcan⟩:∃ y,Zgu f L=y:=⟨_,rfl⟩;have hcl:=Zms f L;rw[HNN.o,hcan] at hcl;rw[hcan] at HCK;rw[hcan];clear P7 Q7 B7 BZ HF HWZ hcan;have hcr:=Ztr wr 0 Q N N _ Q8.o (by rw[Zi0,HQL.o])
      go_upto_region 16 with(fail)
      have Q9:Hid (Zae (wr.setCells Q 0 (Za0 (Zcx N (fun _=>0)))) Q 3 (Za0 (Zcx N (fun _=>0)))):=ħ (Zae.setCells (Za0 (Zcx N (fun _=>0))) [] _ wr (by simp[Za0,Zdt,HQL.o]) Q8.o);have on:=Only.setCells_at wr Q 0 (Za0 (Zcx N (fun _=>0)));have P9:=ħ (P8.o.only on (fun e=>hPQ e));have B9:=ħ (Only.later B8.o on (fun g hg=>by omega));clear on P8 Q8 B8 hcr HQL;generalize wr.setCells Q 0 (Za0 (Zcx N (fun _=>0)))=w9 at *;obtain⟨nw,hnw⟩:∃ y,Zgt L cm rm k=y:=⟨_,rfl⟩;have HNL:Hid (∀ t,nw t<=Zat):=ħ (fun t=>by rw[<- hnw];exact Zrh _ _ _ _ _)
      have HWN:Hid (∀ t,Zgt L cm rm (k+1) t=Zk5 L can room nw N t):=ħ (fun t=>by
       show Zy7 L (cm k) (rm k) (Zgt L cm rm k) t=_
       rw[hnw,HRO.o,HCK.o,<- HNN.o];rfl)
      rw[hnw] at P9;clear hnw;have Q9':Hid (Zae w9 Q 3 (Za0 (Zcx N (Zk5 L can room nw 0)))):=ħ Q9.o;clear Q9
      go_wp2_with fail
      go_loopw [71] (fun iv ws=>∃ (i:Nat),iv = .int .i64 i/\i<=N/\Hid (Zae ws P 3 (Za0 (Zcx N nw)))/\Hid (Zae ws Q 3 (Za0 (Zcx N (Zk5 L can room nw i))))/\Hid (Below w.heap.size w ws)) (fun i _=>(N-intOf i).toNat)
      case atStart=>exact⟨0,rfl,by omega,P9,Q9',B9⟩
      case round =>
       clear P9 Q9' B9;obtain⟨i,rfl,hi,P10,Q10,B10⟩:=hrel;have e4:IntKind.i64.wrap ((i:Int)+1)=((i+1:Nat):Int):=đh _ (by omega);by_cases hin:i<N
       ·have ii2:(i:Int)<N:=by omega
        have p0:=P10.o.cell i _ (Zhz (Ze6 nw hin));obtain⟨x,hx⟩:∃ y,nw i=y:=⟨_,rfl⟩;have hxl:=HNL.o i;rw[hx] at p0 hxl;have HX:=ħ hx;have hxl2:x<=1152921504606846977:=hxl;clear hx hxl;by_cases h0:x=0
        ·subst h0
         have Q11:Hid (Zae wr Q 3 (Za0 (Zcx N (Zk5 L can room nw (i+1))))):=ħ (by rw[Zcv (fun t _=>Zvl HX.o t)];exact Q10.o)
         go_wp2_with fail
         clear p0;go_roundw
         case rel=>exact⟨i+1,by go_num,by omega,P10,Q11,B10⟩
         case measure=>simp only[intOf];omega
        ·have x0:¬ (x:Int)=0:=by omega
         have x1:((x:Int)==0)=false:=by simpa using x0
         have eF:bits .andNot .i64 (can:Int) (i:Int)=((Zjj can i:Nat):Int):=Z1x (by omega) (by omega);have hfl:=Zvf can i;have HSF:Hid (Zf1 (Zjj can i) (Zjj can i)=true):=ħ (Zvg _);have Q11:Hid (Zae wr Q 3 (Za0 (Zcx N (Zgm L can room nw i (Zjj can i+1))))):=ħ (by rw[Zcv (fun t _=>Zsw L can room nw i t)];exact Q10.o);obtain⟨fr,hfr⟩:∃ y,Zjj can i=y:=⟨_,rfl⟩;rw[hfr] at eF hfl HSF Q11;have HFR:=ħ hfr;clear hfr
         go_wp2_with fail
         clear p0 eF
         go_loopw [19] (fun pv ws=>∃ (p:Nat),pv = .int .i64 p/\p<=fr/\Hid (Zf1 p fr=true)/\Hid (Zae ws P 3 (Za0 (Zcx N nw)))/\Hid (Zae ws Q 3 (Za0 (Zcx N (Zgm L can room nw i (p+1)))))/\Hid (Below w.heap.size w ws)) (fun p _=>(intOf p).toNat)
         case atStart=>exact⟨fr,rfl,đd _,HSF,P10,Q11,B10⟩
         case round =>
          clear HSF P10 Q11 B10 Q10;obtain⟨p,rfl,hp,HSP,P12,Q12,B12⟩:=hrel;have eU:IntKind.u64.wrap (p:Int)=(p:Int):=IntWalk.u64_in _ (by omega);have HON:=ħ (Zzl p (by omega) wr)
          have HPC:Hid (Zii 12 p=Zii L p):=ħ (by
           obtain⟨d,hd⟩:∃ d,12=L+d:=⟨12-L,by omega⟩;rw[hd]
           exact Zre L p d (by rw[HNN.o];omega))
          have hpc:=Zvi 12 p;obtain⟨pc,hpc2⟩:∃ y,Zii 12 p=y:=⟨_,rfl⟩;rw[hpc2] at HON HPC hpc;clear hpc2
          go_wp2_with fail
          refine HON.o.mono ?_;rintro e w13 ⟨rfl,rfl⟩;clear HON eU;have HSP2:Hid (Zf1 p (Zjj can i)=true):=ħ (by rw[HFR.o];exact HSP.o);by_cases hpr:pc<=room
          ·have pr:(pc:Int)<=room:=by omega
           have hlt0:i ||| p<N:=by
            rw[<- HNN.o];exact Nat.or_lt_two_pow (by rw[HNN.o];exact hin) (by rw[HNN.o];omega)
           have eO:bits .or .i64 (i:Int) (p:Int)=((i ||| p:Nat):Int):=Z1g (by omega) (by omega);have HU:=ħ (Zzm (L:=L) (room:=room) (now:=nw) HSP2.o (by rw[<- HPC.o];exact hpr));have q3:=Q12.o.cell (i ||| p) _ (Zhz (Ze6 _ hlt0));have qf:=Q12.o.warm (i ||| p);rw[Z10 HSP2.o] at q3;have hal:Zk5 L can room nw i (i ||| p)<=1152921504606846977:=Zvk ..;have HUV:Hid (Zgm L can room nw i p (i ||| p)=min Zat (Zk5 L can room nw i (i ||| p)+x)):=ħ (by rw[<- HX.o];exact HU.o.1);obtain⟨a,ha⟩:∃ y,Zk5 L can room nw i (i ||| p)=y:=⟨_,rfl⟩;rw[ha] at q3 hal HUV;obtain⟨v,hv⟩:∃ y,min Zat (a+x)=y:=⟨_,rfl⟩;have eS:IntKind.i64.wrap ((a:Int)+(x:Int))=(a:Int)+(x:Int):=đh _ (by omega)
           have eM:min ((a:Int)+(x:Int)) 1152921504606846977=(v:Int):=by
            have:Zat=1152921504606846977:=rfl;rw[<- hv];omega
           rw[hv] at HUV
           have HRW:Hid ((Za0 (Zcx N (Zgm L can room nw i (p+1)))).set (i ||| p) (.int .i64 (v:Int))=Za0 (Zcx N (Zgm L can room nw i p))):=ħ (by
            rw[Zna,Zrf v HUV.o (fun t _ ht=>HU.o.2 t ht)])
           obtain⟨ix,hix⟩:∃ y,i ||| p=y:=⟨_,rfl⟩;rw[hix] at eO q3 qf HRW hlt0
           have iix:(ix:Int)<N:=by omega
           clear HU HUV ha hv hix hal
           go_upto_region 25 with(fail)
           clear q3 qf eO eS eM;have on:=(Only.refl wr (· = Q)).setCell (a:=⟨Q,ix,none⟩) (.int .i64 (v:Int)) rfl;have Q13:Hid (Zae (wr.setCell ⟨Q,ix,none⟩ (.int .i64 (v:Int))) Q 3 (Za0 (Zcx N (Zgm L can room nw i p)))):=ħ (by rw[<- HRW.o];exact Q12.o.set ix _);have P13:=ħ (P12.o.only on (fun e=>hPQ e));have B13:=ħ (Only.later B12.o on (fun g hg=>by omega));clear on P12 Q12 B12 HRW;generalize wr.setCell ⟨Q,ix,none⟩ (.int .i64 (v:Int))=w14 at *;by_cases hp0:p=0
           ·subst hp0
            have QE:Hid (Zae w14 Q 3 (Za0 (Zcx N (Zk5 L can room nw (i+1))))):=ħ (by rw[<- Zcv (fun t _=>Zrg L can room nw i t)];exact Q13.o)
            go_wp2_with fail
            go_roundw
            case rel=>exact⟨i+1,by go_num,by omega,P13,QE,B13⟩
            case measure=>simp only[intOf];omega
           ·have q0:¬ (p:Int)=0:=by omega
            have q1:((p:Int)==0)=false:=by simpa using q0
            have e6:IntKind.i64.wrap ((p:Int)-1)=((p-1:Nat):Int):=by rw[đh _ (by omega)];omega
            have e7:bits .and .i64 ((p-1:Nat):Int) (fr:Int)=(((p-1) &&& fr:Nat):Int):=Zve (by omega) (by omega)
            have QN:Hid (Zae w14 Q 3 (Za0 (Zcx N (Zgm L can room nw i (((p-1) &&& fr)+1))))):=ħ (by
             have key:Zcx N (Zgm L can room nw i p)=Zcx N (Zgm L can room nw i (((p-1) &&& fr)+1)):=Zcv (fun t _=>by
              have h:=(Zoa (L:=L) (room:=room) (now:=nw) (n:=12) (by omega) HSP2.o t).resolve_right hp0
              rwa [HFR.o] at h)
             rw[<- key]
             exact Q13.o)
            have HS2:Hid (Zf1 ((p-1) &&& fr) fr=true):=ħ (Zrd _ _);have hlt:(p-1) &&& fr<=p-1:=Nat.and_le_left;obtain⟨p',hp'⟩:∃ y,(p-1) &&& fr=y:=⟨_,rfl⟩;rw[hp'] at e7 QN HS2 hlt;clear hp'
            go_wp2_with fail
            go_roundw
            case rel=>exact⟨p',rfl,by omega,HS2,P13,QN,B13⟩
            case measure=>simp only[intOf];omega
          ·have pr:¬ (pc:Int)<=room:=by omega
           have Q13:Hid (Zae wr Q 3 (Za0 (Zcx N (Zgm L can room nw i p)))):=ħ (by
            rw[Zcv (fun t _=>Zzn (L:=L) (can:=can) (room:=room) (now:=nw) (i:=i) (p:=p) (by rw[<- HPC.o];exact hpr) t)]
            exact Q12.o)
           clear Q12;by_cases hp0:p=0
           ·subst hp0
            have QE:Hid (Zae wr Q 3 (Za0 (Zcx N (Zk5 L can room nw (i+1))))):=ħ (by rw[<- Zcv (fun t _=>Zrg L can room nw i t)];exact Q13.o)
            go_wp2_with fail
            go_roundw
            case rel=>exact⟨i+1,by go_num,by omega,P12,QE,B12⟩
            case measure=>simp only[intOf];omega
           ·have q0:¬ (p:Int)=0:=by omega
            have q1:((p:Int)==0)=false:=by simpa using q0
            have e6:IntKind.i64.wrap ((p:Int)-1)=((p-1:Nat):Int):=by rw[đh _ (by omega)];omega
            have e7:bits .and .i64 ((p-1:Nat):Int) (fr:Int)=(((p-1) &&& fr:Nat):Int):=Zve (by omega) (by omega)
            have QN:Hid (Zae wr Q 3 (Za0 (Zcx N (Zgm L can room nw i (((p-1) &&& fr)+1))))):=ħ (by
             have key:Zcx N (Zgm L can room nw i p)=Zcx N (Zgm L can room nw i (((p-1) &&& fr)+1)):=Zcv (fun t _=>by
              have h:=(Zoa (L:=L) (room:=room) (now:=nw) (n:=12) (by omega) HSP2.o t).resolve_right hp0
              rwa [HFR.o] at h)
             rw[<- key]
             exact Q13.o)
            have HS2:Hid (Zf1 ((p-1) &&& fr) fr=true):=ħ (Zrd _ _);have hlt:(p-1) &&& fr<=p-1:=Nat.and_le_left;obtain⟨p',hp'⟩:∃ y,(p-1) &&& fr=y:=⟨_,rfl⟩;rw[hp'] at e7 QN HS2 hlt;clear hp'
            go_wp2_with fail
            go_roundw
            case rel=>exact⟨p',rfl,by omega,HS2,P12,QN,B12⟩
            case measure=>simp only[intOf];omega
       ·have ii2:¬ (i:Int)<N:=by omega
        obtain rfl:N=i:=by omega
        have Q11:Hid (Zae wr Q 3 (Za0 (Zcx N (Zgt L cm rm (k+1))))):=ħ (by rw[Zcv (fun t _=>HWN.o t)];exact Q10.o)
        go_wp2_with fail
        go_roundw
        case rel=>exact⟨k+1,Q,P,_,by go_num,rfl,rfl,by omega,fun e=>hPQ e.symm,hQ,hP,Q11,ħ (Zdt _ _),P10,B10⟩
        case measure=>simp only[intOf];omega
   ·have kk:¬ (k:Int)<nm:=by omega
    obtain rfl:nm=k:=by omega
    have pN:=P5.o.cell (N-1) _ (Zhz (Ze6 _ (by omega)))
    have eN1:((N:Int)-1).toNat=N-1:=by omega
    have HWV:Hid (WF=Zgt L cm rm nm (N-1)):=ħ HWF.o;rw[<- HWV.o] at pN
    have n1:(0:Int)<=(N:Int)-1:=by omega
    have n2:(N:Int)-1<(N:Int):=by omega
    go_wp2_with fail
    go_ret;exact⟨rfl,B5.o⟩
end
section
open Go.RowKit Go.Sort Go.Maps
theorem Zxj{c:Crw}{C:List (List Bool)}(hok:ReckOk c C)(k:Nat):Zgp c (k:Int)=Zcu (Za1 c C) k:=by
 unfold Zgp Zcu;refine List.filter_congr (fun u hu=>?_);have hu:=List.mem_range.1 hu;have h:=hok.win c.us[u] (List.getElem_mem hu);show((c.us.getD u ⟨0,0,0,0⟩).w==(k:Int))=((c.us.getD u ⟨0,0,0,0⟩).w.toNat==k);rw[đf,đb hu];show(c.us[u].w==(k:Int))=(c.us[u].w.toNat==k);rw[Bool.eq_iff_iff,beq_iff_eq,beq_iff_eq];omega
theorem Zh0{T:Tbl}{k:Nat}(h:cntTo' T k=none):∀ d,cntTo' T (k+d)=none
 | 0=>h
 | d+1=>by
  show(match cntTo' T (k+d) with | none=>none | some x=>if Zij T (Zcu T (k+d)) (k+d)=0 then none else some (min Zat (x*Zij T (Zcu T (k+d)) (k+d))))=none;rw[Zh0 h d]
theorem Zxk(T:Tbl)(g:List Nat)(k:Nat):Zij T g k<=Zat:=Zrh _ _ _ _ _
theorem Z0m{T:Tbl}{k u:Nat}(h:u∈Zcu T k):u<T.U:=List.mem_range.1 (List.mem_filter.1 h).1
theorem Zcm{w:World}{B n cap:Nat}{l:List Nat}{o:Option Addr}(h:OwnK w B 1 n cap (Za0 l) o)(hn:n=l.length):Zan Zbg w o (l.map Int.ofNat):=by
 rw[Zg8] at h;exact h.flatR Zaz (by rw[đr];exact hn)
theorem Zpa(w:World)(A:Nat)(c:Crw)(H C:List (List Bool))(hr:Zbo w A c H C)(hok:ReckOk c C)(hg:∀ k,k<16->(Zcu (Za1 c C) k).length<=12) :
  Calls Tryz.prog 113 #[.pointer (some ⟨A,0,none⟩)] w fun e w'=>e = .returned (.int .i64 ((Zgv (Za1 c C):Nat):Int))/\Below w.heap.size w w':=by
 have HGR:Hid (∀ (k:Nat) W,k<16->Below w.heap.size w W->Calls Tryz.prog 99 #[.pointer (some ⟨A,0,none⟩),.int .i64 (k:Int)] W fun e w'=>(∃ o cap,e = .returned (.slice o (Zcu (Za1 c C) k).length cap)/\OwnK w' W.heap.size 1 (Zcu (Za1 c C) k).length cap (Za0 (Zcu (Za1 c C) k)) o)/\Below W.heap.size W w'):=ħ (fun k W _ hW=>by
  have h:=Zqi W A c H C (k:Int) (hr.below hW) hok;rw[Zxj hok k] at h
  exact h)
 have HWY:Hid (∀ (k:Nat) W o cap,k<16->Below w.heap.size w W->Zan Zbg W o ((Zcu (Za1 c C) k).map Int.ofNat)->Calls Tryz.prog 164 #[.pointer (some ⟨A,0,none⟩),.slice o (Zcu (Za1 c C) k).length cap,.int .i64 (k:Int)] W fun e w'=>e = .returned (.int .i64 ((Zij (Za1 c C) (Zcu (Za1 c C) k) k:Nat):Int))/\Below W.heap.size W w'):=ħ (fun k W o cap hk hW hf =>
  Z0l W A c H C (Zcu (Za1 c C) k) o cap k (hr.below hW) hok hf (fun u hu=>Z0m hu) (hg k hk) (by omega))
 clear hr hok hg;obtain⟨T,hT⟩:∃ y,Za1 c C=y:=⟨_,rfl⟩;rw[hT] at HGR HWY;rw[hT];clear hT
 have HNX:Hid (∀ k x y,cntTo' T k=some x->Zij T (Zcu T k) k=y->cntTo' T (k+1)=if y=0 then none else some (min Zat (x*y))):=ħ (fun k x y h h2=>by
  show(match cntTo' T k with | none=>none | some x=>if Zij T (Zcu T k) k=0 then none else some (min Zat (x*Zij T (Zcu T k) k)))=_
  rw[h,h2])
 have HCF:Hid (∀ x,cntTo' T 16=some x->Zgv T=x):=ħ (fun x h=>by unfold Zgv;rw[h];rfl)
 have HCN:Hid (∀ k,k<=16->cntTo' T k=none->Zgv T=0):=ħ (fun k hk h=>by
  have:=Zh0 h (16-k);rw[show k+(16-k)=16 from by omega] at this
  unfold Zgv;rw[this];rfl)
 have HC0:Hid (cntTo' T 0=some 1):=ħ rfl;generalize Zgv T=CF at *
 go_enter Tryz.func113,Tryz.ntmps113
 go_wp2_with fail
 go_loopw [8,3] (fun kv ov wr=>∃ (k x:Nat),kv = .int .i64 k/\ov = .int .i64 x/\k<=16/\x<=1152921504606846977/\Hid (cntTo' T k=some x)/\Hid (Below w.heap.size w wr)) (fun k _ _=>(16-intOf k).toNat)
 case atStart=>exact⟨0,1,rfl,rfl,by omega,by omega,HC0,ħ (đc _ _)⟩
 case round =>
  obtain⟨k,x,rfl,rfl,hk,hx,HX,B1⟩:=hrel;have e2:IntKind.i64.wrap ((k:Int)+1)=((k+1:Nat):Int):=đh _ (by omega);by_cases hkn:k<16
  ·have kk:(k:Int)<16:=by omega
   have HG:=ħ (HGR.o k wr hkn B1.o)
   go_wp2_with fail
   refine HG.o.mono ?_;rintro e w2 ⟨⟨o,cap,rfl,ho⟩,b2⟩;have B2:=ħ (B1.o.trans (b2.mono B1.o.size));have HW:=ħ (HWY.o k w2 o cap hkn B2.o (Zcm ho rfl));have HN:=HNX.o k x _ HX.o rfl;have hle:Zij T (Zcu T k) k<=1152921504606846977:=Zxk _ _ _;clear ho b2 HG;obtain⟨y,hy⟩:∃ y,Zij T (Zcu T k) k=y:=⟨_,rfl⟩;rw[hy] at HW HN hle;have HN:=ħ HN;clear hy;generalize (Zcu T k).length=gl at *
   go_wp2_with fail
   refine HW.o.mono ?_;rintro e w3 ⟨rfl,b3⟩;have B3:=ħ (B2.o.trans (b3.mono B2.o.size));clear b3 HW B2;by_cases h0:y=0
   ·subst h0
    have HZ:Hid (CF=0):=ħ (HCN.o (k+1) (by omega) (by rw[HN.o,if_pos rfl]))
    go_wp2_with fail
    go_ret;exact⟨by rw[HZ.o];rfl,B3.o⟩
   ·have y0:¬ (y:Int)=0:=by omega
    have y1:((y:Int)==0)=false:=by simpa using y0
    have HN2:Hid (cntTo' T (k+1)=some (min Zat (x*y))):=ħ (by rw[HN.o,if_neg h0]);have HMU:=ħ (Tryz.bits_Mul64 x y (by omega) (by omega) w3);have e3:IntKind.u64.wrap (x:Int)=(x:Int):=IntWalk.u64_in _ (by omega);have e4:IntKind.u64.wrap (y:Int)=(y:Int):=IntWalk.u64_in _ (by omega);obtain⟨z,hz⟩:∃ z,x*y=z:=⟨_,rfl⟩;rw[hz] at HMU HN2;clear hz HN;obtain⟨hi,hhi⟩:∃ q,z/18446744073709551616=q:=⟨_,rfl⟩;obtain⟨lo,hlo⟩:∃ q,z%18446744073709551616=q:=⟨_,rfl⟩;rw[hhi,hlo] at HMU;have HZ:Hid (z=18446744073709551616*hi+lo/\lo<18446744073709551616):=ħ (by omega);clear hhi hlo
    go_wp2_with fail
    refine HMU.o.mono ?_;rintro e w4 ⟨rfl,rfl⟩;clear HMU e3 e4;by_cases hh:0<hi
    ·have g1:(0:Int)<(hi:Int):=by omega
     have HM:Hid (min Zat z=1152921504606846977):=ħ (by
      have:=HZ.o;have:Zat=1152921504606846977:=rfl
      omega)
     go_wp2_with fail
     go_roundw
     case rel=>exact⟨k+1,1152921504606846977,by go_num,by go_num,by omega,by omega,ħ (by rw[HN2.o,HM.o]),B3⟩
     case measure=>simp only[intOf];omega
    ·have g1:¬ (0:Int)<(hi:Int):=by omega
     by_cases hl:1152921504606846976<lo
     ·have g2:(1152921504606846976:Int)<(lo:Int):=by omega
      have HM:Hid (min Zat z=1152921504606846977):=ħ (by
       have:=HZ.o;have:Zat=1152921504606846977:=rfl
       omega)
      go_wp2_with fail
      go_roundw
      case rel=>exact⟨k+1,1152921504606846977,by go_num,by go_num,by omega,by omega,ħ (by rw[HN2.o,HM.o]),B3⟩
      case measure=>simp only[intOf];omega
     ·have g2:¬ (1152921504606846976:Int)<(lo:Int):=by omega
      have e5:IntKind.i64.wrap (lo:Int)=(lo:Int):=đh _ (by omega)
      have HM:Hid (min Zat z=lo):=ħ (by
       have:=HZ.o;have:Zat=1152921504606846977:=rfl
       omega)
      go_wp2_with fail
      go_roundw
      case rel=>exact⟨k+1,lo,by go_num,by go_num,by omega,by omega,ħ (by rw[HN2.o,HM.o]),B3⟩
      case measure=>simp only[intOf];omega
  ·have kk:¬ (k:Int)<16:=by omega
   obtain rfl:16=k:=by omega
   have HC:=ħ (HCF.o x HX.o)
   go_wp2_with fail
   go_ret;exact⟨by rw[HC.o];rfl,B1.o⟩
end
section
open Go.RowKit Go.Sort Go.Maps
theorem Zj3(w:World)(A:Nat)(c:Crw)(H C:List (List Bool))(hr:Zbo w A c H C)(hok:ReckOk c C) :
  Calls Tryz.prog 82 #[.pointer (some ⟨A,0,none⟩)] w fun e w'=>e = .returned (.tuple #[.int .i64 (((Zc9 (Za1 c C)).1:Nat):Int),.int .i64 (((Zc9 (Za1 c C)).2:Nat):Int)])/\Below w.heap.size w w':=by
 have HGR:Hid (∀ (k:Nat) W,k<16->Below w.heap.size w W->Calls Tryz.prog 99 #[.pointer (some ⟨A,0,none⟩),.int .i64 (k:Int)] W fun e w'=>(∃ o cap,e = .returned (.slice o (Zcu (Za1 c C) k).length cap)/\OwnK w' W.heap.size 1 (Zcu (Za1 c C) k).length cap (Za0 (Zcu (Za1 c C) k)) o)/\Below W.heap.size W w'):=ħ (fun k W _ hW=>by
  have h:=Zqi W A c H C (k:Int) (hr.below hW) hok;rw[Zxj hok k] at h
  exact h)
 have HCT:=ħ (fun W (hW:Below w.heap.size w W) (h:∀ k,k<16->(Zcu (Za1 c C) k).length<=12)=>Zpa W A c H C (hr.below hW) hok h)
 have HGL:Hid (∀ k,(Zcu (Za1 c C) k).length<=1000):=ħ (fun k=>by
  unfold Zcu;refine đo (Zb1 _ _) ?_
  exact hok.nu)
 clear hr hok;obtain⟨T,hT⟩:∃ y,Za1 c C=y:=⟨_,rfl⟩;rw[hT] at HGR HCT HGL;rw[hT];clear hT
 have HA:Hid (∀ k,k<16->12<(Zcu T k).length->Zc9 T=(0,6)):=ħ (fun k hk h=>by
  unfold Zc9
  rw[if_pos (List.any_eq_true.2 ⟨k,List.mem_range.2 hk,by simpa using h⟩)])
 have HB:Hid ((∀ k,k<16->(Zcu T k).length<=12)->Zc9 T=if 1152921504606846976<Zgv T then(0,6) else(Zgv T,0)):=ħ (fun h=>by
  unfold Zc9
  rw[if_neg (fun h2=>by
   obtain⟨k,hk,h3⟩:=List.any_eq_true.1 h2;have:=h k (List.mem_range.1 hk);simp at h3
   omega)])
 have HCL:Hid (Zgv T<=Zat):=ħ (by
  have key:∀ k,∀ x,cntTo' T k=some x->x<=Zat:=fun k=>by
   cases k with
   | zero=>intro x h;have h:some 1=some x:=h;have:=đa h;have h2:Zat=1152921504606846977:=rfl;omega
   | succ k =>
    intro x h;have h:(match cntTo' T k with | none=>none | some x=>if Zij T (Zcu T k) k=0 then none else some (min Zat (x*Zij T (Zcu T k) k)))=some x:=h
    split at h
    ·cases h
    ·split at h
     ·cases h
     ·have:=đa h
      rw[<- this];exact Nat.min_le_left _ _
  unfold Zgv
  cases h:cntTo' T 16 with
  | none=>exact Nat.zero_le _
  | some x=>exact key 16 x h)
 generalize Zc9 T=CD at *;generalize Zgv T=CF at *
 go_enter Tryz.func82,Tryz.ntmps82
 go_wp2_with fail
 go_loopw [6] (fun kv wr=>∃ (k:Nat),kv = .int .i64 k/\k<=16/\Hid (∀ j,j<k->(Zcu T j).length<=12)/\Hid (Below w.heap.size w wr)) (fun k _=>(16-intOf k).toNat)
 case atStart=>exact⟨0,rfl,by omega,ħ (fun j hj=>absurd hj (đu j)),ħ (đc _ _)⟩
 case round =>
  obtain⟨k,rfl,hk,HJ,B1⟩:=hrel;have e2:IntKind.i64.wrap ((k:Int)+1)=((k+1:Nat):Int):=đh _ (by omega);by_cases hkn:k<16
  ·have kk:(k:Int)<16:=by omega
   have HG:=ħ (HGR.o k wr hkn B1.o)
   go_wp2_with fail
   refine HG.o.mono ?_;rintro e w2 ⟨⟨o,cap,rfl,-⟩,b2⟩;have B2:=ħ (B1.o.trans (b2.mono B1.o.size));clear b2 HG;have hg1:=HGL.o k;have HAK:=HA.o k hkn;obtain⟨gl,hgl⟩:∃ y,(Zcu T k).length=y:=⟨_,rfl⟩;rw[hgl] at hg1 HAK;have HAK:=ħ HAK;have HGE:=ħ hgl;rw[hgl];clear hgl;by_cases hlt:12<gl
   ·have g1:(12:Int)<(gl:Int):=by omega
    have HR:=ħ (HAK.o hlt)
    go_wp2_with fail
    go_ret2
    exact⟨by rw[HR.o];rfl,B2.o⟩
   ·have g1:¬ (12:Int)<(gl:Int):=by omega
    go_wp2_with fail
    go_roundw
    case rel=>exact⟨k+1,by go_num,by omega,ħ (fun j hj=>by
     rcases đw j k with h | h
     ·exact HJ.o j h
     ·obtain rfl:j=k:=by omega
      rw[HGE.o];omega),B2⟩
    case measure=>simp only[intOf];omega
  ·have kk:¬ (k:Int)<16:=by omega
   obtain rfl:16=k:=by omega
   have HC:=ħ (HCT.o wr B1.o HJ.o);have HR:=ħ (HB.o HJ.o);have hcl:CF<=1152921504606846977:=HCL.o
   go_wp2_with fail
   refine HC.o.mono ?_;rintro e w2 ⟨rfl,b2⟩;have B2:=ħ (B1.o.trans (b2.mono B1.o.size));clear b2 HC;by_cases hlt:1152921504606846976<CF
   ·have g1:(1152921504606846976:Int)<(CF:Int):=by omega
    have HR2:Hid (CD=(0,6)):=ħ (by rw[HR.o,if_pos hlt])
    go_wp2_with fail
    go_ret2
    exact⟨by rw[HR2.o];rfl,B2.o⟩
   ·have g1:¬ (1152921504606846976:Int)<(CF:Int):=by omega
    have HR2:Hid (CD=(CF,0)):=ħ (by rw[HR.o,if_neg hlt])
    go_wp2_with fail
    go_ret2
    exact⟨by rw[HR2.o];rfl,B2.o⟩
def Zdm(c:Crw):Nat×Nat:=if Zal c=true then Zc9 (Za1 c (Za7 c)) else(0,1)
theorem Zsf(w:World)(c:Crw)(cs:List Value)(B:Nat)(ha:ArgC w c cs B) :
  Calls Tryz.prog 22 #[.agg cs.toArray] w fun e w'=>e = .returned (.tuple #[.int .i64 (((Zdm c).1:Nat):Int),.int .i64 (((Zdm c).2:Nat):Int)])/\Below w.heap.size w w':=by
 have HOP:=ħ (fun W (hW:Below w.heap.size w W)=>Zd4 W c cs (ha.below hW).crw B (ha.below hW).tab ha.ok);have HNU:=ha.nu;have HRK:=ħ (fun(h:Zal c=true)=>Zaw h (by omega));have HVP:=ħ (fun(h:Zal c=true)=>Zau h);have HAC:=ħ ha;have hnq0:=ha.ok.nq;have hnm0:=ha.ok.nm;have HPA:Hid (Zdm c=if Zal c=true then Zc9 (Za1 c (Za7 c)) else(0,1)):=ħ rfl;generalize Zdm c=PA at *;obtain⟨qo,qc,mo,mc,uo,uc,rfl,hq0,hm0,hu0,-⟩:=ha.crw;have HMW:=ħ (fun W (hW:Below w.heap.size w W)=>hm0.below hW);have HUW:=ħ (fun W (hW:Below w.heap.size w W)=>hu0.below hW);unfold Z0c at HOP;clear ha hq0 hm0 hu0;generalize hnq:c.qs.length=nq at *;generalize hnm:c.ms.length=nm at *;generalize hnu:c.us.length=nu at *;have HQE:=ħ hnq;have HME:=ħ hnm;have HUE:=ħ hnu;clear hnq hnm hnu;generalize hvc:Zal c=vc at *;have HVC:=ħ hvc;clear hvc;have X1:Hid (Zae (w.alloc (.cells #[.slice qo nq qc,.slice mo nm mc,.slice uo nu uc] 26)) w.heap.size 26 [.slice qo nq qc,.slice mo nm mc,.slice uo nu uc]):=ħ (heap_alloc_new w _);have B1:=ħ ((đc w.heap.size w).alloc (đd _) (.cells #[.slice qo nq qc,.slice mo nm mc,.slice uo nu uc] 26))
 go_enter Tryz.func22,Tryz.ntmps22
 go_upto_region 1 with(fail)
 generalize w.alloc (.cells #[.slice qo nq qc,.slice mo nm mc,.slice uo nu uc] 26)=w1 at *;have c0:=X1.o.cell 0 _ rfl;have c1:=X1.o.cell 1 _ rfl;have c2:=X1.o.cell 2 _ rfl;have HCL:=ħ (HOP.o w1 B1.o);clear HOP
 go_wp2_with fail
 refine HCL.o.mono ?_;intro e w2 hq;obtain⟨hres,b2⟩:=hq;have B2:=ħ (B1.o.trans (b2.mono B1.o.size));have X2:=ħ (X1.o.step b2);have HSZ:Hid (w.heap.size<w2.heap.size):=ħ X2.o.lt;clear b2 c0 c1 c2 B1 X1 HCL
 cases vc with
 | false =>
  rw[if_neg (by decide)] at hres;subst hres;have HPN:Hid (PA=(0,1)):=ħ (by rw[HPA.o];rfl);clear HPA
  go_wp2_with fail
  go_ret2
  exact⟨by rw[HPN.o];rfl,B2.o⟩
 | true =>
  rw[if_pos rfl] at hres;obtain⟨A,rfl,hR,-⟩:=hres;have HR:=ħ hR;have HOK:=ħ (HRK.o rfl);clear hR HRK;have HPN:Hid (PA=Zc9 (Za1 c (Za7 c))):=ħ (by rw[HPA.o];rfl);have HPO:=ħ (Zj3 w2 A c (Zaj c) (Za7 c) HR.o HOK.o);clear HPA;rw[<- HPN.o] at HPO
  go_wp2_with fail
  refine HPO.o.mono ?_;rintro e w3 ⟨rfl,b3⟩;have B3:=ħ (B2.o.trans (b3.mono B2.o.size));clear b3 HPO
  go_wp2_with fail
  go_ret2
  exact⟨rfl,B3.o⟩
end
section
open Go.RowKit Go.Sort
structure intFn (C:World->Prop) (g:Nat) (cb:Array Value) (f:Int->Bool) (S:Int->Prop):Prop where
 enters:∀ args w,(callFunc g args).run Tryz.prog w = .ok (.enter g args) w
 step:∀ w w',C w->Below w.heap.size w w'->C w'
 calls:∀ q w,S q->C w->Calls Tryz.prog g (#[.int .i64 q]++cb) w fun e w'=>e = .returned (.bool (f q))/\Below w.heap.size w w'
theorem Zts (w:World) (ks:List Int) (ao:Option Addr) (n cap:Nat) (hn:n=ks.length) (hbig:n<=1000000) (hk:Zan Zbg w ao ks)
  (C:World->Prop) (g:Nat) (cb:Array Value) (f:Int->Bool) (S:Int->Prop) (hf:intFn C g cb f S) (hS:∀ q∈ks,S q) (hC:C w) :
  Calls Tryz.prog 144 #[.slice ao n cap,.func (.func g) #[] cb] w fun e w'=>e = .returned (.int .i64 (Zg4 f ks))/\Below w.heap.size w w':=by
 have HK:=ħ hk;have HN:=ħ hn;have HS:=ħ hS;have HST:=ħ hf.step;have HCA:=ħ hf.calls;have eg:=hf.enters;have HI:Hid (Zg4 f ks=match ks.findIdx? f with | some i=>(i:Int) | none=>-1):=ħ rfl;obtain⟨V,hV⟩:∃ V,Zg4 f ks=V:=⟨_,rfl⟩;rw[hV] at HI ⊢;have C0:=ħ hC;have B0:=ħ (đc w.heap.size w);clear hk hn hS hC hf hV
 go_enter Tryz.func144,Tryz.ntmps144
 go_wp2_with fail
 go_loopw [8] (fun cc wr=>∃ (i:Nat),cc = .int .i64 i/\i<=n/\Hid (Below w.heap.size w wr)/\Hid (C wr)/\Hid (∀ j k,j<i->ks[j]?=some k->f k=false)) (fun c _=>(n-intOf c).toNat)
 case atStart=>exact⟨0,rfl,by omega,B0,C0,ħ (fun j k hj=>absurd hj (đu j))⟩
 case round =>
  clear B0 C0;obtain⟨i,rfl,hi,hw,hc,hno⟩:=hrel;have e2:IntKind.i64.wrap ((i:Int)+1)=((i+1:Nat):Int):=đh _ (by omega);by_cases hlt:i<n
  ·have ii:(i:Int)<n:=by omega
   obtain⟨q,hq⟩:∃ q,ks[i]?=some q:=⟨_,đb (by rw[<- HN.o];exact hlt)⟩;have HQI:=ħ hq;obtain⟨gk,off,hao,hgl,hcc⟩:=(HK.o.below hw.o).at Zaz i q hq;have s0:=hcc 0 _ rfl;rw[Nat.mul_one,Nat.add_zero] at s0;have HAO:=ħ hao;clear hcc hgl hq;subst hao
   go_wp2_with fail
   refine(HCA.o q wr (HS.o q (đe HQI.o)) hc.o).mono ?_;rintro e w3 ⟨rfl,b3⟩;have hw3:=ħ (hw.o.trans (b3.mono hw.o.size));have hc3:=ħ (HST.o _ _ hc.o b3);clear b3 s0 hw hc
   cases hq:f q with
   | true =>
    have HX:Hid (V=(i:Int)):=ħ (by
     have hlt':i<ks.length:=by rw[<- HN.o];exact hlt
     have:ks.findIdx? f=some i:=by
      rw[List.findIdx?_eq_some_iff_getElem];refine⟨hlt',?_,fun j hj=>?_⟩
      ·have:ks[i]=q:=by have:=HQI.o;rw[đb hlt'] at this;exact đa this
       rw[this];exact hq
      ·have:=hno.o j ks[j] hj (đb (by omega))
       simp[this]
     rw[HI.o,this])
    clear hq
    go_wp2
    go_ret;exact⟨Zbb HX.o.symm,hw3.o⟩
   | false =>
    have HQ2:=ħ hq;clear hq
    go_wp2
    go_roundw
    case rel=>exact⟨i+1,by go_num,by omega,hw3,hc3,ħ (fun j k' hj hk'=>by
     rcases đw j i with h | h
     ·exact hno.o j k' h hk'
     ·obtain rfl:j=i:=by omega
      rw[HQI.o] at hk';obtain rfl:=đa hk'
      exact HQ2.o)⟩
    case measure=>simp only[intOf];omega
  ·have ii:¬ ((i:Int)<n):=by omega
   have HX:Hid (V = -1):=ħ (by
    have:ks.findIdx? f=none:=by
     rw[List.findIdx?_eq_none_iff];intro k hk;obtain⟨j,hj⟩:=đs.1 hk;have hjl:=(đg.1 hj).1;exact hno.o j k (by rw[<- HN.o] at hjl;omega) hj
    rw[HI.o,this])
   go_wp2
   go_ret;exact⟨Zbb HX.o.symm,hw.o⟩
theorem Zd5 (w:World) (ks:List Int) (ao:Option Addr) (n cap:Nat) (hn:n=ks.length) (hbig:n<=1000000) (hk:Zan Zbg w ao ks)
  (C:World->Prop) (g:Nat) (cb:Array Value) (f:Int->Bool) (S:Int->Prop) (hf:intFn C g cb f S) (hS:∀ q∈ks,S q) (hC:C w) :
  Calls Tryz.prog 88 #[.slice ao n cap,.func (.func g) #[] cb] w fun e w'=>e = .returned (.bool (ks.any f))/\Below w.heap.size w w':=by
 have HC:=ħ (Zts w ks ao n cap hn hbig hk C g cb f S hf hS hC);have HV:=ħ (Zjt f ks);generalize Zg4 f ks=x at *;generalize ks.any f=V at *;clear hk hf hS hC hn
 go_enter Tryz.func88,Tryz.ntmps88
 go_wp2_with fail
 refine HC.o.mono ?_;rintro e w3 ⟨rfl,b3⟩;have B3:=ħ b3;clear b3
 go_wp2
 go_ret;exact⟨Zac (by rw[<- HV.o]),B3.o⟩
end
section
open Go.RowKit Go.Sort Go.Maps
theorem Zxl(A:Nat)(qo mo uo:Option Addr)(nq nm nu qc mc uc:Nat)(h1:nq<=1000000000) :
  intFn (fun W=>Zae W A 26 [.slice qo nq qc,.slice mo nm mc,.slice uo nu uc]) 143 #[.pointer (some ⟨A,0,none⟩)] (fun q=>!Zco q nq) (fun _=>True):=by
 refine⟨enters_of Tryz.func143 (by kernel_rfl) rfl,fun w w' h hb=>h.step hb,fun q w hS hT=>?_⟩;have HX:=ħ hT;have HWI:Hid (Calls Tryz.prog 83 #[.int .i64 q,.int .i64 0,.int .i64 ((nq:Int)-1)] w fun e w'=>e = .returned (.bool (Zco q nq))/\w=w'):=ħ (Zbn q 0 ((nq:Int)-1) w);have ew:IntKind.i64.wrap ((nq:Int)-1)=(nq:Int)-1:=đh _ (by omega);clear hT hS;generalize Zco q nq=b at *;have c0:=HX.o.cell 0 _ rfl
 go_enter Tryz.func143,Tryz.ntmps143
 go_wp2_with fail
 refine HWI.o.mono ?_;rintro e w2 ⟨rfl,rfl⟩;clear c0
 go_wp2_with fail
 go_ret;exact⟨rfl,đc _ _⟩
theorem Zxm(A:Nat)(qo mo uo:Option Addr)(nq nm nu qc mc uc:Nat)(h1:nu<=1000000000) :
  intFn (fun W=>Zae W A 26 [.slice qo nq qc,.slice mo nm mc,.slice uo nu uc]) 152 #[.pointer (some ⟨A,0,none⟩)] (fun q=>!Zco q nu) (fun _=>True):=by
 refine⟨enters_of Tryz.func152 (by kernel_rfl) rfl,fun w w' h hb=>h.step hb,fun q w hS hT=>?_⟩;have HX:=ħ hT;have HWI:Hid (Calls Tryz.prog 83 #[.int .i64 q,.int .i64 0,.int .i64 ((nu:Int)-1)] w fun e w'=>e = .returned (.bool (Zco q nu))/\w=w'):=ħ (Zbn q 0 ((nu:Int)-1) w);have ew:IntKind.i64.wrap ((nu:Int)-1)=(nu:Int)-1:=đh _ (by omega);clear hT hS;generalize Zco q nu=b at *;have c0:=HX.o.cell 2 _ rfl
 go_enter Tryz.func152,Tryz.ntmps152
 go_wp2_with fail
 refine HWI.o.mono ?_;rintro e w2 ⟨rfl,rfl⟩;clear c0
 go_wp2_with fail
 go_ret;exact⟨rfl,đc _ _⟩
def Zcz(c:Crw)(l:List Int):Bool:=Zal c&&!l.any (fun q=>!Zco q c.qs.length)
def Z0n(w w':World)(c:Crw)(l:List Int)(e:Ending):Prop:=Below w.heap.size w w'/\if Zcz c l=true then ∃ A,e = .returned (.tuple #[.pointer (some ⟨A,0,none⟩),.bool true])/\Zbo w' A c (Zaj c) (Za7 c) else e = .returned (.tuple #[.pointer none,.bool false])
theorem Zsg(w:World)(c:Crw)(cs:List Value)(B:Nat)(l:List Int)(lo:Option Addr)(lc:Nat)(ha:ArgC w c cs B)(hl:Zan Zbg w lo l)(hll:l.length<=1000000) :
  Calls Tryz.prog 87 #[.agg cs.toArray,.slice lo l.length lc] w fun e w'=>Z0n w w' c l e:=by
 have HOP:=ħ (fun W (hW:Below w.heap.size w W)=>Zd4 W c cs (ha.below hW).crw B (ha.below hW).tab ha.ok);have HNU:=ha.nu;have HRK:=ħ (fun(h:Zal c=true)=>Zaw h (by omega));have HVP:=ħ (fun(h:Zal c=true)=>Zau h);have HAC:=ħ ha;have hnq0:=ha.ok.nq;have hnm0:=ha.ok.nm;have HPA:Hid (Zcz c l=(Zal c&&!l.any (fun q=>!Zco q c.qs.length))):=ħ rfl;have HLW:=ħ (fun W (hW:Below w.heap.size w W)=>hl.below hW);have HAQ:Hid (∀ e w',Z0n w w' c l e↔(Below w.heap.size w w'/\if Zcz c l=true then ∃ A,e = .returned (.tuple #[.pointer (some ⟨A,0,none⟩),.bool true])/\Zbo w' A c (Zaj c) (Za7 c) else e = .returned (.tuple #[.pointer none,.bool false]))):=ħ (fun _ _=>Iff.rfl);clear hl;generalize Zcz c l=PA at *;obtain⟨qo,qc,mo,mc,uo,uc,rfl,hq0,hm0,hu0,-⟩:=ha.crw;have HMW:=ħ (fun W (hW:Below w.heap.size w W)=>hm0.below hW);have HUW:=ħ (fun W (hW:Below w.heap.size w W)=>hu0.below hW);unfold Z0c at HOP;clear ha hq0 hm0 hu0;generalize hnq:c.qs.length=nq at *;generalize hnm:c.ms.length=nm at *;generalize hnu:c.us.length=nu at *;have HQE:=ħ hnq;have HME:=ħ hnm;have HUE:=ħ hnu;clear hnq hnm hnu;generalize hvc:Zal c=vc at *;have HVC:=ħ hvc;clear hvc;have X1:Hid (Zae (w.alloc (.cells #[.slice qo nq qc,.slice mo nm mc,.slice uo nu uc] 26)) w.heap.size 26 [.slice qo nq qc,.slice mo nm mc,.slice uo nu uc]):=ħ (heap_alloc_new w _);have B1:=ħ ((đc w.heap.size w).alloc (đd _) (.cells #[.slice qo nq qc,.slice mo nm mc,.slice uo nu uc] 26))
 go_enter Tryz.func87,Tryz.ntmps87
 go_upto_region 1 with(fail)
 generalize w.alloc (.cells #[.slice qo nq qc,.slice mo nm mc,.slice uo nu uc] 26)=w1 at *;have c0:=X1.o.cell 0 _ rfl;have c1:=X1.o.cell 1 _ rfl;have c2:=X1.o.cell 2 _ rfl;have HCL:=ħ (HOP.o w1 B1.o);clear HOP
 go_wp2_with fail
 refine HCL.o.mono ?_;intro e w2 hq;obtain⟨hres,b2⟩:=hq;have B2:=ħ (B1.o.trans (b2.mono B1.o.size));have X2:=ħ (X1.o.step b2);have HSZ:Hid (w.heap.size<w2.heap.size):=ħ X2.o.lt;clear b2 c0 c1 c2 B1 X1 HCL
 cases vc with
 | false =>
  rw[if_neg (by decide)] at hres;subst hres;have HPN:Hid (PA=false):=ħ (by rw[HPA.o];rfl);clear HPA
  go_wp2_with fail
  go_ret2
  exact(HAQ.o _ _).2 ⟨B2.o,by rw[HPN.o];rfl⟩
 | true =>
  rw[if_pos rfl] at hres;obtain⟨A,rfl,hR,-⟩:=hres;have HR:=ħ hR;have HOK:=ħ (HRK.o rfl);clear hR HRK;have HCF:=ħ (Zd5 w2 l lo l.length lc rfl hll (HLW.o w2 B2.o) _ _ _ _ _ (Zxl w.heap.size qo mo uo nq nm nu qc mc uc (by omega)) (fun _ _=>trivial) X2.o);have HPN:Hid (PA=!l.any (fun q=>!Zco q nq)):=ħ (by rw[HPA.o];rfl);clear HPA;generalize l.any (fun q=>!Zco q nq)=bt at *;generalize l.length=nl at *
  go_wp2_with fail
  refine HCF.o.mono ?_;rintro e w3 ⟨rfl,b3⟩;have B3:=ħ (B2.o.trans (b3.mono B2.o.size));have HR3:=ħ (HR.o.below b3);clear b3 HCF
  cases bt with
  | true =>
   have HPN2:Hid (PA=false):=ħ (by rw[HPN.o];rfl)
   go_wp2_with fail
   go_ret2
   exact(HAQ.o _ _).2 ⟨B3.o,by rw[HPN2.o];rfl⟩
  | false =>
   have HPN2:Hid (PA=true):=ħ (by rw[HPN.o];rfl)
   go_wp2_with fail
   go_ret2
   exact(HAQ.o _ _).2 ⟨B3.o,by rw[HPN2.o];exact⟨A,rfl,HR3.o⟩⟩
theorem Zsh(w:World)(c:Crw)(cs:List Value)(l:List Int)(lo:Option Addr)(lc:Nat)(hc:Zhs w c cs)(hnu:c.us.length<=1000000000)(hl:Zan Zbg w lo l)(hll:l.length<=1000000) :
  Calls Tryz.prog 98 #[.agg cs.toArray,.slice lo l.length lc] w fun e w'=>e = .returned (.bool (!l.any (fun q=>!Zco q c.us.length)))/\Below w.heap.size w w':=by
 obtain⟨qo,qc,mo,mc,uo,uc,rfl,-,-,-⟩:=hc;have X1:Hid (Zae (w.alloc (.cells #[.slice qo c.qs.length qc,.slice mo c.ms.length mc,.slice uo c.us.length uc] 26)) w.heap.size 26 [.slice qo c.qs.length qc,.slice mo c.ms.length mc,.slice uo c.us.length uc]):=ħ (heap_alloc_new w _);have bx:=(đc w.heap.size w).alloc (đd _) (.cells #[.slice qo c.qs.length qc,.slice mo c.ms.length mc,.slice uo c.us.length uc] 26);have B1:=ħ bx;have HCF:=ħ (Zd5 _ l lo l.length lc rfl hll (hl.below bx) _ _ _ _ _ (Zxm w.heap.size qo mo uo c.qs.length c.ms.length c.us.length qc mc uc hnu) (fun _ _=>trivial) X1.o);clear bx hl;generalize l.any (fun q=>!Zco q c.us.length)=bt at *;generalize l.length=nl at *;generalize c.qs.length=nq at *;generalize c.ms.length=nm at *;generalize c.us.length=nu at *
 go_enter Tryz.func98,Tryz.ntmps98
 go_upto_region 1 with(fail)
 generalize w.alloc (.cells #[.slice qo nq qc,.slice mo nm mc,.slice uo nu uc] 26)=w1 at *
 go_wp2_with fail
 refine HCF.o.mono ?_;rintro e w3 ⟨rfl,b3⟩;have B3:=ħ (B1.o.trans (b3.mono B1.o.size));clear b3 HCF
 go_wp2_with fail
 go_ret;exact⟨rfl,B3.o⟩
end
section
open Go.RowKit Go.Sort Go.Maps
def Zfk(c:Crw)(q:Int)(k:Nat):Bool:=((Zaj c).getD q.toNat []).getD k false
def Zut(c:Crw)(l:List Int)(k:Nat):Bool:=!l.any (fun q=>!Zfk c q k)
def Zxn(c:Crw)(l:List Int)(k:Nat):Bool:=l.any (fun q=>Zfk c q k)
def Zfj(c:Crw)(l:List Int):List Nat:=if Zcz c l=true then(List.range c.ms.length).filter (Zut c l) else []
def Zif(c:Crw)(l:List Int):Nat:=if Zcz c l=true then(List.range c.ms.length).countP (Zxn c l) else 0
def Z33(W:World)(R M A:Nat)(c:Crw)(k:Nat):Prop:=Zae W R 102 [.pointer (some ⟨A,0,none⟩)]/\Zae W M 3 [.int .i64 (k:Int)]/\Zbo W A c (Zaj c) (Za7 c)
theorem Zxo(R M A:Nat)(c:Crw)(k:Nat)(hk:k<c.ms.length)(hn:c.ms.length<=1000000)(hq:c.qs.length<=1000000) :
  intFn (fun W=>Z33 W R M A c k) 90 #[.pointer (some ⟨R,0,none⟩),.pointer (some ⟨M,0,none⟩)] (fun q=>!Zfk c q k) (fun q=>Zco q c.qs.length=true):=by
 refine⟨enters_of Tryz.func90 (by kernel_rfl) rfl,fun w w' h hb=>⟨h.1.step hb,h.2.1.step hb,h.2.2.below hb⟩,fun q w hS hT=>?_⟩;obtain⟨h1,h2,qo,mo,uo,ho,co,qc,mc,uc,hc,cc,hA,hR,-⟩:=hT;obtain⟨j,rfl,hj⟩:=Zbx hS;obtain⟨row,hrow⟩:∃ y,(Zaj c)[j]?=some y:=⟨_,đb (by rw[Zdw];exact hj)⟩;have hrl:row.length=c.ms.length:=Ze1 row (đe hrow);obtain⟨gh,oh,bo,bc,hho,hgh,hrc,hrb⟩:=hR.h.at j row hrow;have a3:=hA.cell 3 _ rfl;rw[hho,Zdw] at a3;rw[hrl] at hrc;obtain⟨gb,ob,hbo,hbc⟩:=hrb.bool k (by rw[hrl];exact hk);rw[hbo] at hrc
 have HV:Hid (Zfk c (j:Int) k=row.getD k false):=ħ (by
  unfold Zfk
  rw[Int.toNat_natCast,đf (l:=Zaj c),hrow];rfl)
 generalize Zfk c (j:Int) k=hb at *;generalize row.getD k false=rb at *;have HV2:=ħ HV.o;have r0:=h1.cell 0 _ rfl;have m0:=h2.cell 0 _ rfl
 have jj:(j:Int)<(c.qs.length:Nat):=by omega
 have kk:(k:Int)<(c.ms.length:Nat):=by omega
 generalize c.qs.length=nq at *;generalize c.ms.length=nm at *;clear h1 h2 hA hR hrow hrl hho hgh hbo hrb hS;subst hb;cases rb <;>
 ·go_enter Tryz.func90,Tryz.ntmps90
  go_upto_region 1 with(fail)
  go_quiet (fail)
  go_wp2_with fail
  go_ret;exact⟨rfl,below_drewN (đc _ _) _⟩
theorem Ztt(R M A:Nat)(c:Crw)(k:Nat)(hk:k<c.ms.length)(hn:c.ms.length<=1000000)(hq:c.qs.length<=1000000) :
  intFn (fun W=>Z33 W R M A c k) 89 #[.pointer (some ⟨R,0,none⟩),.pointer (some ⟨M,0,none⟩)] (fun q=>Zfk c q k) (fun q=>Zco q c.qs.length=true):=by
 refine⟨enters_of Tryz.func89 (by kernel_rfl) rfl,fun w w' h hb=>⟨h.1.step hb,h.2.1.step hb,h.2.2.below hb⟩,fun q w hS hT=>?_⟩;obtain⟨h1,h2,qo,mo,uo,ho,co,qc,mc,uc,hc,cc,hA,hR,-⟩:=hT;obtain⟨j,rfl,hj⟩:=Zbx hS;obtain⟨row,hrow⟩:∃ y,(Zaj c)[j]?=some y:=⟨_,đb (by rw[Zdw];exact hj)⟩;have hrl:row.length=c.ms.length:=Ze1 row (đe hrow);obtain⟨gh,oh,bo,bc,hho,hgh,hrc,hrb⟩:=hR.h.at j row hrow;have a3:=hA.cell 3 _ rfl;rw[hho,Zdw] at a3;rw[hrl] at hrc;obtain⟨gb,ob,hbo,hbc⟩:=hrb.bool k (by rw[hrl];exact hk);rw[hbo] at hrc
 have HV:Hid (Zfk c (j:Int) k=row.getD k false):=ħ (by
  unfold Zfk
  rw[Int.toNat_natCast,đf (l:=Zaj c),hrow];rfl)
 generalize Zfk c (j:Int) k=hb at *;generalize row.getD k false=rb at *;have HV2:=ħ HV.o;have r0:=h1.cell 0 _ rfl;have m0:=h2.cell 0 _ rfl
 have jj:(j:Int)<(c.qs.length:Nat):=by omega
 have kk:(k:Int)<(c.ms.length:Nat):=by omega
 generalize c.qs.length=nq at *;generalize c.ms.length=nm at *;clear h1 h2 hA hR hrow hrl hho hgh hbo hrb hS;subst hb;cases rb <;>
 ·go_enter Tryz.func89,Tryz.ntmps89
  go_upto_region 1 with(fail)
  go_quiet (fail)
  go_wp2_with fail
  go_ret;exact⟨rfl,below_drewN (đc _ _) _⟩
theorem Zng(p:Nat->Bool)(k:Nat):(List.range (k+1)).countP p=(List.range k).countP p+(if p k=true then 1 else 0):=by
 rw[List.range_succ,List.countP_append,List.countP_singleton]
theorem Zsi(w:World)(c:Crw)(cs:List Value)(B:Nat)(l:List Int)(lo:Option Addr)(lc:Nat)(ha:ArgC w c cs B)(hl:Zan Zbg w lo l)(hll:l.length<=1000000) :
  Calls Tryz.prog 29 #[.agg cs.toArray,.slice lo l.length lc] w fun e w'=>Zlc w w' (Zfj c l) e:=by
 have HPA:Hid (Zfj c l=if Zcz c l=true then(List.range c.ms.length).filter (Zut c l) else []):=ħ rfl;generalize Zfj c l=PA at *;have HAK:=ħ (fun W (hW:Below w.heap.size w W)=>Zsg W c cs B l lo lc (ha.below hW) (hl.below hW) hll);have HLW:=ħ (fun W (hW:Below w.heap.size w W)=>hl.below hW);have hnm0:=ha.ok.nm;have hnq0:=ha.ok.nq
 have HVP:Hid (Zcz c l=true->c.ms.length<=64/\∀ q∈l,Zco q c.qs.length=true):=ħ (fun h=>by
  unfold Zcz at h;rw[đi,Bool.not_eq_true',List.any_eq_false] at h
  exact⟨(Zau h.1).2.1,fun q hq=>by have:=h.2 q hq;simpa using this⟩)
 obtain⟨qo,qc,mo,mc,uo,uc,rfl,-,-,-⟩:=ha.crw;unfold Z0n at HAK;clear ha hl;generalize hpa:Zcz c l=pa at *;clear hpa;have X1:Hid (Zae (w.alloc (.cells #[.slice qo c.qs.length qc,.slice mo c.ms.length mc,.slice uo c.us.length uc] 26)) w.heap.size 26 [.slice qo c.qs.length qc,.slice mo c.ms.length mc,.slice uo c.us.length uc]):=ħ (heap_alloc_new w _);have B1:=ħ ((đc w.heap.size w).alloc (đd _) (.cells #[.slice qo c.qs.length qc,.slice mo c.ms.length mc,.slice uo c.us.length uc] 26))
 go_enter Tryz.func29,Tryz.ntmps29
 go_upto_region 1 with(fail)
 generalize w.alloc (.cells #[.slice qo c.qs.length qc,.slice mo c.ms.length mc,.slice uo c.us.length uc] 26)=w1 at *;have c0:=X1.o.cell 0 _ rfl;have c1:=X1.o.cell 1 _ rfl;have c2:=X1.o.cell 2 _ rfl;have HCL:=ħ (HAK.o w1 B1.o);clear HAK
 go_wp2_with fail
 refine HCL.o.mono ?_;intro e w2 hq;obtain⟨b2,hres⟩:=hq;have B2:=ħ (B1.o.trans (b2.mono B1.o.size));have X2:=ħ (X1.o.step b2);clear b2 c0 c1 c2 B1 X1 HCL
 cases pa with
 | false =>
  rw[if_neg (by decide)] at hres;subst hres;have HPN:Hid (PA=[]):=ħ (by rw[HPA.o];rfl);clear HPA
  go_wp2_with fail
  go_ret;exact Zlc.nil HPN.o (B2.o.alloc B2.o.size _)
 | true =>
  rw[if_pos rfl] at hres;obtain⟨A,rfl,hR⟩:=hres;have HPN:Hid (PA=(List.range c.ms.length).filter (Zut c l)):=ħ (by rw[HPA.o];rfl);obtain⟨hnm,hix⟩:=HVP.o (by first | rfl | trivial);have HIX:=ħ hix;clear HPA HVP hix;have bz:=(đc w2.heap.size w2).alloc (đd _) (.cells #[.pointer (some ⟨A,0,none⟩)] 102);have R3:Hid (Zae (w2.alloc (.cells #[.pointer (some ⟨A,0,none⟩)] 102)) w2.heap.size 102 [.pointer (some ⟨A,0,none⟩)]):=ħ (heap_alloc_new _ _);have HR3:=ħ (hR.below bz);have X3:=ħ (X2.o.step bz);have B3:=ħ (B2.o.trans (bz.mono B2.o.size));clear bz hR X2 B2
  go_upto_region 4 with(fail)
  generalize w2.alloc (.cells #[.pointer (some ⟨A,0,none⟩)] 102)=w3 at *;generalize w2.heap.size=RB at *;have c1:=X3.o.cell 1 _ rfl;have HPB0:Hid (∀ k,Zut c l k=!l.any (fun q=>!Zfk c q k)):=ħ (fun k=>rfl);generalize hpb:Zut c l=pb at *;clear hpb;have HFN:Hid (∀ (M k:Nat),k<c.ms.length->intFn (fun W=>Z33 W RB M A c k) 90 #[.pointer (some ⟨RB,0,none⟩),.pointer (some ⟨M,0,none⟩)] (fun q=>!Zfk c q k) (fun q=>Zco q c.qs.length=true)):=ħ (fun M k hk=>Zxo RB M A c k hk (by omega) (by omega));generalize c.ms.length=nm at *;generalize hnl:l.length=nl at *;have HNL:=ħ hnl;clear hnl
  go_wp2_with fail
  clear c1
  go_loopw [19,4] (fun kv ov wr=>∃ (k:Nat) (n:Nat) (o:Option Addr) (cap:Nat),kv = .int .i64 k/\ov = .slice o n cap/\k<=nm/\n<=k/\Hid (((List.range k).filter pb).length=n)/\Hid (OwnK wr w3.heap.size 1 n cap (Za0 ((List.range k).filter pb)) o)/\Hid (Below w3.heap.size w3 wr)) (fun k _ _=>(nm-intOf k).toNat)
  case atStart=>exact⟨0,0,none,0,rfl,rfl,by omega,đd _,ħ rfl,ħ (.nil rfl rfl rfl),ħ (đc _ _)⟩
  case round =>
   obtain⟨k,n,o,cap,rfl,rfl,hk,hn,HN,HO,HB⟩:=hrel;have e2:IntKind.i64.wrap ((k:Int)+1)=((k+1:Nat):Int):=đh _ (by omega);by_cases hkn:k<nm
   ·have kk:(k:Int)<nm:=by omega
    have HNX:=ħ (Zce pb k);have bx:=(đc wr.heap.size wr).alloc (đd _) (.cells #[.int .i64 (k:Int)] 3);have M4:Hid (Zae (wr.alloc (.cells #[.int .i64 (k:Int)] 3)) wr.heap.size 3 [.int .i64 (k:Int)]):=ħ (heap_alloc_new _ _);have B4:=ħ (HB.o.trans (bx.mono HB.o.size));have O4:=ħ (HO.o.below (by exact bx));clear bx
    go_upto_region 7 with(fail)
    generalize wr.alloc (.cells #[.int .i64 (k:Int)] 3)=w4 at *;generalize wr.heap.size=MB at *;have HCF:=ħ (Zd5 w4 l lo l.length lc rfl (by rw[HNL.o];exact hll) (HLW.o w4 (B3.o.trans (B4.o.mono B3.o.size))) _ _ _ _ _ (HFN.o MB k hkn) HIX.o ⟨R3.o.step B4.o,M4.o,HR3.o.below B4.o⟩);rw[HNL.o] at HCF;have HPB:=HPB0.o k;generalize l.any (fun q=>!Zfk c q k)=bt at *;have HPB:=ħ HPB
    go_wp2_with fail
    refine HCF.o.mono ?_;rintro e w5 ⟨rfl,b5⟩;have B6:=ħ (B4.o.trans (b5.mono B4.o.size));have M6:=ħ (M4.o.step b5);have O5:=ħ (O4.o.below b5);clear b5 HCF B4 M4
    cases bt with
    | true =>
     have HPK:Hid (pb k=false):=ħ (by rw[HPB.o];rfl)
     go_wp2_with fail
     go_roundw
     case rel=>exact⟨k+1,n,o,cap,by go_num,rfl,by omega,by omega,ħ (by rw[HNX.o,HPK.o];exact HN.o),ħ (by rw[HNX.o,HPK.o];exact O5.o),B6⟩
     case measure=>simp only[intOf];omega
    | false =>
     have HPK:Hid (pb k=true):=ħ (by rw[HPB.o];rfl);have m0:=M6.o.cell 0 _ rfl
     go_upto_region 9 with(at_builtin;refine Zcn 33 3 (.int .i64 0) 1 8 Tryz.underlying33 Zbl rfl (by omega) (by omega) w5 w3.heap.size rfl (.tmp 26) (.tmp 28) rfl o cap n (Za0 ((List.range k).filter pb)) ?q1 O5.o B6.o.size 1 1 #[.int .i64 (k:Int)] 3 ?q2 rfl (by omega) ?q3 ?q4 ?_;(case q1=>rfl);(case q2=>rfl);(case q3=>simp[Value.oneCell']);(case q4=>omega);intro g5 off5 c5 wa o8 gr8 b8 or8;have O8:=ħ o8;have B8:=ħ (B6.o.trans b8);clear o8 gr8 b8 or8)
     go_wp2_with fail
     go_roundw
     case rel=>exact⟨k+1,n+1,_,_,by go_num,rfl,by omega,by omega,ħ (by rw[HNX.o,HPK.o,if_pos rfl,đn,HN.o];rfl),ħ (by rw[HNX.o,HPK.o,if_pos rfl,<- Zbt];exact O8.o),B8⟩
     case measure=>simp only[intOf];omega
   ·have kk:¬ (k:Int)<nm:=by omega
    obtain rfl:nm=k:=by omega
    go_wp2_with fail
    go_ret;rw[HPN.o];exact⟨⟨o,cap,by rw[HN.o];rfl,by rw[HN.o];exact HO.o.low B3.o.size⟩,B3.o.trans (HB.o.mono B3.o.size)⟩
theorem Zpb(w:World)(c:Crw)(cs:List Value)(B:Nat)(l:List Int)(lo:Option Addr)(lc:Nat)(ha:ArgC w c cs B)(hl:Zan Zbg w lo l)(hll:l.length<=1000000) :
  Calls Tryz.prog 28 #[.agg cs.toArray,.slice lo l.length lc] w fun e w'=>e = .returned (.tuple #[.int .i64 ((Zif c l:Nat):Int),.bool (Zcz c l)])/\Below w.heap.size w w':=by
 have HPA:Hid (Zif c l=if Zcz c l=true then(List.range c.ms.length).countP (Zxn c l) else 0):=ħ rfl;generalize Zif c l=PA at *;have HAK:=ħ (fun W (hW:Below w.heap.size w W)=>Zsg W c cs B l lo lc (ha.below hW) (hl.below hW) hll);have HLW:=ħ (fun W (hW:Below w.heap.size w W)=>hl.below hW);have hnm0:=ha.ok.nm;have hnq0:=ha.ok.nq
 have HVP:Hid (Zcz c l=true->c.ms.length<=64/\∀ q∈l,Zco q c.qs.length=true):=ħ (fun h=>by
  unfold Zcz at h;rw[đi,Bool.not_eq_true',List.any_eq_false] at h
  exact⟨(Zau h.1).2.1,fun q hq=>by have:=h.2 q hq;simpa using this⟩)
 obtain⟨qo,qc,mo,mc,uo,uc,rfl,-,-,-⟩:=ha.crw;unfold Z0n at HAK;clear ha hl;generalize hpa:Zcz c l=pa at *;clear hpa;have X1:Hid (Zae (w.alloc (.cells #[.slice qo c.qs.length qc,.slice mo c.ms.length mc,.slice uo c.us.length uc] 26)) w.heap.size 26 [.slice qo c.qs.length qc,.slice mo c.ms.length mc,.slice uo c.us.length uc]):=ħ (heap_alloc_new w _);have B1:=ħ ((đc w.heap.size w).alloc (đd _) (.cells #[.slice qo c.qs.length qc,.slice mo c.ms.length mc,.slice uo c.us.length uc] 26))
 go_enter Tryz.func28,Tryz.ntmps28
 go_upto_region 1 with(fail)
 generalize w.alloc (.cells #[.slice qo c.qs.length qc,.slice mo c.ms.length mc,.slice uo c.us.length uc] 26)=w1 at *;have c0:=X1.o.cell 0 _ rfl;have c1:=X1.o.cell 1 _ rfl;have c2:=X1.o.cell 2 _ rfl;have HCL:=ħ (HAK.o w1 B1.o);clear HAK
 go_wp2_with fail
 refine HCL.o.mono ?_;intro e w2 hq;obtain⟨b2,hres⟩:=hq;have B2:=ħ (B1.o.trans (b2.mono B1.o.size));have X2:=ħ (X1.o.step b2);clear b2 c0 c1 c2 B1 X1 HCL
 cases pa with
 | false =>
  rw[if_neg (by decide)] at hres;subst hres;have HPN:Hid (PA=0):=ħ (by rw[HPA.o];rfl);clear HPA
  go_wp2_with fail
  go_ret2
  exact⟨by rw[HPN.o];rfl,B2.o.alloc B2.o.size _⟩
 | true =>
  rw[if_pos rfl] at hres;obtain⟨A,rfl,hR⟩:=hres;have HPN:Hid (PA=(List.range c.ms.length).countP (Zxn c l)):=ħ (by rw[HPA.o];rfl);obtain⟨hnm,hix⟩:=HVP.o (by first | rfl | trivial);have HIX:=ħ hix;clear HPA HVP hix;have bz:=(đc w2.heap.size w2).alloc (đd _) (.cells #[.pointer (some ⟨A,0,none⟩)] 102);have R3:Hid (Zae (w2.alloc (.cells #[.pointer (some ⟨A,0,none⟩)] 102)) w2.heap.size 102 [.pointer (some ⟨A,0,none⟩)]):=ħ (heap_alloc_new _ _);have HR3:=ħ (hR.below bz);have X3:=ħ (X2.o.step bz);have B3:=ħ (B2.o.trans (bz.mono B2.o.size));clear bz hR X2 B2
  go_upto_region 4 with(fail)
  generalize w2.alloc (.cells #[.pointer (some ⟨A,0,none⟩)] 102)=w3 at *;generalize w2.heap.size=RB at *;have c1:=X3.o.cell 1 _ rfl;have HPB0:Hid (∀ k,Zxn c l k=l.any (fun q=>Zfk c q k)):=ħ (fun k=>rfl);generalize hpb:Zxn c l=pb at *;clear hpb;have HFN:Hid (∀ (M k:Nat),k<c.ms.length->intFn (fun W=>Z33 W RB M A c k) 89 #[.pointer (some ⟨RB,0,none⟩),.pointer (some ⟨M,0,none⟩)] (fun q=>Zfk c q k) (fun q=>Zco q c.qs.length=true)):=ħ (fun M k hk=>Ztt RB M A c k hk (by omega) (by omega));generalize c.ms.length=nm at *;generalize hnl:l.length=nl at *;have HNL:=ħ hnl;clear hnl
  go_wp2_with fail
  clear c1
  go_loopw [19,4] (fun kv ov wr=>∃ (k:Nat) (n:Nat),kv = .int .i64 k/\ov = .int .i64 n/\k<=nm/\n<=k/\Hid ((List.range k).countP pb=n)/\Hid (Below w3.heap.size w3 wr)) (fun k _ _=>(nm-intOf k).toNat)
  case atStart=>exact⟨0,0,rfl,rfl,by omega,đd _,ħ rfl,ħ (đc _ _)⟩
  case round =>
   obtain⟨k,n,rfl,rfl,hk,hn,HN,HB⟩:=hrel;have e2:IntKind.i64.wrap ((k:Int)+1)=((k+1:Nat):Int):=đh _ (by omega);by_cases hkn:k<nm
   ·have kk:(k:Int)<nm:=by omega
    have HNX:=ħ (Zng pb k);have bx:=(đc wr.heap.size wr).alloc (đd _) (.cells #[.int .i64 (k:Int)] 3);have M4:Hid (Zae (wr.alloc (.cells #[.int .i64 (k:Int)] 3)) wr.heap.size 3 [.int .i64 (k:Int)]):=ħ (heap_alloc_new _ _);have B4:=ħ (HB.o.trans (bx.mono HB.o.size));clear bx
    go_upto_region 7 with(fail)
    generalize wr.alloc (.cells #[.int .i64 (k:Int)] 3)=w4 at *;generalize wr.heap.size=MB at *;have HCF:=ħ (Zd5 w4 l lo l.length lc rfl (by rw[HNL.o];exact hll) (HLW.o w4 (B3.o.trans (B4.o.mono B3.o.size))) _ _ _ _ _ (HFN.o MB k hkn) HIX.o ⟨R3.o.step B4.o,M4.o,HR3.o.below B4.o⟩);rw[HNL.o] at HCF;have HPB:=HPB0.o k;generalize l.any (fun q=>Zfk c q k)=bt at *;have HPB:=ħ HPB
    go_wp2_with fail
    refine HCF.o.mono ?_;rintro e w5 ⟨rfl,b5⟩;have B6:=ħ (B4.o.trans (b5.mono B4.o.size));have M6:=ħ (M4.o.step b5);clear b5 HCF B4 M4
    cases bt with
    | false =>
     have HPK:Hid (pb k=false):=ħ (by rw[HPB.o])
     go_wp2_with fail
     go_roundw
     case rel=>exact⟨k+1,n,by go_num,rfl,by omega,by omega,ħ (by rw[HNX.o,HPK.o];exact HN.o),B6⟩
     case measure=>simp only[intOf];omega
    | true =>
     have HPK:Hid (pb k=true):=ħ (by rw[HPB.o]);have e3:IntKind.i64.wrap ((n:Int)+1)=((n+1:Nat):Int):=đh _ (by omega)
     go_wp2_with fail
     go_roundw
     case rel=>exact⟨k+1,n+1,by go_num,by go_num,by omega,by omega,ħ (by rw[HNX.o,HPK.o,if_pos rfl,HN.o]),B6⟩
     case measure=>simp only[intOf];omega
   ·have kk:¬ (k:Int)<nm:=by omega
    obtain rfl:nm=k:=by omega
    go_wp2_with fail
    go_ret2
    rw[HPN.o,HN.o];exact⟨rfl,B3.o.trans (HB.o.mono B3.o.size)⟩
end
section
open Go.RowKit Go.Sort Go.Maps
def Zea(c:Crw)(x:Use):Bool:=Zal c&&Zch c.qs.length c.ms.length x
def Zxp(w w':World)(c:Crw)(cs:List Value)(x:Use)(e:Ending):Prop:=Below w.heap.size w w'/\if Zea c x=true then ∃ A,e = .returned (.tuple #[.pointer (some ⟨A,0,none⟩),.bool true])/\Zbo w' A c (Zaj c) (Za7 c)/\Z2i w w' A c cs else e = .returned (.tuple #[.pointer none,.bool false])
theorem Z2i.later{w w1 w2 w3:World}{A:Nat}{c:Crw}{cs:List Value}(h:Z2i w1 w2 A c cs)(hb:Below w.heap.size w w1)(hb1:Below w1.heap.size w1 w2)(hb2:Below w2.heap.size w2 w3):Z2i w w3 A c cs:=fun w0 Q hc hb0 hQ=>by
 have:=h w0 Q hc (hb0.trans (hb.mono hb0.size)) (fun g hg=>⟨(hQ g hg).1,by have:=(hQ g hg).2;have:=hb.size;omega⟩);exact this.only (Only.of_below hb2) (fun g _ hg=>hg)
theorem Znh(w:World)(c:Crw)(cs:List Value)(B:Nat)(x:Use)(ha:ArgC w c cs B) :
  Calls Tryz.prog 97 #[.agg cs.toArray,.agg (Zcg x).toArray] w fun e w'=>Zxp w w' c cs x e:=by
 have HOP:=ħ (fun W (hW:Below w.heap.size w W)=>Zd4 W c cs (ha.below hW).crw B (ha.below hW).tab ha.ok);have HNU:=ha.nu;have hnq0:=ha.ok.nq;have hnm0:=ha.ok.nm;have HPA:Hid (Zea c x=(Zal c&&Zch c.qs.length c.ms.length x)):=ħ rfl;have HAQ:Hid (∀ e w',Zxp w w' c cs x e↔(Below w.heap.size w w'/\if Zea c x=true then ∃ A,e = .returned (.tuple #[.pointer (some ⟨A,0,none⟩),.bool true])/\Zbo w' A c (Zaj c) (Za7 c)/\Z2i w w' A c cs else e = .returned (.tuple #[.pointer none,.bool false]))):=ħ (fun _ _=>Iff.rfl);generalize Zea c x=PA at *;have HVU:=ħ (fun W qo mo uo qc mc uc=>Zlz W qo mo uo c.qs.length c.ms.length c.us.length qc mc uc x (by omega) (by omega));obtain⟨qo,qc,mo,mc,uo,uc,rfl,hq0,hm0,hu0,-⟩:=ha.crw;unfold Z0c at HOP;clear ha hq0 hm0 hu0;generalize hnq:c.qs.length=nq at *;generalize hnm:c.ms.length=nm at *;generalize hnu:c.us.length=nu at *;clear hnq hnm hnu;generalize hvc:Zal c=vc at *;clear hvc;have HUX:Hid (Zcg x=[.int .i64 x.q,.int .i64 x.w,.int .i64 x.f,.int .i64 x.h]):=ħ rfl;generalize Zch nq nm x=vu at *;rw[HUX.o] at HVU ⊢;obtain⟨X1,U1,B1⟩:=Zcw w 26 39 [.slice qo nq qc,.slice mo nm mc,.slice uo nu uc] [.int .i64 x.q,.int .i64 x.w,.int .i64 x.f,.int .i64 x.h];have X1:=ħ X1;have U1:=ħ U1;have B1:=ħ B1;clear HUX;generalize x.w=x1 at *;generalize x.f=x2 at *;generalize x.h=x3 at *;generalize x.q=x0 at *
 go_enter Tryz.func97,Tryz.ntmps97
 go_upto_region 1 with(fail)
 generalize (w.alloc (.cells #[.slice qo nq qc,.slice mo nm mc,.slice uo nu uc] 26)).alloc (.cells #[.int .i64 x0,.int .i64 x1,.int .i64 x2,.int .i64 x3] 39)=w1 at *;have c0:=X1.o.cell 0 _ rfl;have c1:=X1.o.cell 1 _ rfl;have c2:=X1.o.cell 2 _ rfl;have HCL:=ħ (HOP.o w1 B1.o);clear HOP
 go_wp2_with fail
 refine HCL.o.mono ?_;intro e w2 hq;obtain⟨hres,b2⟩:=hq;have B2:=ħ (B1.o.trans (b2.mono B1.o.size));have X2:=ħ (X1.o.step b2);have U2:=ħ (U1.o.step b2);have BP:=ħ (And.intro B1.o b2);clear b2 c0 c1 c2 B1 X1 U1 HCL
 cases vc with
 | false =>
  rw[if_neg (by decide)] at hres;subst hres;have HPN:Hid (PA=false):=ħ (by rw[HPA.o];rfl);clear HPA
  go_wp2_with fail
  go_ret2
  exact(HAQ.o _ _).2 ⟨B2.o,by rw[HPN.o];rfl⟩
 | true =>
  rw[if_pos rfl] at hres;obtain⟨A,rfl,hR,hAA,hF⟩:=hres;have HR:=ħ hR;have HF:=ħ hF;clear hR hF hAA;have c0:=X2.o.cell 0 _ rfl;have c1:=X2.o.cell 1 _ rfl;have c2:=X2.o.cell 2 _ rfl;have p0:=U2.o.cell 0 _ rfl;have p1:=U2.o.cell 1 _ rfl;have p2:=U2.o.cell 2 _ rfl;have p3:=U2.o.cell 3 _ rfl;have HVC2:=ħ (HVU.o w2 qo mo uo qc mc uc)
  have n4:¬ (4096:Int)<=(nu:Int):=by omega
  have n5:decide ((4096:Int)<=(nu:Int))=false:=decide_eq_false n4
  go_wp2_with fail
  refine HVC2.o.mono ?_;rintro e w3 ⟨rfl,b3⟩;have B3:=ħ (B2.o.trans (b3.mono B2.o.size));have HR3:=ħ (HR.o.below b3);have HF3:=ħ (HF.o.later BP.o.1 BP.o.2 b3);clear b3 c0 c1 c2 p0 p1 p2 p3 HVC2 HVU
  cases vu with
  | false =>
   have HPN:Hid (PA=false):=ħ (by rw[HPA.o];rfl)
   go_wp2_with fail
   go_ret2
   exact(HAQ.o _ _).2 ⟨B3.o,by rw[HPN.o];rfl⟩
  | true =>
   have HPN:Hid (PA=true):=ħ (by rw[HPA.o];rfl)
   go_wp2_with fail
   go_ret2
   exact(HAQ.o _ _).2 ⟨B3.o,by rw[HPN.o];exact⟨A,rfl,HR3.o,HF3.o⟩⟩
def Z0o(c:Crw)(x:Use):List Nat:=if Zea c x=true then Zk7 (Zcf c x) (Za7 c++[Zeo c (Zaj c) x]) c.us.length else []
theorem Zj4{c:Crw}{C:List (List Bool)}(h:ReckOk c C){x:Use}(hw:0<=x.w/\x.w<=15){r:List Bool}(hr:r.length=c.ms.length)(hu:c.us.length<=999):ReckOk (Zcf c x) (C++[r]) :=
 ⟨by show(C++[r]).length=(c.us++[x]).length;rw[đn,đn,h.len];rfl,fun s hs=>by
  rcases đt.1 hs with h1 | h1
  ·exact h.row s h1
  ·rw[List.mem_singleton] at h1;subst h1;exact hr,fun y hy=>by
  have hy:y∈c.us++[x]:=hy;rcases đt.1 hy with h1 | h1
  ·exact h.win y h1
  ·rw[List.mem_singleton] at h1;subst h1;exact hw,h.tic,h.nm,by show(c.us++[x]).length<=1000;rw[đn];show c.us.length+1<=1000;omega⟩
theorem Zsj(v0 v1 v2 v3:Value):(Tryz.prog.info? 39).map (·.size)=some #[v0,v1,v2,v3].size:=by
 show _=some 4
 kernel_rfl
theorem Z0p(w:World)(c:Crw)(cs:List Value)(B:Nat)(x:Use)(ha:ArgC w c cs B) :
  Calls Tryz.prog 39 #[.agg cs.toArray,.agg (Zcg x).toArray] w fun e w'=>Zlc w w' (Z0o c x) e:=by
 have HPL:=ħ (fun W (hW:Below w.heap.size w W)=>Znh W c cs B x (ha.below hW));have HNU:=ha.nu;have hnq0:=ha.ok.nq;have hnm0:=ha.ok.nm;have HPA:Hid (Z0o c x=if Zea c x=true then Zk7 (Zcf c x) (Za7 c++[Zeo c (Zaj c) x]) c.us.length else []):=ħ rfl;have HVX:Hid (Zea c x=true->Zal c=true/\Zch c.qs.length c.ms.length x=true):=ħ (fun h=>by unfold Zea at h;rwa [đi] at h)
 have HWT:Hid (∀ W A,Zbo W A c (Zaj c) (Za7 c)->Zea c x=true->Calls Tryz.prog 109 #[.pointer (some ⟨A,0,none⟩),.agg (Zcg x).toArray] W fun e w'=>∃ X,e = .returned (.pointer (some ⟨X,0,none⟩))/\Zbo w' X (Zcf c x) (Zaj c) (Za7 c++[Zeo c (Zaj c) x])/\W.heap.size<=X/\Below W.heap.size W w'):=ħ (fun W A h hp=>by
  obtain⟨h1,h2⟩:=HVX.o hp;have hq:=Zfc h2
  exact Zr8 W A c (Zaj c) (Za7 c) x h hq.1 (by rw[Zdw];exact hq.2.1) Ze1 hnm0 (by omega) (by rw[(Zaw h1 (by omega)).len];omega))
 have HPO:Hid (∀ W X,Zbo W X (Zcf c x) (Zaj c) (Za7 c++[Zeo c (Zaj c) x])->Zea c x=true->Calls Tryz.prog 86 #[.pointer (some ⟨X,0,none⟩),.int .i64 c.us.length] W fun e w'=>(∃ o cap,e = .returned (.slice o (Zk7 (Zcf c x) (Za7 c++[Zeo c (Zaj c) x]) c.us.length).length cap)/\OwnK w' W.heap.size 1 (Zk7 (Zcf c x) (Za7 c++[Zeo c (Zaj c) x]) c.us.length).length cap (Za0 (Zk7 (Zcf c x) (Za7 c++[Zeo c (Zaj c) x]) c.us.length)) o)/\Below W.heap.size W w'):=ħ (fun W X h hp=>by
  obtain⟨h1,h2⟩:=HVX.o hp;have hq:=Zfc h2
  exact Zqf W X (Zcf c x) (Zaj c) (Za7 c++[Zeo c (Zaj c) x]) c.us.length h (Zj4 (Zaw h1 (by omega)) ⟨hq.2.2.1,hq.2.2.2.1⟩ (Zf0 _ _ _) HNU) (by show c.us.length<(c.us++[x]).length;rw[đn];exact Nat.lt_succ_self _))
 obtain⟨qo,qc,mo,mc,uo,uc,rfl,-,-,-⟩:=ha.crw;unfold Zxp at HPL;clear ha HVX;generalize Z0o c x=PA at *;generalize Zk7 (Zcf c x) (Za7 c++[Zeo c (Zaj c) x]) c.us.length=PF at *;have HUX:Hid (Zcg x=[.int .i64 x.q,.int .i64 x.w,.int .i64 x.f,.int .i64 x.h]):=ħ rfl;rw[HUX.o] at HWT HPL ⊢;generalize hpb:Zea c x=pb at *;clear hpb;generalize c.qs.length=nq at *;generalize c.ms.length=nm at *;generalize c.us.length=nu at *;obtain⟨X1,U1,B1⟩:=Zcw w 26 39 [.slice qo nq qc,.slice mo nm mc,.slice uo nu uc] [.int .i64 x.q,.int .i64 x.w,.int .i64 x.f,.int .i64 x.h];have X1:=ħ X1;have U1:=ħ U1;have B1:=ħ B1;clear HUX;generalize hcx:Zcf c x=CX at *;generalize hrx:Zeo c (Zaj c) x=RX at *;clear hcx hrx;generalize x.w=x1 at *;generalize x.f=x2 at *;generalize x.h=x3 at *;generalize x.q=x0 at *
 go_enter Tryz.func39,Tryz.ntmps39
 go_upto_region 1 with(fail)
 generalize (w.alloc (.cells #[.slice qo nq qc,.slice mo nm mc,.slice uo nu uc] 26)).alloc (.cells #[.int .i64 x0,.int .i64 x1,.int .i64 x2,.int .i64 x3] 39)=w1 at *;have c0:=X1.o.cell 0 _ rfl;have c1:=X1.o.cell 1 _ rfl;have c2:=X1.o.cell 2 _ rfl;have p0:=U1.o.cell 0 _ rfl;have p1:=U1.o.cell 1 _ rfl;have p2:=U1.o.cell 2 _ rfl;have p3:=U1.o.cell 3 _ rfl;have HCL:=ħ (HPL.o w1 B1.o);clear HPL
 go_wp2_with fail
 refine HCL.o.mono ?_;intro e w2 hq;obtain⟨b2,hres⟩:=hq;have B2:=ħ (B1.o.trans (b2.mono B1.o.size));have X2:=ħ (X1.o.step b2);have U2:=ħ (U1.o.step b2);clear b2 c0 c1 c2 p0 p1 p2 p3 B1 X1 U1 HCL
 cases pb with
 | false =>
  rw[if_neg (by decide)] at hres;subst hres;have HPN:Hid (PA=[]):=ħ (by rw[HPA.o];rfl);clear HPA
  go_wp2_with fail
  go_ret;exact Zlc.nil HPN.o B2.o
 | true =>
  rw[if_pos rfl] at hres;obtain⟨A,rfl,hR,-⟩:=hres;have HR:=ħ hR;clear hR;have HPN:Hid (PA=PF):=ħ (by rw[HPA.o];rfl)
  go_upto_region 4 with(fail)
  refine Zft [0,1,3,4,5] [2,6,7] (fun w'=>Zae w' w.heap.size 26 [.slice qo nq qc,.slice mo nm mc,.slice uo nu uc]/\Zae w' (w.heap.size+1) 39 [.int .i64 x0,.int .i64 x1,.int .i64 x2,.int .i64 x3]) (by kernel_rfl) (by kernel_rfl) (by kernel_rfl) (fun _ _ d _ _ h=>by cases d<;>exact h) ⟨X2.o.step (đc _ _).drew,U2.o.step (đc _ _).drew⟩ ?_;simp only[Zb6,List.filterMap_cons,List.filterMap_nil,List.getElem?_cons_zero,List.getElem?_cons_succ,Option.map_some,List.map_cons,List.map_nil];apply Exists.intro;refine⟨?hh,?ht⟩
  case hh =>
   intro w' hw';have c2:=hw'.1.cell 2 _ rfl;have p0:=hw'.2.cell 0 _ rfl;have p1:=hw'.2.cell 1 _ rfl;have p2:=hw'.2.cell 2 _ rfl;have p3:=hw'.2.cell 3 _ rfl;clear hw'
   repeat still_step
   exact wpStill_nil rfl
  case ht =>
   have BD:=(đc w2.heap.size w2).drew;have HWI:=ħ (HWT.o w2.drew A (HR.o.below BD) (by first | rfl | trivial));have X3:=ħ (X2.o.step BD);have U3:=ħ (U2.o.step BD);have B3:=ħ (B2.o.trans (BD.mono B2.o.size));clear BD X2 U2 B2 HR HWT;generalize w2.drew=w3 at *;refine Zb8 ?_
   go_wp2_with fail
   refine HWI.o.mono ?_;rintro e w4 ⟨X,rfl,hX,-,b4⟩;have HX:=ħ hX;have X4:=ħ (X3.o.step b4);have U4:=ħ (U3.o.step b4);have B4:=ħ (B3.o.trans (b4.mono B3.o.size));have HPS:=ħ (HPO.o w4 X hX (by first | rfl | trivial));clear b4 hX HWI X3 U3 B3
   go_wp2_with fail
   refine Zaa ⟨⟨X4.o,U4.o⟩,?_⟩;refine Zb8 ?_
   go_wp2_with fail
   refine HPS.o.mono ?_;rintro e w5 ⟨⟨o,cap,rfl,ho⟩,b5⟩;have HO:=ħ (ho.low (B':=w.heap.size) B4.o.size);have B5:=ħ (B4.o.trans (b5.mono B4.o.size));have X5:=ħ (X4.o.step b5);have U5:=ħ (U4.o.step b5);clear b5 ho HPS
   go_wp2_with fail
   refine Zaa ⟨⟨X5.o,U5.o⟩,?_⟩;refine Zb8 ?_
   go_wp2_with fail
   refine Zaa ⟨⟨X5.o,U5.o⟩,?_⟩;unfold Ze5
   go_wp2
   go_ret;rw[HPN.o];exact⟨⟨o,cap,rfl,HO.o⟩,B5.o⟩
end
section
open Go.RowKit Go.Sort Go.Maps
structure Wsh where
 q:Int
 l:Int
def Z1l(x:Wsh):List Value:=[.int .i64 x.q,.int .i64 x.l]
theorem Z0q(x:Wsh):(Z1l x).length=2:=rfl
def Zen(q:Int)(l:List Wsh):Int:=l.foldl (fun n x=>if x.q = -1\/x.q=q then max n x.l else n) 0
theorem Ztu(q:Int)(l:List Wsh)(i:Nat)(x:Wsh)(h:l[i]?=some x):Zen q (l.take (i+1))=if x.q = -1\/x.q=q then max (Zen q (l.take i)) x.l else Zen q (l.take i):=by
 unfold Zen;rw[đv,h];simp only[Option.toList_some,List.foldl_append,List.foldl_cons,List.foldl_nil]
theorem Z0r(w:World)(x:Use)(l:List Wsh)(lo:Option Addr)(lc:Nat)(hl:Zan Z1l w lo l)(hll:l.length<=1000000) :
  Calls Tryz.prog 157 #[.agg (Zcg x).toArray,.slice lo l.length lc] w fun e w'=>e = .returned (.int .i64 (Zen x.q l))/\Below w.heap.size w w':=by
 have HLW:=ħ (fun W (hW:Below w.heap.size w W)=>hl.below hW);have HN0:Hid (Zen x.q (l.take 0)=0):=ħ rfl;have HND:Hid (∀ i y,l[i]?=some y->Zen x.q (l.take (i+1))=if y.q = -1\/y.q=x.q then max (Zen x.q (l.take i)) y.l else Zen x.q (l.take i)):=ħ (fun i y h=>Ztu x.q l i y h);have HEND:Hid (Zen x.q (l.take l.length)=Zen x.q l):=ħ (by rw[List.take_length]);have HGE:Hid (∀ i,i<l.length->∃ y,l[i]?=some y):=ħ (fun i h=>⟨_,đb h⟩);have HUX:Hid (Zcg x=[.int .i64 x.q,.int .i64 x.w,.int .i64 x.f,.int .i64 x.h]):=ħ rfl;have U1:Hid (Zae (w.alloc (.cells #[.int .i64 x.q,.int .i64 x.w,.int .i64 x.f,.int .i64 x.h] 39)) w.heap.size 39 [.int .i64 x.q,.int .i64 x.w,.int .i64 x.f,.int .i64 x.h]):=ħ (heap_alloc_new w _);have B1:=ħ ((đc w.heap.size w).alloc (đd _) (.cells #[.int .i64 x.q,.int .i64 x.w,.int .i64 x.f,.int .i64 x.h] 39));rw[HUX.o];clear HUX hl;generalize x.w=x1 at *;generalize x.f=x2 at *;generalize x.h=x3 at *;generalize x.q=x0 at *;generalize Zen x0 l=ND at *;generalize hnl:l.length=nl at *;clear hnl
 go_enter Tryz.func157,Tryz.ntmps157
 go_upto_region 1 with(fail)
 generalize w.alloc (.cells #[.int .i64 x0,.int .i64 x1,.int .i64 x2,.int .i64 x3] 39)=w1 at *
 go_wp2_with fail
 go_loopw [10,5] (fun iv nv wr=>∃ (i:Nat) (n:Int),iv = .int .i64 i/\nv = .int .i64 n/\i<=nl/\Hid (Zen x0 (l.take i)=n)/\Hid (Zae wr w.heap.size 39 [.int .i64 x0,.int .i64 x1,.int .i64 x2,.int .i64 x3])/\Hid (Below w.heap.size w wr)) (fun i _ _=>(nl-intOf i).toNat)
 case atStart=>exact⟨0,0,rfl,rfl,by omega,HN0,U1,B1⟩
 case round =>
  clear HN0 U1 B1;obtain⟨i,n,rfl,rfl,hi,HN,U2,B2⟩:=hrel;have e2:IntKind.i64.wrap ((i:Int)+1)=((i+1:Nat):Int):=đh _ (by omega);by_cases hin:i<nl
  ·have ii:(i:Int)<nl:=by omega
   obtain⟨y,hy⟩:=HGE.o i hin;have HNX:=HND.o i y hy;rw[HN.o] at HNX;obtain⟨gl,ol,hlo,hgl,hlc⟩:=(HLW.o wr B2.o).at Z0q i y hy;have l0:=hlc 0 _ rfl;have l1:=hlc 1 _ rfl;rw[Nat.add_zero] at l0;subst hlo;clear hlc hgl hy;obtain⟨yq,yl⟩:=y;have HNX:=ħ (show Zen x0 (l.take (i+1))=if yq = -1\/yq=x0 then max n yl else n from HNX);have bx:=(đc wr.heap.size wr).alloc (đd _) (.cells #[.int .i64 yq,.int .i64 yl] 79);have Y2:Hid (Zae (wr.alloc (.cells #[.int .i64 yq,.int .i64 yl] 79)) wr.heap.size 79 [.int .i64 yq,.int .i64 yl]):=ħ (heap_alloc_new _ _);have U3:=ħ (U2.o.step bx);have B3:=ħ (B2.o.trans (bx.mono B2.o.size));clear bx U2 B2
   go_upto_region 5 with(fail)
   clear l0 l1;generalize wr.alloc (.cells #[.int .i64 yq,.int .i64 yl] 79)=w3 at *;generalize wr.heap.size=YB at *;have y0:=Y2.o.cell 0 _ rfl;have y1:=Y2.o.cell 1 _ rfl;have u0:=U3.o.cell 0 _ rfl;by_cases h1:yq = -1
   ·subst h1
    have HNX2:Hid (Zen x0 (l.take (i+1))=max n yl):=ħ (by rw[HNX.o,if_pos (.inl rfl)])
    go_wp2_with fail
    clear y0 y1 u0;go_roundw
    case rel=>exact⟨i+1,_,by go_num,rfl,by omega,HNX2,U3,B3⟩
    case measure=>simp only[intOf];omega
   ·have h1b:(yq==(-1:Int))=false:=by simpa using h1
    by_cases h2:yq=x0
    ·have h2b:(yq==x0)=true:=by simpa using h2
     have HNX2:Hid (Zen x0 (l.take (i+1))=max n yl):=ħ (by rw[HNX.o,if_pos (.inr h2)]);clear h2
     go_wp2_with fail
     clear y0 y1 u0;go_roundw
     case rel=>exact⟨i+1,_,by go_num,rfl,by omega,HNX2,U3,B3⟩
     case measure=>simp only[intOf];omega
    ·have h2b:(yq==x0)=false:=by simpa using h2
     have HNX2:Hid (Zen x0 (l.take (i+1))=n):=ħ (by rw[HNX.o,if_neg (fun h=>h.elim h1 h2)])
     go_wp2_with fail
     clear y0 y1 u0;go_roundw
     case rel=>exact⟨i+1,n,by go_num,rfl,by omega,HNX2,U3,B3⟩
     case measure=>simp only[intOf];omega
  ·have ii:¬ (i:Int)<nl:=by omega
   obtain rfl:nl=i:=by omega
   have HE:Hid (ND=n):=ħ (by rw[<- HEND.o];exact HN.o)
   go_wp2_with fail
   go_ret;exact⟨by rw[HE.o];rfl,B2.o⟩
end
section
open Go.RowKit Go.Sort Go.Maps
def Zy0(cw:Crw)(C:List (List Bool))(xw:Int)(l:List Wsh)(u:Int):Bool:=((cw.us.getD u.toNat ⟨0,0,0,0⟩).w==xw)&&decide (((Zk7 cw C u.toNat).length:Int)<Zen (cw.us.getD u.toNat ⟨0,0,0,0⟩).q l)
def Z4j(W:World)(RB XB LB P:Nat)(cw:Crw)(H C:List (List Bool))(x:Use)(l:List Wsh)(lo:Option Addr)(lc:Nat):Prop:=Zae W RB 102 [.pointer (some ⟨P,0,none⟩)]/\Zae W XB 39 [.int .i64 x.q,.int .i64 x.w,.int .i64 x.f,.int .i64 x.h]/\Zae W LB 56 [.slice lo l.length lc]/\Zbo W P cw H C/\Zan Z1l W lo l
theorem Z4k(t:Array Value)(h:t.size=30):∃ f:Nat->Value,t=#[f 0,f 1,f 2,f 3,f 4,f 5,f 6,f 7,f 8,f 9,f 10,f 11,f 12,f 13,f 14,f 15,f 16,f 17,f 18,f 19,f 20,f 21,f 22,f 23,f 24,f 25,f 26,f 27,f 28,f 29]:=by
 obtain⟨l⟩:=t;have hl:l.length=30:=h
 have e:l=(List.range 30).map (fun i=>l.getD i undef):=by
  apply List.ext_getElem
  ·simp[hl]
  ·intro i h1 h2
   simp[List.getD,h1]
 exact⟨fun i=>l.getD i undef,congrArg List.toArray e⟩
def bkF(yq yw yf yh nd:Int)(lo:Option Addr)(nl lc j P YB XB pn:Nat)(i:Nat)(W:World)(v:Value):Prop:=match i with
 | 0=>v = .pointer (some ⟨YB,1,none⟩)
 | 1=>v = .int .i64 yw
 | 2=>v = .pointer (some ⟨XB,1,none⟩)
 | 3=>v = .int .i64 yw
 | 4=>v = .bool true
 | 5=>v = .bool true
 | 6=>v = .pointer (some ⟨P,0,none⟩)
 | 7=>v = .int .i64 (j:Nat)
 | 8=>∃ o cap,v = .slice o pn cap
 | 9=>v = .int .i64 (pn:Nat)
 | 10=>v = .agg #[.int .i64 yq,.int .i64 yw,.int .i64 yf,.int .i64 yh]
 | 11=>v = .slice lo nl lc
 | 12=>v = .int .i64 nd
 | 13=>v = .bool (decide ((pn:Int)<nd))
 | 14=>v = .bool (decide ((pn:Int)<nd))
 | 15=>v = .bool (decide ((pn:Int)<nd))
 | _=>True
theorem Z0s(yq yw yf yh nd:Int)(lo:Option Addr)(nl lc j P YB XB pn:Nat):∀ i w w' v,bkF yq yw yf yh nd lo nl lc j P YB XB pn i w v->Below w.heap.size w w'->bkF yq yw yf yh nd lo nl lc j P YB XB pn i w' v:=by
 intro i w w' v h hb
 match i with
 | 0=>exact h
 | 1=>exact h
 | 2=>exact h
 | 3=>exact h
 | 4=>exact h
 | 5=>exact h
 | 6=>exact h
 | 7=>exact h
 | 8=>exact h
 | 9=>exact h
 | 10=>exact h
 | 11=>exact h
 | 12=>exact h
 | 13=>exact h
 | 14=>exact h
 | 15=>exact h
 | k+16=>trivial
theorem Z0t(RB XB LB P:Nat)(cw:Crw)(H C:List (List Bool))(x:Use)(l:List Wsh)(lo:Option Addr)(lc:Nat)(hok:ReckOk cw C)(hll:l.length<=1000000) :
  intFn (fun W=>Z4j W RB XB LB P cw H C x l lo lc) 156 #[.pointer (some ⟨RB,0,none⟩),.pointer (some ⟨XB,0,none⟩),.pointer (some ⟨LB,0,none⟩)] (fun u=>Zy0 cw C x.w l u) (fun u=>Zco u cw.us.length=true):=by
 refine⟨enters_of Tryz.func156 (by kernel_rfl) rfl,fun w w' h hb=>⟨h.1.step hb,h.2.1.step hb,h.2.2.1.step hb,h.2.2.2.1.below hb,h.2.2.2.2.below hb⟩,fun u w hS hT=>?_⟩;obtain⟨h1,h2,h3,h4,h5⟩:=hT;obtain⟨j,rfl,hj⟩:=Zbx hS;obtain⟨y,hy⟩:∃ y,cw.us[j]?=some y:=⟨_,đb hj⟩
 have HYD:cw.us.getD j ⟨0,0,0,0⟩=y:=by rw[đf,hy];rfl
 have HV:Hid (Zy0 cw C x.w l (j:Int)=(y.w==x.w&&decide (((Zk7 cw C j).length:Int)<Zen y.q l))):=ħ (by
  unfold Zy0
  rw[Int.toNat_natCast,HYD])
 have bx:=(đc w.heap.size w).alloc (đd _) (.cells #[.int .i64 y.q,.int .i64 y.w,.int .i64 y.f,.int .i64 y.h] 39);have HPS:Hid (∀ W,Below (w.alloc (.cells #[.int .i64 y.q,.int .i64 y.w,.int .i64 y.f,.int .i64 y.h] 39)).heap.size (w.alloc (.cells #[.int .i64 y.q,.int .i64 y.w,.int .i64 y.f,.int .i64 y.h] 39)) W->Calls Tryz.prog 86 #[.pointer (some ⟨P,0,none⟩),.int .i64 j] W fun e w'=>(∃ o cap,e = .returned (.slice o (Zk7 cw C j).length cap))/\Below W.heap.size W w'):=ħ (fun W hW=>(Zqf W P cw H C j ((h4.below bx).below hW) hok hj).mono (fun e w' ⟨⟨o,cap,h1,_⟩,h2⟩=>⟨⟨o,cap,h1⟩,h2⟩));have HND:Hid (∀ W,Below (w.alloc (.cells #[.int .i64 y.q,.int .i64 y.w,.int .i64 y.f,.int .i64 y.h] 39)).heap.size (w.alloc (.cells #[.int .i64 y.q,.int .i64 y.w,.int .i64 y.f,.int .i64 y.h] 39)) W->Calls Tryz.prog 157 #[.agg #[.int .i64 y.q,.int .i64 y.w,.int .i64 y.f,.int .i64 y.h],.slice lo l.length lc] W fun e w'=>e = .returned (.int .i64 (Zen y.q l))/\Below W.heap.size W w'):=ħ (fun W hW=>Z0r W y l lo lc ((h5.below bx).below hW) hll);obtain⟨qo,mo,uo,ho,co,qc,mc,uc,hc,cc,hA,hR,-⟩:=h4;have a2:=hA.cell 2 _ rfl;obtain⟨gu,ou,huo,hgu,hcu⟩:=hR.u.at Zbj j y hy;have u0:=hcu 0 _ rfl;have u1:=hcu 1 _ rfl;have u2:=hcu 2 _ rfl;have u3:=hcu 3 _ rfl;rw[Nat.add_zero] at u0;rw[huo] at a2;have r0:=h1.cell 0 _ rfl;have R1:=ħ (h1.step bx);have X1:=ħ (h2.step bx);have L1:=ħ (h3.step bx);have B1:=ħ bx;have Y1:Hid (Zae (w.alloc (.cells #[.int .i64 y.q,.int .i64 y.w,.int .i64 y.f,.int .i64 y.h] 39)) w.heap.size 39 [.int .i64 y.q,.int .i64 y.w,.int .i64 y.f,.int .i64 y.h]):=ħ (heap_alloc_new _ _)
 have jj:(j:Int)<(cw.us.length:Nat):=by omega
 generalize cw.us.length=nu at *;generalize Zy0 cw C x.w l (j:Int)=bv at *;generalize (Zk7 cw C j).length=pn at *;generalize Zen y.q l=nd at *;generalize hnl:l.length=nl at *;clear h1 h2 h3 h5 hA hR hy HYD huo hgu hcu hS hok bx hnl hll;obtain⟨yq,yw,yf,yh⟩:=y;obtain⟨xq,xw,xf,xh⟩:=x
 go_enter Tryz.func156,Tryz.ntmps156
 go_upto_region 2 with(fail)
 clear a2 u0 u1 u2 u3 r0;generalize w.alloc (.cells #[.int .i64 yq,.int .i64 yw,.int .i64 yf,.int .i64 yh] 39)=w1 at *;generalize hYB:w.heap.size=YB at *;have HYB:=ħ hYB;clear hYB;by_cases hyx:yw=xw
 ·subst hyx
  have HV2:Hid (bv=decide ((pn:Int)<nd)):=ħ (by rw[HV.o];simp);clear HV;refine Za3 (bkF yq yw yf yh nd lo nl lc j P YB XB pn) (by kernel_rfl) (Z0s yq yw yf yh nd lo nl lc j P YB XB pn) (Zbr (by kernel_rfl)) (Zf5 (by kernel_rfl)) (Zax (by kernel_rfl)) ?hs ?he
  case hs =>
   intro i o hi listed a' w' H hl2;have hl3:=Zap hl2;have hin:i<16:=(đp.1 hi).1;have hb:=ħ H.below;have s0:=H.same 0 (Zam (by kernel_rfl));have s1:=H.same 1 (Zam (by kernel_rfl));have s2:=H.same 2 (Zam (by kernel_rfl));have s3:=H.same 3 (Zam (by kernel_rfl));have s6:=H.same 6 (Zam (by kernel_rfl));have hdn:=H.done;have hdf:=H.defers;have hts:=H.tsize;clear hl2 H;obtain⟨t',df⟩:=a';obtain⟨f',rfl⟩:=Z4k t' hts;have hdf':df=[]:=hdf;subst hdf';have gs0:f' 0 = .int .i64 (j:Nat):=s0;have gs1:f' 1 = .pointer (some ⟨RB,0,none⟩):=s1;have gs2:f' 2 = .pointer (some ⟨XB,0,none⟩):=s2;have gs3:f' 3 = .pointer (some ⟨LB,0,none⟩):=s3;have gs6:f' 6 = .pointer (some ⟨YB,0,none⟩):=s6;clear s0 s1 s2 s3 s6;clear hdf hts;have hcases:=Zl7 i hin;clear hin;rcases hcases with rfl | rfl | rfl | rfl | rfl | rfl | rfl | rfl | rfl | rfl | rfl | rfl | rfl | rfl | rfl | rfl
   ·obtain rfl:=đa hi
    clear hdn hl3;rw[gs6];clear gs0 gs1 gs2 gs3 gs6;refine Zab rfl ?_
    go_wp2_with fail
    exact Zaa ⟨_,rfl,đc _ _,rfl⟩
   ·obtain rfl:=đa hi
    have dv0:f' 15 = .pointer (some ⟨YB,1,none⟩):=hdn 0 _ 15 rfl (hl3 0 (by rfl)) rfl;clear hdn hl3;rw[dv0];clear dv0 gs0 gs1 gs2 gs3 gs6;have c1:=(Y1.o.step hb.o).cell 1 _ rfl;refine Zab rfl ?_
    go_wp2_with fail
    exact Zaa ⟨_,rfl,đc _ _,rfl⟩
   ·obtain rfl:=đa hi
    clear hdn hl3;rw[gs2];clear gs0 gs1 gs2 gs3 gs6;refine Zab rfl ?_
    go_wp2_with fail
    exact Zaa ⟨_,rfl,đc _ _,rfl⟩
   ·obtain rfl:=đa hi
    have dv2:f' 17 = .pointer (some ⟨XB,1,none⟩):=hdn 2 _ 17 rfl (hl3 2 (by rfl)) rfl;clear hdn hl3;rw[dv2];clear dv2 gs0 gs1 gs2 gs3 gs6;have c1:=(X1.o.step hb.o).cell 1 _ rfl;refine Zab rfl ?_
    go_wp2_with fail
    exact Zaa ⟨_,rfl,đc _ _,rfl⟩
   ·obtain rfl:=đa hi
    have dv1:f' 16 = .int .i64 yw:=hdn 1 _ 16 rfl (hl3 1 (by rfl)) rfl;have dv3:f' 18 = .int .i64 yw:=hdn 3 _ 18 rfl (hl3 3 (by rfl)) rfl;clear hdn hl3;rw[dv1,dv3];clear dv1 dv3 gs0 gs1 gs2 gs3 gs6
    have e1:(yw==yw)=true:=by simp
    refine Zab rfl ?_
    go_wp2_with fail
    exact Zaa ⟨_,rfl,đc _ _,rfl⟩
   ·obtain rfl:=đa hi
    have dv4:f' 19 = .bool true:=hdn 4 _ 19 rfl (hl3 4 (by rfl)) rfl;clear hdn hl3;rw[dv4];clear dv4 gs0 gs1 gs2 gs3 gs6;refine Zab rfl ?_
    go_wp2_with fail
    exact Zaa ⟨_,rfl,đc _ _,rfl⟩
   ·obtain rfl:=đa hi
    have dv5:f' 20 = .bool true:=hdn 5 _ 20 rfl (hl3 5 (by rfl)) rfl;clear hdn hl3;rw[gs1,dv5];clear dv5 gs0 gs1 gs2 gs3 gs6;have c1:=(R1.o.step hb.o).cell 0 _ rfl;refine Zab rfl ?_
    go_wp2_with fail
    exact Zaa ⟨_,rfl,đc _ _,rfl⟩
   ·obtain rfl:=đa hi
    have dv5:f' 20 = .bool true:=hdn 5 _ 20 rfl (hl3 5 (by rfl)) rfl;clear hdn hl3;rw[gs0,dv5];clear dv5 gs0 gs1 gs2 gs3 gs6;refine Zab rfl ?_
    go_wp2_with fail
    exact Zaa ⟨_,rfl,đc _ _,rfl⟩
   ·obtain rfl:=đa hi
    have dv5:f' 20 = .bool true:=hdn 5 _ 20 rfl (hl3 5 (by rfl)) rfl;have dv6:f' 21 = .pointer (some ⟨P,0,none⟩):=hdn 6 _ 21 rfl (hl3 6 (by rfl)) rfl;have dv7:f' 22 = .int .i64 (j:Nat):=hdn 7 _ 22 rfl (hl3 7 (by rfl)) rfl;clear hdn hl3;rw[dv5,dv6,dv7];clear dv5 dv6 dv7 gs0 gs1 gs2 gs3 gs6;refine Zab rfl ?_
    go_wp2_with fail
    refine(HPS.o w' hb.o).mono ?_;rintro e w4 ⟨⟨o,cap,rfl⟩,b4⟩;have HB4:=ħ b4;clear b4
    go_wp2_with fail
    exact Zaa ⟨_,rfl,HB4.o,o,cap,rfl⟩
   ·obtain rfl:=đa hi
    have dv5:f' 20 = .bool true:=hdn 5 _ 20 rfl (hl3 5 (by rfl)) rfl;have dv8:bkF yq yw yf yh nd lo nl lc j P YB XB pn 8 w' (f' 23):=hdn 8 _ 23 rfl (hl3 8 (by rfl)) rfl;obtain⟨o,cap,dv8⟩:=dv8;clear hdn hl3;rw[dv5,dv8];clear dv5 dv8 gs0 gs1 gs2 gs3 gs6;refine Zab rfl ?_
    go_wp2_with fail
    exact Zaa ⟨_,rfl,đc _ _,rfl⟩
   ·obtain rfl:=đa hi
    have dv5:f' 20 = .bool true:=hdn 5 _ 20 rfl (hl3 5 (by rfl)) rfl;clear hdn hl3;rw[gs6,dv5];clear dv5 gs0 gs1 gs2 gs3 gs6;have Y2:=Y1.o.step hb.o;have y0:=Y2.cell 0 _ rfl;have y1:=Y2.cell 1 _ rfl;have y2:=Y2.cell 2 _ rfl;have y3:=Y2.cell 3 _ rfl;clear Y2;refine Zab rfl ?_
    go_wp2_with fail
    exact Zaa ⟨_,rfl,đc _ _,rfl⟩
   ·obtain rfl:=đa hi
    have dv5:f' 20 = .bool true:=hdn 5 _ 20 rfl (hl3 5 (by rfl)) rfl;clear hdn hl3;rw[gs3,dv5];clear dv5 gs0 gs1 gs2 gs3 gs6;have c1:=(L1.o.step hb.o).cell 0 _ rfl;refine Zab rfl ?_
    go_wp2_with fail
    exact Zaa ⟨_,rfl,đc _ _,rfl⟩
   ·obtain rfl:=đa hi
    have dv5:f' 20 = .bool true:=hdn 5 _ 20 rfl (hl3 5 (by rfl)) rfl;have dv10:f' 25 = .agg #[.int .i64 yq,.int .i64 yw,.int .i64 yf,.int .i64 yh]:=hdn 10 _ 25 rfl (hl3 10 (by rfl)) rfl;have dv11:f' 26 = .slice lo nl lc:=hdn 11 _ 26 rfl (hl3 11 (by rfl)) rfl;clear hdn hl3;rw[dv5,dv10,dv11];clear dv5 dv10 dv11 gs0 gs1 gs2 gs3 gs6;refine Zab rfl ?_
    go_wp2_with fail
    refine(HND.o w' hb.o).mono ?_;rintro e w4 ⟨rfl,b4⟩;have HB4:=ħ b4;clear b4
    go_wp2_with fail
    exact Zaa ⟨_,rfl,HB4.o,rfl⟩
   ·obtain rfl:=đa hi
    have dv5:f' 20 = .bool true:=hdn 5 _ 20 rfl (hl3 5 (by rfl)) rfl;have dv9:f' 24 = .int .i64 (pn:Nat):=hdn 9 _ 24 rfl (hl3 9 (by rfl)) rfl;have dv12:f' 27 = .int .i64 nd:=hdn 12 _ 27 rfl (hl3 12 (by rfl)) rfl;clear hdn hl3;rw[dv5,dv9,dv12];clear dv5 dv9 dv12 gs0 gs1 gs2 gs3 gs6;refine Zab rfl ?_
    go_wp2_with fail
    exact Zaa ⟨_,rfl,đc _ _,rfl⟩
   ·obtain rfl:=đa hi
    have dv5:f' 20 = .bool true:=hdn 5 _ 20 rfl (hl3 5 (by rfl)) rfl;have dv13:f' 28 = .bool (decide ((pn:Int)<nd)):=hdn 13 _ 28 rfl (hl3 13 (by rfl)) rfl;clear hdn hl3;rw[dv5,dv13];clear dv5 dv13 gs0 gs1 gs2 gs3 gs6;refine Zab rfl ?_
    go_wp2_with fail
    exact Zaa ⟨_,rfl,đc _ _,rfl⟩
   ·obtain rfl:=đa hi
    have dv14:f' 29 = .bool (decide ((pn:Int)<nd)):=hdn 14 _ 29 rfl (hl3 14 (by rfl)) rfl;clear hdn hl3;rw[dv14];clear dv14 gs0 gs1 gs2 gs3 gs6;refine Zab rfl ?_
    go_wp2_with fail
    exact Zaa ⟨_,rfl,đc _ _,rfl⟩
  case he =>
   intro listed a' w4 H hall;have hd15:bkF yq yw yf yh nd lo nl lc j P YB XB pn 15 w4 (a'.tmps.getD 5 undef):=H.done 15 _ 5 rfl (hall 15 (by decide)) rfl;have hb4:=ħ H.below;have hact:=H.act [15,16,17,18,19,20,21,22,23,24,25,26,27,28,29,5] (Zdd (by kernel_rfl));clear H hall;simp only[List.foldl_cons,List.foldl_nil] at hact;generalize a'.tmps.getD 15 undef=z15 at *;generalize a'.tmps.getD 16 undef=z16 at *;generalize a'.tmps.getD 17 undef=z17 at *;generalize a'.tmps.getD 18 undef=z18 at *;generalize a'.tmps.getD 19 undef=z19 at *;generalize a'.tmps.getD 20 undef=z20 at *;generalize a'.tmps.getD 21 undef=z21 at *;generalize a'.tmps.getD 22 undef=z22 at *;generalize a'.tmps.getD 23 undef=z23 at *;generalize a'.tmps.getD 24 undef=z24 at *;generalize a'.tmps.getD 25 undef=z25 at *;generalize a'.tmps.getD 26 undef=z26 at *;generalize a'.tmps.getD 27 undef=z27 at *;generalize a'.tmps.getD 28 undef=z28 at *;generalize a'.tmps.getD 29 undef=z29 at *;generalize a'.tmps.getD 5 undef=z5 at *;subst hact;have e15:z5 = .bool (decide ((pn:Int)<nd)):=hd15;subst e15;clear hd15;simp only[Act.put,List.setIfInBounds_toArray,List.set_cons_succ,List.set_cons_zero]
   go_wp2
   go_ret;exact⟨by rw[HV2.o];rfl,by rw[HYB.o];exact B1.o.trans (hb4.o.mono (by rw[<- HYB.o];exact B1.o.size))⟩
 ·have hyb:(yw==xw)=false:=by simpa using hyx
  have HV2:Hid (bv=false):=ħ (by rw[HV.o];simp[hyx]);clear HV;have y1:=Y1.o.cell 1 _ rfl;have x1:=X1.o.cell 1 _ rfl
  go_quiet (fail)
  go_wp2
  go_ret;exact⟨by rw[HV2.o];rfl,by rw[HYB.o];exact below_drewN B1.o _⟩
def Zd6(c:Crw)(H C:List (List Bool))(own:List Int)(x:Use)(l:List Wsh):Bool:=Zy0 (Zcf c x) (C++[Zeo c H x]) x.w l (c.us.length:Int)||own.any (Zy0 (Zcf c x) (C++[Zeo c H x]) x.w l)
theorem Zmc(w:World)(A:Nat)(c:Crw)(H C:List (List Bool))(own:List Int)(oo:Option Addr)(oc:Nat)(x:Use)(l:List Wsh)(lo:Option Addr)(lc:Nat)(hr:Zbo w A c H C)(hok:ReckOk c C)(hus:c.us.length<=999)(hq0:0<=x.q)(hq1:x.q.toNat<H.length)(hH:∀ r∈H,r.length=c.ms.length)(hw:0<=x.w/\x.w<=15)(hown:Zan Zbg w oo own)(hol:own.length<=1000000)(hoi:∀ q∈own,Zco q c.us.length=true)(hl:Zan Z1l w lo l)(hll:l.length<=1000000) :
  Calls Tryz.prog 104 #[.pointer (some ⟨A,0,none⟩),.slice oo own.length oc,.agg (Zcg x).toArray,.slice lo l.length lc] w fun e w'=>e = .returned (.bool (Zd6 c H C own x l))/\Below w.heap.size w w':=by
 have hM:=hok.nm;have HWT:=ħ (fun W (hW:Below w.heap.size w W)=>Zr8 W A c H C x (hr.below hW) hq0 hq1 hH (by omega) (by omega) (by rw[hok.len];omega));have HOK2:=ħ (Zj4 hok hw (Zf0 c H x) hus);have HBV:Hid (Zd6 c H C own x l=(Zy0 (Zcf c x) (C++[Zeo c H x]) x.w l (c.us.length:Int)||own.any (Zy0 (Zcf c x) (C++[Zeo c H x]) x.w l))):=ħ rfl;have HWL:Hid ((Zcf c x).us.length=c.us.length+1):=ħ (by show(c.us++[x]).length=_;rw[đn];rfl)
 have HOI:Hid (∀ q∈own,Zco q (Zcf c x).us.length=true):=ħ (fun q hq=>by
  obtain⟨k,rfl,hk⟩:=Zbx (hoi q hq);rw[HWL.o];unfold Zco inB
  rw[decide_eq_true (by omega),decide_eq_true (by omega)];rfl)
 have HOX:Hid (Zco (c.us.length:Int) (Zcf c x).us.length=true):=ħ (by
  rw[HWL.o];unfold Zco inB
  rw[decide_eq_true (by omega),decide_eq_true (by omega)];rfl)
 have HOW:=ħ (fun W (hW:Below w.heap.size w W)=>hown.below hW);have HLW:=ħ (fun W (hW:Below w.heap.size w W)=>hl.below hW)
 have HAW:Hid (∀ W,Below w.heap.size w W->∃ uo uc,W.cell? ⟨A,2,none⟩=some (.slice uo c.us.length uc)):=ħ (fun W hW=>by
  obtain⟨qo,mo,uo,ho,co,qc,mc,uc,hc,cc,hA,hR,-⟩:=hr.below hW
  exact⟨uo,uc,hA.cell 2 _ rfl⟩)
 have HUX:Hid (Zcg x=[.int .i64 x.q,.int .i64 x.w,.int .i64 x.f,.int .i64 x.h]):=ħ rfl;obtain⟨X1,L1,B1⟩:=Zcw w 39 56 [.int .i64 x.q,.int .i64 x.w,.int .i64 x.f,.int .i64 x.h] [.slice lo l.length lc];have X1:=ħ X1;have L1:=ħ L1;have B1:=ħ B1;have HB1:Hid (∀ RB P,intFn (fun W=>Z4j W RB w.heap.size (w.heap.size+1) P (Zcf c x) H (C++[Zeo c H x]) x l lo lc) 156 #[.pointer (some ⟨RB,0,none⟩),.pointer (some ⟨w.heap.size,0,none⟩),.pointer (some ⟨w.heap.size+1,0,none⟩)] (fun u=>Zy0 (Zcf c x) (C++[Zeo c H x]) x.w l u) (fun u=>Zco u (Zcf c x).us.length=true)):=ħ (fun RB P=>Z0t RB w.heap.size (w.heap.size+1) P (Zcf c x) H (C++[Zeo c H x]) x l lo lc HOK2.o hll);clear hr hok hown hoi hl hH;generalize hbr:(fun u=>Zy0 (Zcf c x) (C++[Zeo c H x]) x.w l u)=br at *;have HBR:Hid (Zd6 c H C own x l=(br (c.us.length:Int)||own.any br)):=ħ (by rw[<- hbr];exact HBV.o);clear HBV hbr;generalize Zd6 c H C own x l=BV at *;rw[HUX.o] at HWT ⊢;clear HUX;generalize c.us.length=nu at *
 go_enter Tryz.func104,Tryz.ntmps104
 go_upto_region 1 with(fail)
 generalize (w.alloc (.cells #[.int .i64 x.q,.int .i64 x.w,.int .i64 x.f,.int .i64 x.h] 39)).alloc (.cells #[.slice lo l.length lc] 56)=w1 at *;have x0:=X1.o.cell 0 _ rfl;have x1:=X1.o.cell 1 _ rfl;have x2:=X1.o.cell 2 _ rfl;have x3:=X1.o.cell 3 _ rfl;have HW1:=ħ (HWT.o w1 B1.o);clear HWT
 go_wp2_with fail
 refine HW1.o.mono ?_;rintro e w2 ⟨P,rfl,hP,-,b2⟩;have HP:=ħ hP;have B2:=ħ (B1.o.trans (b2.mono B1.o.size));have X2:=ħ (X1.o.step b2);have L2:=ħ (L1.o.step b2);clear x0 x1 x2 x3 b2 hP HW1 B1 X1 L1
 go_upto_region 2 with(fail)
 have bz:=(đc w2.heap.size w2).alloc (đd _) (.cells #[.pointer (some ⟨P,0,none⟩)] 102);have R3:Hid (Zae (w2.alloc (.cells #[.pointer (some ⟨P,0,none⟩)] 102)) w2.heap.size 102 [.pointer (some ⟨P,0,none⟩)]):=ħ (heap_alloc_new _ _);have HP3:=ħ (HP.o.below bz);have B3:=ħ (B2.o.trans (bz.mono B2.o.size));have X3:=ħ (X2.o.step bz);have L3:=ħ (L2.o.step bz);clear bz HP B2 X2 L2;generalize w2.alloc (.cells #[.pointer (some ⟨P,0,none⟩)] 102)=w3 at *;generalize w2.heap.size=RB at *;have HFN:=ħ (HB1.o RB P);clear HB1;have HC3:Hid (Z4j w3 RB w.heap.size (w.heap.size+1) P (Zcf c x) H (C++[Zeo c H x]) x l lo lc):=ħ ⟨R3.o,X3.o,L3.o,HP3.o,HLW.o w3 B3.o⟩;clear R3 X3 L3 HP3;obtain⟨uo,uc,a2⟩:=HAW.o w3 B3.o;have eg:=HFN.o.enters;have HCL:=ħ (HFN.o.calls (nu:Int) w3 HOX.o HC3.o);obtain⟨b1,hb1⟩:∃ y,br (nu:Int)=y:=⟨_,rfl⟩;rw[hb1] at HCL HBR;clear hb1
 go_wp2_with fail
 refine HCL.o.mono ?_;rintro e w4 ⟨rfl,b4⟩;have B4:=ħ (B3.o.trans (b4.mono B3.o.size));have HC4:=ħ (HFN.o.step _ _ HC3.o b4);clear b4 HCL HC3 a2 B3
 cases b1 with
 | true =>
  have HB2:Hid (BV=true):=ħ (by rw[HBR.o];rfl)
  go_wp2_with fail
  go_ret;exact⟨by rw[HB2.o];rfl,B4.o⟩
 | false =>
  have HCF:=ħ (Zd5 w4 own oo own.length oc rfl hol (HOW.o w4 B4.o) _ _ _ _ _ HFN.o HOI.o HC4.o);have HB2:Hid (BV=own.any br):=ħ (by rw[HBR.o];rfl);clear HBR;generalize own.any br=b2 at *;generalize own.length=on at *
  go_wp2_with fail
  refine HCF.o.mono ?_;rintro e w5 ⟨rfl,b5⟩;have B5:=ħ (B4.o.trans (b5.mono B4.o.size));clear b5 HCF
  go_wp2_with fail
  go_ret;exact⟨by rw[HB2.o];rfl,B5.o⟩
end
section
open Go.RowKit Go.Sort Go.Maps
def Zxq(c:Crw)(own:List Int):Bool:=!own.any (fun q=>!Zco q c.us.length)
theorem Z0u{c:Crw}{own:List Int}(h:Zxq c own=true):∀ q∈own,Zco q c.us.length=true:=fun q hq=>by
 unfold Zxq at h;rw[Bool.not_eq_true',List.any_eq_false] at h;have:=h q hq;simpa using this
def Zsk(c:Crw)(own:List Int)(x:Use)(l:List Wsh):Bool:=Zea c x&&Zxq c own&&!Zd6 c (Zaj c) (Za7 c) own x l
theorem Zct{c:Crw}{x:Use}(h:Zea c x=true):Zal c=true/\0<=x.q/\x.q.toNat<(Zaj c).length/\0<=x.w/\x.w<=15:=by
 unfold Zea at h;rw[đi] at h;have hq:=Zfc h.2;exact⟨h.1,hq.1,by rw[Zdw];exact hq.2.1,hq.2.2.1,hq.2.2.2.1⟩
theorem Zxr(w:World)(c:Crw)(cs:List Value)(B:Nat)(own:List Int)(oo:Option Addr)(oc:Nat)(x:Use)(l:List Wsh)(lo:Option Addr)(lc:Nat)(ha:ArgC w c cs B)(hown:Zan Zbg w oo own)(hol:own.length<=1000000)(hl:Zan Z1l w lo l)(hll:l.length<=1000000) :
  Calls Tryz.prog 33 #[.agg cs.toArray,.slice oo own.length oc,.agg (Zcg x).toArray,.slice lo l.length lc] w fun e w'=>e = .returned (.bool (Zsk c own x l))/\Below w.heap.size w w':=by
 have HPL:=ħ (fun W (hW:Below w.heap.size w W)=>Znh W c cs B x (ha.below hW));have HNU:=ha.nu;have hnq0:=ha.ok.nq;have hnm0:=ha.ok.nm;have HPA:Hid (Zsk c own x l=(Zea c x&&Zxq c own&&!Zd6 c (Zaj c) (Za7 c) own x l)):=ħ rfl;have HOW:=ħ (fun W (hW:Below w.heap.size w W)=>Zsh W c cs own oo oc (ha.crw.below hW) (by omega) (hown.below hW) hol);have HBK:=ħ (fun W A (hW:Below w.heap.size w W) (h:Zbo W A c (Zaj c) (Za7 c)) (hp:Zea c x=true) (ho:Zxq c own=true)=>Zmc W A c (Zaj c) (Za7 c) own oo oc x l lo lc h (Zaw (Zct hp).1 (by omega)) HNU (Zct hp).2.1 (Zct hp).2.2.1 Ze1 ⟨(Zct hp).2.2.2.1,(Zct hp).2.2.2.2⟩ (hown.below hW) hol (Z0u ho) (hl.below hW) hll);obtain⟨qo,qc,mo,mc,uo,uc,rfl,-,-,-⟩:=ha.crw;unfold Zxp at HPL;have HOE:Hid (Zxq c own=!own.any (fun q=>!Zco q c.us.length)):=ħ rfl;rw[<- HOE.o] at HOW;clear ha hown hl HOE;generalize Zsk c own x l=PA at *;generalize hob:Zxq c own=ob at *;generalize hpb:Zea c x=pb at *;generalize Zd6 c (Zaj c) (Za7 c) own x l=bk at *;clear hob hpb;have HUX:Hid (Zcg x=[.int .i64 x.q,.int .i64 x.w,.int .i64 x.f,.int .i64 x.h]):=ħ rfl;rw[HUX.o] at HPL HBK ⊢;generalize c.qs.length=nq at *;generalize c.ms.length=nm at *;generalize c.us.length=nu at *;generalize own.length=on at *;generalize l.length=nl at *;obtain⟨X1,U1,B1⟩:=Zcw w 26 39 [.slice qo nq qc,.slice mo nm mc,.slice uo nu uc] [.int .i64 x.q,.int .i64 x.w,.int .i64 x.f,.int .i64 x.h];have X1:=ħ X1;have U1:=ħ U1;have B1:=ħ B1;clear HUX;generalize x.w=x1 at *;generalize x.f=x2 at *;generalize x.h=x3 at *;generalize x.q=x0 at *
 go_enter Tryz.func33,Tryz.ntmps33
 go_upto_region 1 with(fail)
 generalize (w.alloc (.cells #[.slice qo nq qc,.slice mo nm mc,.slice uo nu uc] 26)).alloc (.cells #[.int .i64 x0,.int .i64 x1,.int .i64 x2,.int .i64 x3] 39)=w1 at *;have c0:=X1.o.cell 0 _ rfl;have c1:=X1.o.cell 1 _ rfl;have c2:=X1.o.cell 2 _ rfl;have p0:=U1.o.cell 0 _ rfl;have p1:=U1.o.cell 1 _ rfl;have p2:=U1.o.cell 2 _ rfl;have p3:=U1.o.cell 3 _ rfl;have HCL:=ħ (HPL.o w1 B1.o);clear HPL
 go_wp2_with fail
 refine HCL.o.mono ?_;intro e w2 hq;obtain⟨b2,hres⟩:=hq;have B2:=ħ (B1.o.trans (b2.mono B1.o.size));have X2:=ħ (X1.o.step b2);have U2:=ħ (U1.o.step b2);clear b2 c0 c1 c2 p0 p1 p2 p3 B1 X1 U1 HCL
 cases pb with
 | false =>
  rw[if_neg (by decide)] at hres;subst hres;have HPN:Hid (PA=false):=ħ (by rw[HPA.o];rfl);clear HPA
  go_wp2_with fail
  go_ret;exact⟨by rw[HPN.o];rfl,B2.o⟩
 | true =>
  rw[if_pos rfl] at hres;obtain⟨A,rfl,hR,-⟩:=hres;have HR:=ħ hR;clear hR;have c0:=X2.o.cell 0 _ rfl;have c1:=X2.o.cell 1 _ rfl;have c2:=X2.o.cell 2 _ rfl;have HO2:=ħ (HOW.o w2 B2.o);clear HOW
  go_wp2_with fail
  refine HO2.o.mono ?_;rintro e w3 ⟨rfl,b3⟩;have B3:=ħ (B2.o.trans (b3.mono B2.o.size));have U3:=ħ (U2.o.step b3);have HR3:=ħ (HR.o.below b3);clear b3 c0 c1 c2 HO2 HR B2 X2 U2
  cases ob with
  | false =>
   have HPN:Hid (PA=false):=ħ (by rw[HPA.o];rfl);clear HPA
   go_wp2_with fail
   go_ret;exact⟨by rw[HPN.o];rfl,B3.o⟩
  | true =>
   have HPN:Hid (PA=!bk):=ħ (by rw[HPA.o];rfl);have HB3:=ħ (HBK.o w3 A B3.o HR3.o (by first | rfl | trivial) (by first | rfl | trivial));have p0:=U3.o.cell 0 _ rfl;have p1:=U3.o.cell 1 _ rfl;have p2:=U3.o.cell 2 _ rfl;have p3:=U3.o.cell 3 _ rfl;clear HPA HBK
   go_wp2_with fail
   refine HB3.o.mono ?_;rintro e w4 ⟨rfl,b4⟩;have B4:=ħ (B3.o.trans (b4.mono B3.o.size));clear b4 HB3 p0 p1 p2 p3
   go_wp2_with fail
   go_ret;exact⟨by rw[HPN.o];rfl,B4.o⟩
end
end Go.Proofs.YtbcgocpihobjnaaGreatDoor
