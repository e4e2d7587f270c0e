import Derived.Test.YtbcgocpihobjnaaGreatDoorCC29
import Derived.Test.YtbcgocpihobjnaaGreatDoorCC25
set_option linter.all false
set_option maxHeartbeats 16000000
set_option maxRecDepth 100000
namespace Go.Proofs.YtbcgocpihobjnaaGreatDoor
open Go.RowKit Go.Sort Go.Maps
theorem Ztf(w:World)(l r:List Nat)(c:Int)(ao:Option Addr)(n cap:Nat)(hl:NmB l)(hr:NmB r) :
  Calls Tryz.prog 171 #[.agg #[.int .i64 0,.string (Zad l),.string (Zad r),.int .i64 c,.slice ao n cap]] w fun e w'=>e = .returned (.bool (Zd9 0 l r c n))/\RowKit.Below w.heap.size w w':=by
 have bx:=(đc w.heap.size w).alloc (đd _) (.cells #[.int .i64 0,.string (Zad l),.string (Zad r),.int .i64 c,.slice ao n cap] 54);have B1:=ħ bx;have X1:Hid (Zae (w.alloc (.cells #[.int .i64 0,.string (Zad l),.string (Zad r),.int .i64 c,.slice ao n cap] 54)) w.heap.size 54 [.int .i64 0,.string (Zad l),.string (Zad r),.int .i64 c,.slice ao n cap]):=ħ (heap_alloc_new w _);have HA:=ħ (fun W=>Zs4 0 l r c ao n cap W hl hr);clear bx hl hr;generalize Zd9 0 l r c n=V at *;generalize Zad l=y at *;generalize Zad r=z at *
 go_enter Tryz.func171,Tryz.ntmps171
 go_upto_region 1 with(fail)
 generalize w.alloc (.cells #[.int .i64 0,.string y,.string z,.int .i64 c,.slice ao n cap] 54)=w1 at *;have x0:=X1.o.cell 0 _ rfl
 go_wp2_with (refine wpList_load_row rfl 54 (.tmp 1) rfl w.heap.size ?x1 54 #[.int .i64 0,.string y,.string z,.int .i64 c,.slice ao n cap] (0,0) _ X1.o Tryz.underlying54 rfl (Za4 _ rfl) ?_;(case x1=>rfl))
 refine(HA.o w1).mono ?_;rintro e w2 ⟨rfl,b2⟩;have B2:=ħ (B1.o.trans (b2.mono B1.o.size));clear b2
 go_wp2
 go_ret;exact⟨rfl,B2.o⟩
theorem Zl3 (w:World) (P:Nat->Prop) (κ:Int) (l r:List Nat) (c:Int) (ks:List Prd) (ao:Option Addr) (n cap:Nat) (hκ:κ≠0) (hn:n=ks.length) (hbig:n<=1000000) (hk:Zvx w P ks ao)
  (ih:∀ (q:Prd) (w:World) (vs:List Value),q∈ks->Zao w P q vs->Calls Tryz.prog 171 #[.agg vs.toArray] w fun e w'=>e = .returned (.bool (Zay q))/\RowKit.Below w.heap.size w w') :
  Calls Tryz.prog 171 #[.agg #[.int .i64 κ,.string (Zad l),.string (Zad r),.int .i64 c,.slice ao n cap]] w fun e w'=>e = .returned (.bool (Zay (.mk κ l r c ks)))/\RowKit.Below w.heap.size w w':=by
 have HV:Hid (Zay (.mk κ l r c ks)=(Zdk κ n c&&(l==[]&&(r==[]&&ks.all Zay)))):=ħ (by
  rw[Zfz,if_neg hκ,hn]
  have:(!(ks.any (fun q=>!Zay q)))=ks.all Zay:=by
   rw[Bool.eq_iff_iff,Bool.not_eq_true',List.any_eq_false,List.all_eq_true];simp
  rw[this])
 obtain⟨V,hV⟩:∃ V,Zay (.mk κ l r c ks)=V:=⟨_,rfl⟩;rw[hV] at HV ⊢;clear hV;have HK:=ħ (fun W (hW:RowKit.Below w.heap.size w W)=>hk.below hW);have IH:=ħ ih;have HN:=ħ hn;have bx:=(đc w.heap.size w).alloc (đd _) (.cells #[.int .i64 κ,.string (Zad l),.string (Zad r),.int .i64 c,.slice ao n cap] 54);have B1:=ħ bx;have X1:Hid (Zae (w.alloc (.cells #[.int .i64 κ,.string (Zad l),.string (Zad r),.int .i64 c,.slice ao n cap] 54)) w.heap.size 54 [.int .i64 κ,.string (Zad l),.string (Zad r),.int .i64 c,.slice ao n cap]):=ħ (heap_alloc_new w _)
 have HLE:Hid ((Zad l).toList.isEmpty=(l==[])/\(Zad r).toList.isEmpty=(r==[])):=ħ (by
  have:∀ m:List Nat,(Zad m).toList.isEmpty=(m==[]):=fun m=>by
   cases m with
   | nil=>exact Zc3.trans rfl
   | cons a b=>rw[Zdf _ (by simp)];rfl
  exact⟨this l,this r⟩)
 have hle1:=HLE.o.1;have hle2:=HLE.o.2;generalize (l==[])=e1 at *;generalize (r==[])=e2 at *;have HK0:=ħ hκ;clear bx hk ih hn HLE hκ;generalize Zad l=y at *;generalize Zad r=z at *
 go_enter Tryz.func171,Tryz.ntmps171
 go_upto_region 1 with(fail)
 generalize w.alloc (.cells #[.int .i64 κ,.string y,.string z,.int .i64 c,.slice ao n cap] 54)=w1 at *;by_cases k1:κ=1
 ·subst k1
  by_cases n2:2<=n
  ·have n2i:(2:Int)<=n:=by omega
   by_cases c0:c=0
   ·subst c0
    have HA:Hid (V=(e1&&(e2&&ks.all Zay))):=ħ (by rw[HV.o,show Zdk 1 n 0=true from by unfold Zdk;simp;omega,đk]);have x0:=X1.o.cell 0 _ rfl;have x1:=X1.o.cell 1 _ rfl;have x2:=X1.o.cell 2 _ rfl;have x3:=X1.o.cell 3 _ rfl;have x4:=X1.o.cell 4 _ rfl
    cases e1 with
    | false =>
     have HX:Hid (V=false):=ħ (by rw[HA.o];rfl)
     go_wp2
     go_ret;exact⟨Zac HX.o.symm,B1.o⟩
    | true =>
     cases e2 with
     | false =>
      have HX:Hid (V=false):=ħ (by rw[HA.o];rfl)
      go_wp2
      go_ret;exact⟨Zac HX.o.symm,B1.o⟩
     | true =>
      have S0:Hid (V=(ks.drop 0).all Zay):=ħ (by rw[HA.o];rfl)
      go_wp2_with fail
      clear x0 x1 x2 x3 x4
      go_loopw [6] (fun cc wr=>∃ (i:Nat),cc = .int .i64 i/\i<=n/\Hid (RowKit.Below w.heap.size w wr)/\Hid (Zae wr w.heap.size 54 [.int .i64 1,.string y,.string z,.int .i64 0,.slice ao n cap])/\Hid (V=(ks.drop i).all Zay)) (fun c _=>(n-intOf c).toNat)
      case atStart=>exact⟨0,rfl,by omega,B1,X1,S0⟩
      case round =>
       clear S0 B1 X1 HA HV;obtain⟨i,rfl,hi,hw,hx,hv⟩:=hrel;have ei:IntKind.i64.wrap ((i:Int)+1)=((i+1:Nat):Int):=đh _ (by omega);by_cases hlt:i<n
       ·have ii:(i:Int)<n:=by omega
        obtain⟨q,hqi,g,off,hao,hg,us,hpc,hrd⟩:=(HK.o wr hw.o).get (i:=i) (by rw[<- HN.o];exact hlt);have HST:=ħ (hv.o.trans (Zjs Zay ks i q hqi));have HIH:=ħ (IH.o q wr us (đe hqi) hpc);obtain⟨xa,xn,xc,rfl,-⟩:=hpc.form;have s0:=hrd 0 _ rfl;have s1:=hrd 1 _ rfl;have s2:=hrd 2 _ rfl;have s3:=hrd 3 _ rfl;have s4:=hrd 4 _ rfl;rw[Nat.add_zero] at s0;have x4:=hx.o.cell 4 _ rfl;have HAO:=ħ hao;clear hrd hpc hqi hv;subst hao;generalize Zay q=rb at *;generalize q.k=q0 at *;generalize Zad q.l=q1 at *;generalize Zad q.r=q2 at *;generalize q.c=q3 at *
        go_wp2_with fail
        refine HIH.o.mono ?_;rintro e w3 ⟨rfl,b3⟩;have B3:=ħ (hw.o.trans (b3.mono hw.o.size));have X3:=ħ (hx.o.step b3);clear b3 hw hx s0 s1 s2 s3 s4 x4 HIH
        cases rb with
        | false =>
         have HX:Hid (V=false):=ħ (by rw[HST.o];rfl)
         go_wp2
         go_ret;exact⟨Zac HX.o.symm,B3.o⟩
        | true =>
         have HX:Hid (V=(ks.drop (i+1)).all Zay):=ħ (by rw[HST.o,đk])
         go_wp2
         go_roundw
         case rel=>exact⟨i+1,by go_num,by omega,B3,X3,HX⟩
         case measure=>simp only[intOf];omega
       ·have ii:¬ ((i:Int)<n):=by omega
        have HX:Hid (V=true):=ħ (by rw[hv.o,List.drop_eq_nil_of_le (by rw[<- HN.o];omega)];rfl)
        go_wp2
        go_ret;exact⟨Zac HX.o.symm,hw.o⟩
   ·have c0b:(c==0)=false:=beq_eq_false_iff_ne.mpr c0
    have HX:Hid (V=false):=ħ (by rw[HV.o,show Zdk 1 n c=false from by unfold Zdk;simp[c0b]];rfl);have x0:=X1.o.cell 0 _ rfl;have x1:=X1.o.cell 1 _ rfl;have x2:=X1.o.cell 2 _ rfl;have x3:=X1.o.cell 3 _ rfl;have x4:=X1.o.cell 4 _ rfl
    go_wp2
    go_ret;exact⟨Zac HX.o.symm,B1.o⟩
  ·have n2i:¬ ((2:Int)<=n):=by omega
   have HX:Hid (V=false):=ħ (by rw[HV.o,show Zdk 1 n c=false from by unfold Zdk;simp;omega];rfl);have x0:=X1.o.cell 0 _ rfl;have x1:=X1.o.cell 1 _ rfl;have x2:=X1.o.cell 2 _ rfl;have x3:=X1.o.cell 3 _ rfl;have x4:=X1.o.cell 4 _ rfl
   go_wp2
   go_ret;exact⟨Zac HX.o.symm,B1.o⟩
 ·have k1b:(κ==1)=false:=beq_eq_false_iff_ne.mpr k1
  by_cases k2:κ=2
  ·subst k2
   by_cases n2:2<=n
   ·have n2i:(2:Int)<=n:=by omega
    by_cases c0:c=0
    ·subst c0
     have HA:Hid (V=(e1&&(e2&&ks.all Zay))):=ħ (by rw[HV.o,show Zdk 2 n 0=true from by unfold Zdk;simp;omega,đk]);have x0:=X1.o.cell 0 _ rfl;have x1:=X1.o.cell 1 _ rfl;have x2:=X1.o.cell 2 _ rfl;have x3:=X1.o.cell 3 _ rfl;have x4:=X1.o.cell 4 _ rfl
     cases e1 with
     | false =>
      have HX:Hid (V=false):=ħ (by rw[HA.o];rfl)
      go_wp2
      go_ret;exact⟨Zac HX.o.symm,B1.o⟩
     | true =>
      cases e2 with
      | false =>
       have HX:Hid (V=false):=ħ (by rw[HA.o];rfl)
       go_wp2
       go_ret;exact⟨Zac HX.o.symm,B1.o⟩
      | true =>
       have S0:Hid (V=(ks.drop 0).all Zay):=ħ (by rw[HA.o];rfl)
       go_wp2_with fail
       clear x0 x1 x2 x3 x4
       go_loopw [6] (fun cc wr=>∃ (i:Nat),cc = .int .i64 i/\i<=n/\Hid (RowKit.Below w.heap.size w wr)/\Hid (Zae wr w.heap.size 54 [.int .i64 2,.string y,.string z,.int .i64 0,.slice ao n cap])/\Hid (V=(ks.drop i).all Zay)) (fun c _=>(n-intOf c).toNat)
       case atStart=>exact⟨0,rfl,by omega,B1,X1,S0⟩
       case round =>
        clear S0 B1 X1 HA HV;obtain⟨i,rfl,hi,hw,hx,hv⟩:=hrel;have ei:IntKind.i64.wrap ((i:Int)+1)=((i+1:Nat):Int):=đh _ (by omega);by_cases hlt:i<n
        ·have ii:(i:Int)<n:=by omega
         obtain⟨q,hqi,g,off,hao,hg,us,hpc,hrd⟩:=(HK.o wr hw.o).get (i:=i) (by rw[<- HN.o];exact hlt);have HST:=ħ (hv.o.trans (Zjs Zay ks i q hqi));have HIH:=ħ (IH.o q wr us (đe hqi) hpc);obtain⟨xa,xn,xc,rfl,-⟩:=hpc.form;have s0:=hrd 0 _ rfl;have s1:=hrd 1 _ rfl;have s2:=hrd 2 _ rfl;have s3:=hrd 3 _ rfl;have s4:=hrd 4 _ rfl;rw[Nat.add_zero] at s0;have x4:=hx.o.cell 4 _ rfl;have HAO:=ħ hao;clear hrd hpc hqi hv;subst hao;generalize Zay q=rb at *;generalize q.k=q0 at *;generalize Zad q.l=q1 at *;generalize Zad q.r=q2 at *;generalize q.c=q3 at *
         go_wp2_with fail
         refine HIH.o.mono ?_;rintro e w3 ⟨rfl,b3⟩;have B3:=ħ (hw.o.trans (b3.mono hw.o.size));have X3:=ħ (hx.o.step b3);clear b3 hw hx s0 s1 s2 s3 s4 x4 HIH
         cases rb with
         | false =>
          have HX:Hid (V=false):=ħ (by rw[HST.o];rfl)
          go_wp2
          go_ret;exact⟨Zac HX.o.symm,B3.o⟩
         | true =>
          have HX:Hid (V=(ks.drop (i+1)).all Zay):=ħ (by rw[HST.o,đk])
          go_wp2
          go_roundw
          case rel=>exact⟨i+1,by go_num,by omega,B3,X3,HX⟩
          case measure=>simp only[intOf];omega
        ·have ii:¬ ((i:Int)<n):=by omega
         have HX:Hid (V=true):=ħ (by rw[hv.o,List.drop_eq_nil_of_le (by rw[<- HN.o];omega)];rfl)
         go_wp2
         go_ret;exact⟨Zac HX.o.symm,hw.o⟩
    ·have c0b:(c==0)=false:=beq_eq_false_iff_ne.mpr c0
     have HX:Hid (V=false):=ħ (by rw[HV.o,show Zdk 2 n c=false from by unfold Zdk;simp[c0b]];rfl);have x0:=X1.o.cell 0 _ rfl;have x1:=X1.o.cell 1 _ rfl;have x2:=X1.o.cell 2 _ rfl;have x3:=X1.o.cell 3 _ rfl;have x4:=X1.o.cell 4 _ rfl
     go_wp2
     go_ret;exact⟨Zac HX.o.symm,B1.o⟩
   ·have n2i:¬ ((2:Int)<=n):=by omega
    have HX:Hid (V=false):=ħ (by rw[HV.o,show Zdk 2 n c=false from by unfold Zdk;simp;omega];rfl);have x0:=X1.o.cell 0 _ rfl;have x1:=X1.o.cell 1 _ rfl;have x2:=X1.o.cell 2 _ rfl;have x3:=X1.o.cell 3 _ rfl;have x4:=X1.o.cell 4 _ rfl
    go_wp2
    go_ret;exact⟨Zac HX.o.symm,B1.o⟩
  ·have k2b:(κ==2)=false:=beq_eq_false_iff_ne.mpr k2
   by_cases k3:κ=3
   ·subst k3
    by_cases c1:1<=c
    ·by_cases cn:c<=(n:Int)
     ·skip
      have HA:Hid (V=(e1&&(e2&&ks.all Zay))):=ħ (by rw[HV.o,show Zdk 3 n c=true from by unfold Zdk;simp[c1,cn],đk]);have x0:=X1.o.cell 0 _ rfl;have x1:=X1.o.cell 1 _ rfl;have x2:=X1.o.cell 2 _ rfl;have x3:=X1.o.cell 3 _ rfl;have x4:=X1.o.cell 4 _ rfl
      cases e1 with
      | false =>
       have HX:Hid (V=false):=ħ (by rw[HA.o];rfl)
       go_wp2
       go_ret;exact⟨Zac HX.o.symm,B1.o⟩
      | true =>
       cases e2 with
       | false =>
        have HX:Hid (V=false):=ħ (by rw[HA.o];rfl)
        go_wp2
        go_ret;exact⟨Zac HX.o.symm,B1.o⟩
       | true =>
        have S0:Hid (V=(ks.drop 0).all Zay):=ħ (by rw[HA.o];rfl)
        go_wp2_with fail
        clear x0 x1 x2 x3 x4
        go_loopw [6] (fun cc wr=>∃ (i:Nat),cc = .int .i64 i/\i<=n/\Hid (RowKit.Below w.heap.size w wr)/\Hid (Zae wr w.heap.size 54 [.int .i64 3,.string y,.string z,.int .i64 c,.slice ao n cap])/\Hid (V=(ks.drop i).all Zay)) (fun c _=>(n-intOf c).toNat)
        case atStart=>exact⟨0,rfl,by omega,B1,X1,S0⟩
        case round =>
         clear S0 B1 X1 HA HV;obtain⟨i,rfl,hi,hw,hx,hv⟩:=hrel;have ei:IntKind.i64.wrap ((i:Int)+1)=((i+1:Nat):Int):=đh _ (by omega);by_cases hlt:i<n
         ·have ii:(i:Int)<n:=by omega
          obtain⟨q,hqi,g,off,hao,hg,us,hpc,hrd⟩:=(HK.o wr hw.o).get (i:=i) (by rw[<- HN.o];exact hlt);have HST:=ħ (hv.o.trans (Zjs Zay ks i q hqi));have HIH:=ħ (IH.o q wr us (đe hqi) hpc);obtain⟨xa,xn,xc,rfl,-⟩:=hpc.form;have s0:=hrd 0 _ rfl;have s1:=hrd 1 _ rfl;have s2:=hrd 2 _ rfl;have s3:=hrd 3 _ rfl;have s4:=hrd 4 _ rfl;rw[Nat.add_zero] at s0;have x4:=hx.o.cell 4 _ rfl;have HAO:=ħ hao;clear hrd hpc hqi hv;subst hao;generalize Zay q=rb at *;generalize q.k=q0 at *;generalize Zad q.l=q1 at *;generalize Zad q.r=q2 at *;generalize q.c=q3 at *
          go_wp2_with fail
          refine HIH.o.mono ?_;rintro e w3 ⟨rfl,b3⟩;have B3:=ħ (hw.o.trans (b3.mono hw.o.size));have X3:=ħ (hx.o.step b3);clear b3 hw hx s0 s1 s2 s3 s4 x4 HIH
          cases rb with
          | false =>
           have HX:Hid (V=false):=ħ (by rw[HST.o];rfl)
           go_wp2
           go_ret;exact⟨Zac HX.o.symm,B3.o⟩
          | true =>
           have HX:Hid (V=(ks.drop (i+1)).all Zay):=ħ (by rw[HST.o,đk])
           go_wp2
           go_roundw
           case rel=>exact⟨i+1,by go_num,by omega,B3,X3,HX⟩
           case measure=>simp only[intOf];omega
         ·have ii:¬ ((i:Int)<n):=by omega
          have HX:Hid (V=true):=ħ (by rw[hv.o,List.drop_eq_nil_of_le (by rw[<- HN.o];omega)];rfl)
          go_wp2
          go_ret;exact⟨Zac HX.o.symm,hw.o⟩
     ·skip
      have HX:Hid (V=false):=ħ (by rw[HV.o,show Zdk 3 n c=false from by unfold Zdk;simp[cn]];rfl);have x0:=X1.o.cell 0 _ rfl;have x1:=X1.o.cell 1 _ rfl;have x2:=X1.o.cell 2 _ rfl;have x3:=X1.o.cell 3 _ rfl;have x4:=X1.o.cell 4 _ rfl
      go_wp2
      go_ret;exact⟨Zac HX.o.symm,B1.o⟩
    ·skip
     have HX:Hid (V=false):=ħ (by rw[HV.o,show Zdk 3 n c=false from by unfold Zdk;simp[c1]];rfl);have x0:=X1.o.cell 0 _ rfl;have x1:=X1.o.cell 1 _ rfl;have x2:=X1.o.cell 2 _ rfl;have x3:=X1.o.cell 3 _ rfl;have x4:=X1.o.cell 4 _ rfl
     go_wp2
     go_ret;exact⟨Zac HX.o.symm,B1.o⟩
   ·have k3b:(κ==3)=false:=beq_eq_false_iff_ne.mpr k3
    have k0b:(κ==0)=false:=beq_eq_false_iff_ne.mpr HK0.o;have HX:Hid (V=false):=ħ (by rw[HV.o,show Zdk κ n c=false from by unfold Zdk;simp[k1b,k2b,k3b]];rfl);have x0:=X1.o.cell 0 _ rfl;have x1:=X1.o.cell 1 _ rfl;have x2:=X1.o.cell 2 _ rfl;have x3:=X1.o.cell 3 _ rfl;have x4:=X1.o.cell 4 _ rfl
    go_wp2
    go_ret;exact⟨Zac HX.o.symm,B1.o⟩
theorem Zjv:∀ (N:Nat) (p:Prd) (w:World) (P:Nat->Prop) (vs:List Value),Zb0 p<=N->N<=1000000->Zon p->Zao w P p vs ->
  Calls Tryz.prog 171 #[.agg vs.toArray] w fun e w'=>e = .returned (.bool (Zay p))/\RowKit.Below w.heap.size w w'
 | 0,p,w,P,vs,hN,_,_,_=>by have:=Zek p;omega
 | N+1,.mk κ l r c ks,w,P,vs,hN,hM,hb,h=>by
  have hc2:Zb2 ks<=N:=by unfold Zb0 at hN;omega
  have hl:=Zbq ks;unfold Zao at h;unfold Zon at hb;obtain⟨ao,cap,rfl,hk⟩:=h;by_cases hκ:κ=0
  ·subst hκ
   have:=Ztf w l r c ao ks.length cap hb.1 hb.2.1;rw[Zfz,if_pos rfl];exact this
  ·exact Zl3 w P κ l r c ks ao ks.length cap hκ rfl (by omega) hk (fun q w' us hq hpc=>Zjv N q w' P us (by
    obtain⟨i,hi⟩:=đs.1 hq;have:=Zel ks i q hi
    omega) (by omega) ((Zfy ks).1 hb.2.2 q hq) hpc)
theorem Zrw(M L:Nat)(h:∀ q,Zgg M L q<=M->Zi1 q<=L):∀ (ks:List Prd) (n:Nat),Zia M L n ks<=M->Zsr ks<=L
 | [],n,_=>by rw[Zsr];exact Nat.zero_le _
 | q::qs,n,hn=>by
  rw[Zia] at hn;rw[Zsr];by_cases hm:n<=M
  ·rw[if_pos hm] at hn
   have h1:=Zp3 M L qs (n+Zgg M L q);have h2:=h q (by omega);have h3:=Zrw M L h qs _ hn;omega
  ·rw[if_neg hm] at hn
   exact absurd hn hm
theorem Zrx(M:Nat):∀ (L:Nat) (p:Prd),Zgg M L p<=M->Zi1 p<=L
 | 0,p,h=>by rw[Zgg] at h;omega
 | L+1,.mk k l r c ks,h=>by
  rw[Zgg] at h;rw[Zi1];have:=Zrw M L (Zrx M L) ks 1 h;omega
theorem Zox(p:Prd):Zp1 p 100 12=Zc6 p:=by
 rw[Bool.eq_iff_iff];constructor
 ·intro h
  have h1:=Zv9 h;have h2:=Zrx 100 12 p (of_decide_eq_true h);unfold Zc6;rw[đi,decide_eq_true_eq,decide_eq_true_eq];exact⟨h1,h2⟩
 ·intro h
  unfold Zc6 at h;rw[đi,decide_eq_true_eq,decide_eq_true_eq] at h;exact Z3f h.1 h.2
theorem Ztg(p:Prd)(w:World)(P:Nat->Prop)(vs:List Value)(hN:Zb0 p<=1000000)(hb:Zon p)(hlen:Zp0 p)(h:Zao w P p vs) :
  Calls Tryz.prog 124 #[.agg vs.toArray] w fun e w'=>e = .returned (.bool (Zba p))/\RowKit.Below w.heap.size w w':=by
 obtain⟨xa,xn,xc,rfl,-⟩:=h.form;have bx:=(đc w.heap.size w).alloc (đd _) (.cells #[.int .i64 p.k,.string (Zad p.l),.string (Zad p.r),.int .i64 p.c,.slice xa xn xc] 54);have B1:=ħ bx;have X1:Hid (Zae (w.alloc (.cells #[.int .i64 p.k,.string (Zad p.l),.string (Zad p.r),.int .i64 p.c,.slice xa xn xc] 54)) w.heap.size 54 [.int .i64 p.k,.string (Zad p.l),.string (Zad p.r),.int .i64 p.c,.slice xa xn xc]):=ħ (heap_alloc_new w _);have HF:=ħ (fun W (hW:RowKit.Below w.heap.size w W)=>Zp2 p 100 12 (by omega) (by omega) W P _ hlen (h.below hW));rw[Zox p] at HF;have HG:=ħ (fun W (hW:RowKit.Below w.heap.size w W)=>Zjv (Zb0 p) p W P _ (đd _) hN hb (h.below hW));have HV:Hid (Zba p=(Zc6 p&&Zay p)):=ħ rfl;obtain⟨V,hV⟩:∃ V,Zba p=V:=⟨_,rfl⟩;rw[hV] at HV ⊢;clear bx h hb hlen hN hV;generalize Zc6 p=s at *;generalize Zay p=f at *;generalize p.k=q0 at *;generalize Zad p.l=q1 at *;generalize Zad p.r=q2 at *;generalize p.c=q3 at *
 go_enter Tryz.func124,Tryz.ntmps124
 go_upto_region 1 with(fail)
 generalize w.alloc (.cells #[.int .i64 q0,.string q1,.string q2,.int .i64 q3,.slice xa xn xc] 54)=w1 at *
 go_wp2_with (refine wpList_load_row rfl 54 (.tmp 1) rfl w.heap.size ?a1 54 #[.int .i64 q0,.string q1,.string q2,.int .i64 q3,.slice xa xn xc] (0,0) _ X1.o Tryz.underlying54 rfl (Za4 _ rfl) ?_;(case a1=>rfl))
 refine(HF.o w1 B1.o).mono ?_;rintro e w2 ⟨rfl,b2⟩;have B2:=ħ (B1.o.trans (b2.mono B1.o.size));have X2:=ħ (X1.o.step b2);clear b2 X1 B1
 cases s with
 | false =>
  go_wp2
  go_ret;exact⟨Zac (by rw[HV.o];rfl),B2.o⟩
 | true =>
  go_wp2_with (refine Zbp (by rfl) 54 (.tmp 1) rfl w.heap.size (by rfl) 54 #[.int .i64 q0,.string q1,.string q2,.int .i64 q3,.slice xa xn xc] (0,0) _ X2.o Tryz.underlying54 rfl (Za4 _ rfl) ?_)
  refine(HG.o w2 B2.o).mono ?_;rintro e w3 ⟨rfl,b3⟩;have B3:=ħ (B2.o.trans (b3.mono B2.o.size));clear b3
  go_wp2
  go_ret;exact⟨Zac (by rw[HV.o];rfl),B3.o⟩
end Go.Proofs.YtbcgocpihobjnaaGreatDoor
