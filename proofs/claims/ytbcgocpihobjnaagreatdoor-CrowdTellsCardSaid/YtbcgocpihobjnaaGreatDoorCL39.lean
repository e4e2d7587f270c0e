import Derived.Test.YtbcgocpihobjnaaGreatDoorCL34
import Derived.Test.YtbcgocpihobjnaaGreatDoorCL14
set_option linter.all false
set_option maxHeartbeats 8000000
set_option maxRecDepth 100000
namespace Go.Proofs.YtbcgocpihobjnaaGreatDoor
open Go.RowKit Go.Sort Go.Maps
def ez(c:Crw)(wd:Int)(u:Nat):Bool:=(c.us.getD u ⟨0,0,0,0⟩).w==wd
def pB(c:Crw)(wd:Int):List Nat:=(List.range c.us.length).filter (ez c wd)
theorem FL(w:World)(A:Nat)(c:Crw)(H C:List (List Bool))(wd:Int)(hr:fG w A c H C)(aJ:ReckOk c C) :
  Calls Tryz.prog 99 #[.pointer (some ⟨A,0,none⟩),.int .i64 wd] w fun e w'=>(∃ o cap,e = .returned (.slice o (pB c wd).length cap)/\OwnK w' w.heap.size 1 (pB c wd).length cap (bE (pB c wd)) o)/\Below w.heap.size w w':=by
 have hU:=aJ.nu;obtain⟨qo,mo,uo,ho,co,qc,mc,uc,hc,cc,hA,hR,-⟩:=hr;have ha:=hA.cell 2 _ rfl;have dN:=hR.u;have jJ:=I (fun W (hW:Below w.heap.size w W)=>dN.below hW)
 have lB:Hid (∀ u x,c.us[u]?=some x->ez c wd u=(x.w==wd)):=I (fun u x h=>by
  unfold ez
  rw[bR,h];rfl)
 have Lu:Hid (pB c wd=(List.range c.us.length).filter (ez c wd)):=I rfl;have mX:Hid (∀ u,u<c.us.length->∃ x,c.us[u]?=some x):=I (fun u h=>⟨_,aL h⟩);clear hA hR aJ dN;generalize pB c wd=PF at *;generalize ez c wd=pb at *;generalize c.us.length=nu at *
 go_enter Tryz.func99,Tryz.ntmps99
 go_wp2_with fail
 clear ha
 go_loopw [13,4] (fun kv ov wr=>∃ (k:Nat) (n:Nat) (o:Option Addr) (cap:Nat),kv = .int .i64 k/\ov = .slice o n cap/\k<=nu/\n<=k/\Hid (((List.range k).filter pb).length=n)/\Hid (OwnK wr w.heap.size 1 n cap (bE ((List.range k).filter pb)) o)/\Hid (Below w.heap.size w wr)) (fun k _ _=>(nu-intOf k).toNat)
 case atStart=>exact⟨0,0,none,0,rfl,rfl,by omega,aO _,I rfl,I (.nil rfl rfl rfl),I (aG _ _)⟩
 case round =>
  obtain⟨k,n,o,cap,rfl,rfl,hk,hn,HN,HO,HB⟩:=hrel;have e2:=w1i k (by omega);by_cases bT:k<nu
  ·have kk:(k:Int)<nu:=by omega
   obtain⟨x,hx⟩:=mX.o k bT;obtain⟨gu,ou,eV,iZ,cF⟩:=(jJ.o wr HB.o).at mN k x hx;have u0:=cF 0 _ rfl;have u1:=cF 1 _ rfl;have u2:=cF 2 _ rfl;have u3:=cF 3 _ rfl;rw[Nat.add_zero] at u0;have dY:=I (We pb k);have gH:=lB.o k x hx;subst eV;clear cF iZ hx;obtain⟨xq,xw,xf,xh⟩:=x;obtain⟨bt,mW⟩:∃ y,(xw==wd)=y:=⟨_,rfl⟩;have fC:Hid (pb k=bt):=I (by rw[<- mW];exact gH);clear gH;have bx:=bwA wr (.cells #[.int .i64 xq,.int .i64 xw,.int .i64 xf,.int .i64 xh] 39);have S2:=hnw wr 39 [.int .i64 xq,.int .i64 xw,.int .i64 xf,.int .i64 xh];have B3:=HB.tr bx;have O3:=I (HO.o.below bx);clear bx
   go_upto_region 4 with(fail)
   clear u0 u1 u2 u3;generalize wr.alloc (.cells #[.int .i64 xq,.int .i64 xw,.int .i64 xf,.int .i64 xh] 39)=w3 at *;generalize wr.heap.size=Mb at *;have s1:=S2.o.cell 1 _ rfl
   cases bt with
   | false =>
    go_wp2_with fail
    clear s1;go_roundw
    case rel=>exact⟨k+1,n,o,cap,by go_num,rfl,by omega,by omega,I (by rw[dY.o,fC.o];exact HN.o),I (by rw[dY.o,fC.o];exact O3.o),B3⟩
    case measure=>simp only[intOf];omega
   | true =>
    go_upto_region 6 with(at_builtin;refine jM 33 3 (.int .i64 0) 1 8 Tryz.underlying33 sE rfl (by omega) (by omega) w3 w.heap.size rfl (.tmp 22) (.tmp 24) rfl o cap n (bE ((List.range k).filter pb)) ?q1 O3.o B3.o.size 1 1 #[.int .i64 (k:Int)] 3 ?q2 rfl (by omega) ?q3 ?q4 ?_;(case q1=>rfl);(case q2=>rfl);(case q3=>simp[Value.oneCell']);(case q4=>omega);intro g5 off5 c5 wa o8 aX b8 bW;have O8:=I o8;have B8:=I (B3.o.trans b8);clear o8 aX b8 bW)
    go_wp2_with fail
    go_roundw
    case rel=>exact⟨k+1,n+1,_,_,by go_num,rfl,by omega,by omega,I (by rw[dY.o,fC.o,if_pos rfl,gL,HN.o];rfl),I (by rw[dY.o,fC.o,if_pos rfl,<- Hs];exact O8.o),B8⟩
    case measure=>simp only[intOf];omega
  ·have kk:¬ (k:Int)<nu:=by omega
   obtain rfl:nu=k:=by omega
   go_wp2_with fail
   go_ret;rw[Lu.o];exact⟨⟨o,cap,by rw[HN.o];rfl,by rw[HN.o];exact HO.o⟩,HB.o⟩
end Go.Proofs.YtbcgocpihobjnaaGreatDoor
