import Derived.Test.YtbcgocpihobjnaaGreatDoorCC41
import Derived.Test.YtbcgocpihobjnaaGreatDoorCC14
set_option linter.all false
set_option maxHeartbeats 8000000
set_option maxRecDepth 100000
namespace Go.Proofs.YtbcgocpihobjnaaGreatDoor
open Go.RowKit Go.Sort Go.Maps
def Zhy(c:Crw)(wd:Int)(u:Nat):Bool:=(c.us.getD u ⟨0,0,0,0⟩).w==wd
def Zgp(c:Crw)(wd:Int):List Nat:=(List.range c.us.length).filter (Zhy c wd)
theorem Zqi(w:World)(A:Nat)(c:Crw)(H C:List (List Bool))(wd:Int)(hr:Zbo w A c H C)(hok:ReckOk c C) :
  Calls Tryz.prog 99 #[.pointer (some ⟨A,0,none⟩),.int .i64 wd] w fun e w'=>(∃ o cap,e = .returned (.slice o (Zgp c wd).length cap)/\OwnK w' w.heap.size 1 (Zgp c wd).length cap (Za0 (Zgp c wd)) o)/\Below w.heap.size w w':=by
 have hU:=hok.nu;obtain⟨qo,mo,uo,ho,co,qc,mc,uc,hc,cc,hA,hR,-⟩:=hr;have ha:=hA.cell 2 _ rfl;have hu0:=hR.u;have HUW:=ħ (fun W (hW:Below w.heap.size w W)=>hu0.below hW)
 have HPB:Hid (∀ u x,c.us[u]?=some x->Zhy c wd u=(x.w==wd)):=ħ (fun u x h=>by
  unfold Zhy
  rw[đf,h];rfl)
 have HPF:Hid (Zgp c wd=(List.range c.us.length).filter (Zhy c wd)):=ħ rfl;have HUX:Hid (∀ u,u<c.us.length->∃ x,c.us[u]?=some x):=ħ (fun u h=>⟨_,đb h⟩);clear hA hR hok hu0;generalize Zgp c wd=PF at *;generalize Zhy c wd=pb at *;generalize c.us.length=nu at *
 go_enter Tryz.func99,Tryz.ntmps99
 go_wp2_with fail
 clear ha
 go_loopw [13,4] (fun kv ov wr=>∃ (k:Nat) (n:Nat) (o:Option Addr) (cap:Nat),kv = .int .i64 k/\ov = .slice o n cap/\k<=nu/\n<=k/\Hid (((List.range k).filter pb).length=n)/\Hid (OwnK wr w.heap.size 1 n cap (Za0 ((List.range k).filter pb)) o)/\Hid (Below w.heap.size w wr)) (fun k _ _=>(nu-intOf k).toNat)
 case atStart=>exact⟨0,0,none,0,rfl,rfl,by omega,đd _,ħ rfl,ħ (.nil rfl rfl rfl),ħ (đc _ _)⟩
 case round =>
  obtain⟨k,n,o,cap,rfl,rfl,hk,hn,HN,HO,HB⟩:=hrel;have e2:IntKind.i64.wrap ((k:Int)+1)=((k+1:Nat):Int):=đh _ (by omega);by_cases hkn:k<nu
  ·have kk:(k:Int)<nu:=by omega
   obtain⟨x,hx⟩:=HUX.o k hkn;obtain⟨gu,ou,huo,hgu,hcu⟩:=(HUW.o wr HB.o).at Zbj k x hx;have u0:=hcu 0 _ rfl;have u1:=hcu 1 _ rfl;have u2:=hcu 2 _ rfl;have u3:=hcu 3 _ rfl;rw[Nat.add_zero] at u0;have HNX:=ħ (Zce pb k);have HPK:=HPB.o k x hx;subst huo;clear hcu hgu hx;obtain⟨xq,xw,xf,xh⟩:=x;obtain⟨bt,hbt⟩:∃ y,(xw==wd)=y:=⟨_,rfl⟩;have HPK2:Hid (pb k=bt):=ħ (by rw[<- hbt];exact HPK);clear HPK;have bx:=(đc wr.heap.size wr).alloc (đd _) (.cells #[.int .i64 xq,.int .i64 xw,.int .i64 xf,.int .i64 xh] 39);have S2:Hid (Zae (wr.alloc (.cells #[.int .i64 xq,.int .i64 xw,.int .i64 xf,.int .i64 xh] 39)) wr.heap.size 39 [.int .i64 xq,.int .i64 xw,.int .i64 xf,.int .i64 xh]):=ħ (heap_alloc_new _ _);have B3:=ħ (HB.o.trans (bx.mono HB.o.size));have O3:=ħ (HO.o.below bx);clear bx
   go_upto_region 4 with(fail)
   clear u0 u1 u2 u3;generalize wr.alloc (.cells #[.int .i64 xq,.int .i64 xw,.int .i64 xf,.int .i64 xh] 39)=w3 at *;generalize wr.heap.size=Mb at *;have s1:=S2.o.cell 1 _ rfl
   cases bt with
   | false =>
    go_wp2_with fail
    clear s1;go_roundw
    case rel=>exact⟨k+1,n,o,cap,by go_num,rfl,by omega,by omega,ħ (by rw[HNX.o,HPK2.o];exact HN.o),ħ (by rw[HNX.o,HPK2.o];exact O3.o),B3⟩
    case measure=>simp only[intOf];omega
   | true =>
    go_upto_region 6 with(at_builtin;refine Zcn 33 3 (.int .i64 0) 1 8 Tryz.underlying33 Zbl rfl (by omega) (by omega) w3 w.heap.size rfl (.tmp 22) (.tmp 24) rfl o cap n (Za0 ((List.range k).filter pb)) ?q1 O3.o B3.o.size 1 1 #[.int .i64 (k:Int)] 3 ?q2 rfl (by omega) ?q3 ?q4 ?_;(case q1=>rfl);(case q2=>rfl);(case q3=>simp[Value.oneCell']);(case q4=>omega);intro g5 off5 c5 wa o8 gr8 b8 or8;have O8:=ħ o8;have B8:=ħ (B3.o.trans b8);clear o8 gr8 b8 or8)
    go_wp2_with fail
    go_roundw
    case rel=>exact⟨k+1,n+1,_,_,by go_num,rfl,by omega,by omega,ħ (by rw[HNX.o,HPK2.o,if_pos rfl,đn,HN.o];rfl),ħ (by rw[HNX.o,HPK2.o,if_pos rfl,<- Zbt];exact O8.o),B8⟩
    case measure=>simp only[intOf];omega
  ·have kk:¬ (k:Int)<nu:=by omega
   obtain rfl:nu=k:=by omega
   go_wp2_with fail
   go_ret;rw[HPF.o];exact⟨⟨o,cap,by rw[HN.o];rfl,by rw[HN.o];exact HO.o⟩,HB.o⟩
end Go.Proofs.YtbcgocpihobjnaaGreatDoor
