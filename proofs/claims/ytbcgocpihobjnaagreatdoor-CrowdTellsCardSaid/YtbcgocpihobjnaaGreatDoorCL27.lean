import Derived.Shelf.RegionOpenPlain
import Derived.Lib.IndexBytes
import Derived.Test.YtbcgocpihobjnaaGreatDoorCL23
set_option linter.all false
set_option maxHeartbeats 8000000
set_option maxRecDepth 100000
namespace Go.Proofs.YtbcgocpihobjnaaGreatDoor
section
open Go.RowKit Go.Sort
theorem Ztn(l:List Nat)(hb:∀ y∈l,y<256):Lib.indexByte (aB l).data.toList 46=if bL bO l<l.length then(bL bO l:Int) else -1:=by
 rw[UC,<- Lib.index_one];exact DN l hb
theorem Zzy(l:List Nat)(w:World)(hl:l.length<=9223372036854775807)(hb:∀ y∈l,y<256) :
  Calls Tryz.prog 210 #[.string (aB l),.string ⟨#[46]⟩] w fun e w'=>(∃ n,w'=w.drewN n)/\(bL bO l<l.length/\e = .returned (.tuple #[.string (aB (l.take (bL bO l))),.string (aB (l.drop (bL bO l+1))),.bool true])\/¬ bL bO l<l.length/\e = .returned (.tuple #[.string (aB l),.string ⟨#[]⟩,.bool false])):=by
 have HC:=I (Tryz.stringslite_Index_one (aB l) 46 w);rw[Ztn l hb] at HC;by_cases h:bL bO l<l.length
 ·rw[if_pos h] at HC
  have mQ:(aB l).extract 0 (bL bO l)=aB (l.take (bL bO l)):=VY l _ (by omega)
  have Ph:(aB l).extract (bL bO l+1) l.length=aB (l.drop (bL bO l+1)):=by rw[<- tH l];exact VZ l _
  have hz:(aB l).size=l.length:=tH l;have HH:=I h;generalize aB (l.take (bL bO l))=s1 at *;generalize aB (l.drop (bL bO l+1))=s2 at *;generalize bL bO l=i at *
  have c1:(0:Int)<=↑i:=by omega
  have c2:(↑i:Int)<=↑l.length:=by omega
  have c3:(0:Int)<=↑i+1:=by omega
  have c4:(↑i+1:Int)<=↑l.length:=by omega
  have e2:IntKind.i64.wrap ((i:Int)+1)=(i:Int)+1:=fU _ (by omega);clear hb;generalize l.length=m at *;generalize aB l=s at *
  have mixed:Tryz.prog.follows .mixedOrders=true:=by kernel_rfl
  go_enter Tryz.func210,Tryz.ntmps210
  go_wp2_with fail
  refine HC.o.mono ?_;rintro e w1 ⟨rfl,rfl⟩
  go_wp2_with fail
  go_region_o
  go_wp2
  go_ret3
  exact⟨⟨1,rfl⟩,.inl ⟨HH.o,rfl⟩⟩
 ·rw[if_neg h] at HC
  have HH:=I h;generalize bL bO l=i at *;clear hb h;generalize aB l=s at *
  go_enter Tryz.func210,Tryz.ntmps210
  go_wp2_with fail
  refine HC.o.mono ?_;rintro e w1 ⟨rfl,rfl⟩
  go_wp2
  go_ret3
  exact⟨⟨0,rfl⟩,.inr ⟨HH.o,rfl⟩⟩
theorem Zzz(l:List Nat)(w:World)(hl:l.length<=9223372036854775807)(hb:∀ y∈l,y<256) :
  Calls Tryz.prog 179 #[.string (aB l),.string ⟨#[46]⟩] w fun e w'=>(∃ n,w'=w.drewN n)/\(bL bO l<l.length/\e = .returned (.tuple #[.string (aB (l.take (bL bO l))),.string (aB (l.drop (bL bO l+1))),.bool true])\/¬ bL bO l<l.length/\e = .returned (.tuple #[.string (aB l),.string ⟨#[]⟩,.bool false])):=by
 have HC:=I (Zzy l w hl hb);clear hb;generalize aB (l.take (bL bO l))=s1 at *;generalize aB (l.drop (bL bO l+1))=s2 at *;generalize aB l=s at *
 go_enter Tryz.func179,Tryz.ntmps179
 go_wp2_with fail
 refine HC.o.mono ?_;rintro e w1 ⟨hd,h⟩;have HD:=I hd;clear hd;rcases h with ⟨h,rfl⟩ | ⟨h,rfl⟩
 ·have HH:=I h
  clear h
  go_wp2
  go_ret3
  exact⟨HD.o,.inl ⟨HH.o,rfl⟩⟩
 ·have HH:=I h
  clear h
  go_wp2
  go_ret3
  exact⟨HD.o,.inr ⟨HH.o,rfl⟩⟩
theorem Zto(l:List Nat)(Cd:1000000<l.length)(w:World)(hl:l.length<=9223372036854775807)(hb:∀ y∈l,y<256) :
  Calls Tryz.prog 211 #[.string (aB l)] w fun e w'=>e = .returned (.bool (nD l))/\w=w':=by
 have SZ:=I (tH l)
 have hx:∀ w,(Instr.index 9 (.string (aB l)) (.int .i64 0)).run Tryz.prog w = .ok (.int .u8 ((l.getD 0 0:Nat):Int)) w:=fun w=>St l 0 (by omega) hb w
 obtain⟨v,hv⟩:=exq (l.getD 0 0);rw[hv] at hx;obtain⟨q,hq⟩:=exq (tX v);have HQ:=I hq;have cT:=Hp l (by omega);have HV:Hid (nD l=false):=I (by unfold nD;rw[decide_eq_false (show ¬ l.length<=20 by omega)];simp)
 have Tw:¬ ((l.length:Int)<=20):=by omega
 generalize nD l=V at *;clear hv hq hb;generalize aB l=t at *
 go_enter Tryz.func211,Tryz.ntmps211
 go_wp2_with fail
 refine(EE v w).mono ?_;rintro e w1 ⟨rfl,rfl⟩;rw[HQ.o]
 cases q with
 | false =>
  go_wp2
  go_ret;exact⟨aF HV.o.symm,rfl⟩
 | true =>
  have iK:=SZ.o
  go_wp2
  go_ret;exact⟨aF HV.o.symm,rfl⟩
theorem Zwf(l:List Nat)(w:World)(hl:l.length<=9223372036854775807)(hb:∀ y∈l,y<256) :
  Calls Tryz.prog 211 #[.string (aB l)] w fun e w'=>e = .returned (.bool (nD l))/\w=w':=by
 by_cases h:l.length<=1000000
 ·exact WA l w h hb
 ·exact Zto l (by omega) w hl hb
theorem Zwg(l:List Nat)(w:World)(B:Nat)(hT:Tab w B)(hl:l.length<=9223372036854775807)(hb:∀ y∈l,y<256) :
  Calls Tryz.prog 180 #[.string (aB l)] w fun e w'=>e = .returned (.bool (gX l))/\w=w':=by
 by_cases h:l.length<=1000000
 ·exact UE l w B hT h hb
 have HN:=I (fun w=>Zwf l w hl hb);have HV:Hid (nD l=false):=I (by unfold nD;rw[decide_eq_false (show ¬ l.length<=20 by omega)];simp);have HF:Hid (gX l=false):=I (by unfold gX;rw[HV.o];rfl);rw[HV.o] at HN;rw[HF.o];clear hb hT;generalize aB l=t at *
 go_enter Tryz.func180,Tryz.ntmps180
 go_wp2_with fail
 refine(HN.o _).mono ?_;rintro e w' ⟨rfl,rfl⟩
 go_wp2
 go_ret;exact⟨rfl,rfl⟩
theorem WB(l:List Nat)(w:World)(B:Nat)(hT:Tab w B)(hl:l.length<=9223372036854775807)(hb:∀ y∈l,y<256) :
  Calls Tryz.prog 145 #[.string (aB l)] w fun e w'=>e = .returned (.bool (iG l))/\∃ n,w'=w.drewN n:=by
 have HC:=I (Zzz l w hl hb);have HF:=I (fun(m:List Nat) (n:Nat) h1 h2=>Zwg m (w.drewN n) B (hT.keep (fun _ _=>rfl) (aO _)) h1 h2);have HB:=I hb;have qH:=I hl;have HV:Hid (iG l=(decide (bL bO l<l.length)&&(gX (l.take (bL bO l))&&gX (l.drop (bL bO l+1))))):=I rfl;clear hT hb hl;have H1:=I (fun n=>HF.o (l.take (bL bO l)) n (by rw[List.length_take];have:=qH.o;omega) (fun y hy=>HB.o y (List.mem_of_mem_take hy)));have H2:=I (fun n=>HF.o (l.drop (bL bO l+1)) n (by rw[List.length_drop];have:=qH.o;omega) (fun y hy=>HB.o y (List.mem_of_mem_drop hy)));generalize gX (l.take (bL bO l))=b1 at *;generalize gX (l.drop (bL bO l+1))=b2 at *;generalize aB (l.take (bL bO l))=s1 at *;generalize aB (l.drop (bL bO l+1))=s2 at *;generalize iG l=V at *;clear HF HB qH;generalize aB l=s0 at *
 go_enter Tryz.func145,Tryz.ntmps145
 go_wp2_with fail
 refine HC.o.mono ?_;rintro e w1 ⟨⟨n,rfl⟩,h⟩;rcases h with ⟨h,rfl⟩ | ⟨h,rfl⟩
 ·rw[decide_eq_true h,cH] at HV
  clear h HC
  go_wp2_with fail
  refine(H1.o n).mono ?_;rintro e w2 ⟨rfl,rfl⟩
  cases b1 with
  | true =>
   go_wp2_with fail
   refine(H2.o n).mono ?_;rintro e w3 ⟨rfl,rfl⟩
   go_wp2
   go_ret;exact⟨aF (by rw[HV.o];rfl),n,rfl⟩
  | false =>
   go_wp2
   go_ret;exact⟨aF (by rw[HV.o];rfl),n,rfl⟩
 ·rw[decide_eq_false h,dS] at HV
  clear h HC
  go_wp2
  go_ret;exact⟨aF HV.o.symm,n,rfl⟩
theorem WC(l:List Nat)(w:World)(B:Nat)(hT:Tab w B)(hl:l.length<=9223372036854775807)(hb:∀ y∈l,y<256) :
  Calls Tryz.prog 209 #[.string (aB l)] w fun e w'=>e = .returned (.bool (nF l))/\∃ n,w'=w.drewN n:=by
 have HN:=I (WB l w B hT hl hb);have HV:Hid (nF l=(l==[]||iG l)):=I rfl;clear hT hl;by_cases h0:l=[]
 ·have he:=Kz
  rw[h0] at HV ⊢;generalize nF []=V at *;clear HN h0;generalize aB []=s at *
  go_enter Tryz.func209,Tryz.ntmps209
  go_wp2
  go_ret;exact⟨aF (by rw[HV.o];rfl),0,rfl⟩
 ·have he:=Hp l (fun h=>h0 (List.eq_nil_of_length_eq_zero h))
  have Xa:(l==[])=false:=by rw[beq_eq_false_iff_ne];exact h0
  rw[Xa,Bool.false_or] at HV;clear hb Xa h0;generalize iG l=v at *;generalize nF l=V at *;generalize aB l=s at *
  go_enter Tryz.func209,Tryz.ntmps209
  go_wp2_with fail
  refine HN.o.mono ?_;rintro e w2 ⟨rfl,n,rfl⟩
  go_wp2
  go_ret;exact⟨aF HV.o.symm,n,rfl⟩
end
section
open Go.RowKit Go.Sort
def NmL(l:List Nat):Prop:=(∀ y∈l,y<256)/\l.length<=9223372036854775807
mutual
def ByL:Prd->Prop
 | .mk k l r c ks=>NmL l/\NmL r/\Sv ks
def Sv:List Prd->Prop
 | []=>True
 | p::ps=>ByL p/\Sv ps
end
theorem nk:∀ ks:List Prd,Sv ks↔∀ q∈ks,ByL q
 | []=>by simp[Sv]
 | p::ps=>by simp[Sv,nk ps]
theorem Ztp(κ:Int)(l r:List Nat)(c:Int)(ao:Option Addr)(n cap:Nat)(w:World)(B:Nat)(hT:Tab w B)(hl:NmL l)(hr:NmL r) :
  Calls Tryz.prog 177 #[.agg #[.int .i64 κ,.string (aB l),.string (aB r),.int .i64 c,.slice ao n cap]] w fun e w'=>e = .returned (.bool (oV κ l r c n))/\Below w.heap.size w w':=by
 have bx:=bwA w (.cells #[.int .i64 κ,.string (aB l),.string (aB r),.int .i64 c,.slice ao n cap] 54);have B1:=I bx;have X1:=hnw w 54 [.int .i64 κ,.string (aB l),.string (aB r),.int .i64 c,.slice ao n cap];have TT:Hid (∀ W:World,Below w.heap.size w W->Tab W B):=I (fun W hW=>hT.keep (fun k hk=>hW.block k (gR hk hT.size)) hW.size);have H1:=I (fun W hW=>WC l W B (TT.o W hW) hl.2 hl.1);have H2:=I (fun W hW=>WC r W B (TT.o W hW) hr.2 hr.1);have HV:Hid (oV κ l r c n=(κ==0&&(n==0&&(nF l&&(nF r&&(decide (-1099511627776<=c)&&decide (c<1099511627776))))))):=I rfl;clear bx hT hl hr TT;generalize oV κ l r c n=V at *;generalize nF l=b1 at *;generalize nF r=b2 at *;generalize aB l=y at *;generalize aB r=z at *
 go_enter Tryz.func177,Tryz.ntmps177
 go_upto_region 2 with(fail)
 generalize w.alloc (.cells #[.int .i64 κ,.string y,.string z,.int .i64 c,.slice ao n cap] 54)=w1 at *;obtain⟨x0,x1,x2,x3,x4⟩:=X1.o.c5;by_cases k0:κ=0
 ·have k0b:(κ==0)=true:=beq_iff_eq.mpr k0
  rw[k0b,cH] at HV;clear k0;by_cases n0:n=0
  ·have n0b:(n==0)=true:=beq_iff_eq.mpr n0
   have n0c:((n:Int)==0)=true:=by rw[n0];rfl
   rw[n0b,cH] at HV;clear n0
   go_wp2_with fail
   refine(H1.o w1 B1.o).mono ?_;rintro e w2 ⟨rfl,d2⟩;have B2:=I (B1.o.trans ((vN d2).mono B1.o.size));have X2:=I (X1.o.step (vN d2));clear d2 x0 x1 x2 x3 x4;obtain⟨x0,x1,x2,x3,x4⟩:=X2.o.c5
   cases b1 with
   | true =>
    rw[cH] at HV
    go_wp2_with fail
    refine(H2.o w2 B2.o).mono ?_;rintro e w3 ⟨rfl,d3⟩;have B3:=I (B2.o.trans ((vN d3).mono B2.o.size));have X3:=I (X2.o.step (vN d3));clear d3 x0 x1 x2 x3 x4;have x3:=X3.o.cell 3 _ rfl
    cases b2 with
    | true =>
     rw[cH] at HV;by_cases c1:-1099511627776<=c
     ·have c1b:decide (-1099511627776<=c)=true:=decide_eq_true c1
      rw[c1b,cH] at HV;clear c1
      go_wp2
      go_ret;exact⟨aF HV.o.symm,B3.o⟩
     ·have c1b:decide (-1099511627776<=c)=false:=decide_eq_false c1
      rw[c1b,dS] at HV;clear c1
      go_wp2
      go_ret;exact⟨aF HV.o.symm,B3.o⟩
    | false =>
     rw[dS] at HV
     go_wp2
     go_ret;exact⟨aF HV.o.symm,B3.o⟩
   | false =>
    rw[dS] at HV
    go_wp2
    go_ret;exact⟨aF HV.o.symm,B2.o⟩
  ·have n0b:(n==0)=false:=beq_eq_false_iff_ne.mpr n0
   have n0c:((n:Int)==0)=false:=by rw[beq_eq_false_iff_ne];omega
   rw[n0b,dS] at HV;clear n0
   go_wp2
   go_ret;exact⟨aF HV.o.symm,B1.o⟩
 ·have k0b:(κ==0)=false:=beq_eq_false_iff_ne.mpr k0
  rw[k0b,dS] at HV;clear k0
  go_wp2
  go_ret;exact⟨aF HV.o.symm,B1.o⟩
theorem Ztq(l r:List Nat)(c:Int)(ao:Option Addr)(n cap:Nat)(w:World)(B:Nat)(hT:Tab w B)(hl:NmL l)(hr:NmL r) :
  Calls Tryz.prog 137 #[.agg #[.int .i64 0,.string (aB l),.string (aB r),.int .i64 c,.slice ao n cap]] w fun e w'=>e = .returned (.bool (oV 0 l r c n))/\Below w.heap.size w w':=by
 have bx:=bwA w (.cells #[.int .i64 0,.string (aB l),.string (aB r),.int .i64 c,.slice ao n cap] 54);have B1:=I bx;have X1:=hnw w 54 [.int .i64 0,.string (aB l),.string (aB r),.int .i64 c,.slice ao n cap];have HA:=I (fun W hW=>Ztp 0 l r c ao n cap W B (gS.step (w:=w) (w':=W) hT hW) hl hr);clear bx hT hl hr;generalize oV 0 l r c n=V at *;generalize aB l=y at *;generalize aB r=z at *
 go_enter Tryz.func137,Tryz.ntmps137
 go_upto_region 1 with(fail)
 generalize w.alloc (.cells #[.int .i64 0,.string y,.string z,.int .i64 c,.slice ao n cap] 54)=w1 at *;have x0:=X1.o.cell 0 _ rfl;have x4:=X1.o.cell 4 _ rfl
 go_wp2_with (refine wpList_load_row rfl 54 (.tmp 1) rfl w.heap.size ?x1 54 (lw 0 y z c ao n cap).toArray (0,0) _ X1.o Tryz.underlying54 rfl (oT _ rfl) ?_;(case x1=>rfl))
 refine(HA.o w1 B1.o).mono ?_;rintro e w2 ⟨rfl,b2⟩;have B2:=B1.tr b2;clear b2
 go_wp2
 go_ret;exact⟨rfl,B2.o⟩
theorem WD:∀ (N:Nat) (p:Prd) (w:World) (P:Nat->Prop) (vs:List Value) (B:Nat),cO p<=N->N<=1000000->ByL p->cK w P p vs->Tab w B ->
  Calls Tryz.prog 137 #[.agg vs.toArray] w fun e w'=>e = .returned (.bool (dV p))/\Below w.heap.size w w'
 | 0,p,w,P,vs,B,hN,_,_,_,_=>by have:=Hl p;omega
 | N+1,.mk κ l r c ks,w,P,vs,B,hN,hM,hb,h,hT=>by
  have uL:cR ks<=N:=by unfold cO at hN;omega
  have hl:=Hm ks;unfold cK at h;unfold ByL at hb;obtain⟨ao,cap,rfl,hk⟩:=h;by_cases hκ:κ=0
  ·subst hκ
   have:=Ztq l r c ao ks.length cap w B hT hb.1 hb.2.1;rw[Vy,if_pos rfl];exact this
  ·exact UH w P κ l r c ks ao ks.length cap hκ rfl (by omega) B hT hk (fun q w' us hq bH hT'=>WD N q w' P us B (by
    obtain⟨i,hi⟩:=pV.1 hq;have:=Hn ks i q hi
    omega) (by omega) ((nk ks).1 hb.2.2 q hq) bH hT')
theorem Ztr(p:Prd)(w:World)(P:Nat->Prop)(vs:List Value)(B:Nat)(hN:cO p<=1000000)(hb:ByL p)(h:cK w P p vs)(hT:Tab w B) :
  Calls Tryz.prog 74 #[.agg vs.toArray] w fun e w'=>e = .returned (.bool (jV p))/\Below w.heap.size w w':=by
 obtain⟨xa,xn,xc,rfl,-⟩:=h.form;have bx:=bwA w (.cells #[.int .i64 p.k,.string (aB p.l),.string (aB p.r),.int .i64 p.c,.slice xa xn xc] 54);have B1:=I bx;have X1:=hnw w 54 [.int .i64 p.k,.string (aB p.l),.string (aB p.r),.int .i64 p.c,.slice xa xn xc];have HS:=I (fun W (hW:Below w.heap.size w W)=>RU W P p [.int .i64 p.k,.string (aB p.l),.string (aB p.r),.int .i64 p.c,.slice xa xn xc] (h.below hW) hN);have HF:=I (fun W (hW:Below w.heap.size w W)=>WD 1000000 p W P [.int .i64 p.k,.string (aB p.l),.string (aB p.r),.int .i64 p.c,.slice xa xn xc] B hN (aO _) hb (h.below hW) (gS.step (w:=w) hT hW));have HV:Hid (jV p=(sA p&&dV p)):=I rfl;obtain⟨V,hV⟩:=exq (jV p);rw[hV] at HV ⊢;clear bx h hT hb hN hV;generalize sA p=s at *;generalize dV p=f at *;generalize p.k=q0 at *;generalize aB p.l=q1 at *;generalize aB p.r=q2 at *;generalize p.c=q3 at *
 go_enter Tryz.func74,Tryz.ntmps74
 go_upto_region 1 with(fail)
 generalize w.alloc (.cells #[.int .i64 q0,.string q1,.string q2,.int .i64 q3,.slice xa xn xc] 54)=w1 at *
 go_wp2_with (refine wpList_load_row rfl 54 (.tmp 1) rfl w.heap.size ?x1 54 #[.int .i64 q0,.string q1,.string q2,.int .i64 q3,.slice xa xn xc] (0,0) _ X1.o Tryz.underlying54 rfl (oT _ rfl) ?_;(case x1=>rfl))
 refine(HS.o w1 B1.o).mono ?_;rintro e w2 ⟨rfl,b2⟩;have B2:=B1.tr b2;have X2:=I (X1.o.step b2);clear b2
 cases s with
 | false =>
  rw[dS] at HV
  go_wp2
  go_ret;exact⟨aF HV.o.symm,B2.o⟩
 | true =>
  rw[cH] at HV
  go_wp2_with (refine Ba (by rfl) 54 (.tmp 1) rfl w.heap.size ?x2 54 #[.int .i64 q0,.string q1,.string q2,.int .i64 q3,.slice xa xn xc] (0,0) _ X2.o Tryz.underlying54 rfl (oT _ rfl) ?_;(case x2=>rfl))
  refine(HF.o w2 B2.o).mono ?_;rintro e w3 ⟨rfl,b3⟩;have B3:=B2.tr b3;clear b3
  go_wp2
  go_ret;exact⟨aF HV.o.symm,B3.o⟩
end
end Go.Proofs.YtbcgocpihobjnaaGreatDoor
