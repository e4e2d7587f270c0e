import Derived.Shelf.RegionOpenPlain
import Derived.Lib.IndexBytes
import Derived.Test.YtbcgocpihobjnaaGreatDoorCC23
set_option linter.all false
set_option maxHeartbeats 8000000
set_option maxRecDepth 100000
namespace Go.Proofs.YtbcgocpihobjnaaGreatDoor
section
open Go.RowKit Go.Sort
theorem Zs8(l:List Nat)(hb:∀ y∈l,y<256):Lib.indexByte (Zad l).data.toList 46=if Zbh Zai l<l.length then(Zbh Zai l:Int) else -1:=by
 rw[Zol,<- Lib.index_one];exact Zjq l hb
theorem Zz5(l:List Nat)(w:World)(hl:l.length<=9223372036854775807)(hb:∀ y∈l,y<256) :
  Calls Tryz.prog 210 #[.string (Zad l),.string ⟨#[46]⟩] w fun e w'=>(∃ n,w'=w.drewN n)/\(Zbh Zai l<l.length/\e = .returned (.tuple #[.string (Zad (l.take (Zbh Zai l))),.string (Zad (l.drop (Zbh Zai l+1))),.bool true])\/¬ Zbh Zai l<l.length/\e = .returned (.tuple #[.string (Zad l),.string ⟨#[]⟩,.bool false])):=by
 have HC:=ħ (Tryz.stringslite_Index_one (Zad l) 46 w);rw[Zs8 l hb] at HC;by_cases h:Zbh Zai l<l.length
 ·rw[if_pos h] at HC
  have hs1:(Zad l).extract 0 (Zbh Zai l)=Zad (l.take (Zbh Zai l)):=Zo9 l _ (by omega)
  have hs2:(Zad l).extract (Zbh Zai l+1) l.length=Zad (l.drop (Zbh Zai l+1)):=by rw[<- Zbc l];exact Zo8 l _
  have hz:(Zad l).size=l.length:=Zbc l;have HH:=ħ h;generalize Zad (l.take (Zbh Zai l))=s1 at *;generalize Zad (l.drop (Zbh Zai l+1))=s2 at *;generalize Zbh Zai l=i at *
  have c1:(0:Int)<=↑i:=by omega
  have c2:(↑i:Int)<=↑l.length:=by omega
  have c3:(0:Int)<=↑i+1:=by omega
  have c4:(↑i+1:Int)<=↑l.length:=by omega
  have e2:IntKind.i64.wrap ((i:Int)+1)=(i:Int)+1:=đh _ (by omega);clear hb;generalize l.length=m at *;generalize Zad l=s at *
  have mixed:Tryz.prog.follows .mixedOrders=true:=by kernel_rfl
  go_enter Tryz.func210,Tryz.ntmps210
  go_wp2_with fail
  refine HC.o.mono ?_;rintro e w1 ⟨rfl,rfl⟩
  go_wp2_with fail
  go_region_o
  go_wp2
  go_ret3
  exact⟨⟨1,rfl⟩,.inl ⟨HH.o,rfl⟩⟩
 ·rw[if_neg h] at HC
  have HH:=ħ h;generalize Zbh Zai l=i at *;clear hb h;generalize Zad l=s at *
  go_enter Tryz.func210,Tryz.ntmps210
  go_wp2_with fail
  refine HC.o.mono ?_;rintro e w1 ⟨rfl,rfl⟩
  go_wp2
  go_ret3
  exact⟨⟨0,rfl⟩,.inr ⟨HH.o,rfl⟩⟩
theorem Zz6(l:List Nat)(w:World)(hl:l.length<=9223372036854775807)(hb:∀ y∈l,y<256) :
  Calls Tryz.prog 179 #[.string (Zad l),.string ⟨#[46]⟩] w fun e w'=>(∃ n,w'=w.drewN n)/\(Zbh Zai l<l.length/\e = .returned (.tuple #[.string (Zad (l.take (Zbh Zai l))),.string (Zad (l.drop (Zbh Zai l+1))),.bool true])\/¬ Zbh Zai l<l.length/\e = .returned (.tuple #[.string (Zad l),.string ⟨#[]⟩,.bool false])):=by
 have HC:=ħ (Zz5 l w hl hb);clear hb;generalize Zad (l.take (Zbh Zai l))=s1 at *;generalize Zad (l.drop (Zbh Zai l+1))=s2 at *;generalize Zad l=s at *
 go_enter Tryz.func179,Tryz.ntmps179
 go_wp2_with fail
 refine HC.o.mono ?_;rintro e w1 ⟨hd,h⟩;have HD:=ħ hd;clear hd;rcases h with ⟨h,rfl⟩ | ⟨h,rfl⟩
 ·have HH:=ħ h
  clear h
  go_wp2
  go_ret3
  exact⟨HD.o,.inl ⟨HH.o,rfl⟩⟩
 ·have HH:=ħ h
  clear h
  go_wp2
  go_ret3
  exact⟨HD.o,.inr ⟨HH.o,rfl⟩⟩
theorem Zs9(l:List Nat)(h20:1000000<l.length)(w:World)(hl:l.length<=9223372036854775807)(hb:∀ y∈l,y<256) :
  Calls Tryz.prog 211 #[.string (Zad l)] w fun e w'=>e = .returned (.bool (Zdo l))/\w=w':=by
 have SZ:=ħ (Zbc l)
 have hx:∀ w,(Instr.index 9 (.string (Zad l)) (.int .i64 0)).run Tryz.prog w = .ok (.int .u8 ((l.getD 0 0:Nat):Int)) w:=fun w=>Zj2 l 0 (by omega) hb w
 obtain⟨v,hv⟩:∃ v,l.getD 0 0=v:=⟨_,rfl⟩;rw[hv] at hx;obtain⟨q,hq⟩:∃ q,Znn v=q:=⟨_,rfl⟩;have HQ:=ħ hq;have hne:=Zdf l (by omega);have HV:Hid (Zdo l=false):=ħ (by unfold Zdo;rw[decide_eq_false (show ¬ l.length<=20 by omega)];simp)
 have i20:¬ ((l.length:Int)<=20):=by omega
 generalize Zdo l=V at *;clear hv hq hb;generalize Zad l=t at *
 go_enter Tryz.func211,Tryz.ntmps211
 go_wp2_with fail
 refine(Zht v w).mono ?_;rintro e w1 ⟨rfl,rfl⟩;rw[HQ.o]
 cases q with
 | false =>
  go_wp2
  go_ret;exact⟨Zac HV.o.symm,rfl⟩
 | true =>
  have hsz:=SZ.o
  go_wp2
  go_ret;exact⟨Zac HV.o.symm,rfl⟩
theorem Zwd(l:List Nat)(w:World)(hl:l.length<=9223372036854775807)(hb:∀ y∈l,y<256) :
  Calls Tryz.prog 211 #[.string (Zad l)] w fun e w'=>e = .returned (.bool (Zdo l))/\w=w':=by
 by_cases h:l.length<=1000000
 ·exact Zsc l w h hb
 ·exact Zs9 l (by omega) w hl hb
theorem Zwe(l:List Nat)(w:World)(B:Nat)(hT:Tab w B)(hl:l.length<=9223372036854775807)(hb:∀ y∈l,y<256) :
  Calls Tryz.prog 180 #[.string (Zad l)] w fun e w'=>e = .returned (.bool (Zbz l))/\w=w':=by
 by_cases h:l.length<=1000000
 ·exact Zsq l w B hT h hb
 have HN:=ħ (fun w=>Zwd l w hl hb);have HV:Hid (Zdo l=false):=ħ (by unfold Zdo;rw[decide_eq_false (show ¬ l.length<=20 by omega)];simp);have HF:Hid (Zbz l=false):=ħ (by unfold Zbz;rw[HV.o];rfl);rw[HV.o] at HN;rw[HF.o];clear hb hT;generalize Zad l=t at *
 go_enter Tryz.func180,Tryz.ntmps180
 go_wp2_with fail
 refine(HN.o _).mono ?_;rintro e w' ⟨rfl,rfl⟩
 go_wp2
 go_ret;exact⟨rfl,rfl⟩
theorem Zl1(l:List Nat)(w:World)(B:Nat)(hT:Tab w B)(hl:l.length<=9223372036854775807)(hb:∀ y∈l,y<256) :
  Calls Tryz.prog 145 #[.string (Zad l)] w fun e w'=>e = .returned (.bool (Za5 l))/\∃ n,w'=w.drewN n:=by
 have HC:=ħ (Zz6 l w hl hb);have HF:=ħ (fun(m:List Nat) (n:Nat) h1 h2=>Zwe m (w.drewN n) B (hT.keep (fun _ _=>rfl) (đd _)) h1 h2);have HB:=ħ hb;have HLL:=ħ hl;have HV:Hid (Za5 l=(decide (Zbh Zai l<l.length)&&(Zbz (l.take (Zbh Zai l))&&Zbz (l.drop (Zbh Zai l+1))))):=ħ rfl;clear hT hb hl;have H1:=ħ (fun n=>HF.o (l.take (Zbh Zai l)) n (by rw[List.length_take];have:=HLL.o;omega) (fun y hy=>HB.o y (List.mem_of_mem_take hy)));have H2:=ħ (fun n=>HF.o (l.drop (Zbh Zai l+1)) n (by rw[List.length_drop];have:=HLL.o;omega) (fun y hy=>HB.o y (List.mem_of_mem_drop hy)));generalize Zbz (l.take (Zbh Zai l))=b1 at *;generalize Zbz (l.drop (Zbh Zai l+1))=b2 at *;generalize Zad (l.take (Zbh Zai l))=s1 at *;generalize Zad (l.drop (Zbh Zai l+1))=s2 at *;generalize Za5 l=V at *;clear HF HB HLL;generalize Zad l=s0 at *
 go_enter Tryz.func145,Tryz.ntmps145
 go_wp2_with fail
 refine HC.o.mono ?_;rintro e w1 ⟨⟨n,rfl⟩,h⟩;rcases h with ⟨h,rfl⟩ | ⟨h,rfl⟩
 ·rw[decide_eq_true h,đk] at HV
  clear h HC
  go_wp2_with fail
  refine(H1.o n).mono ?_;rintro e w2 ⟨rfl,rfl⟩
  cases b1 with
  | true =>
   go_wp2_with fail
   refine(H2.o n).mono ?_;rintro e w3 ⟨rfl,rfl⟩
   go_wp2
   go_ret;exact⟨Zac (by rw[HV.o];rfl),n,rfl⟩
  | false =>
   go_wp2
   go_ret;exact⟨Zac (by rw[HV.o];rfl),n,rfl⟩
 ·rw[decide_eq_false h,đq] at HV
  clear h HC
  go_wp2
  go_ret;exact⟨Zac HV.o.symm,n,rfl⟩
theorem Zow(l:List Nat)(w:World)(B:Nat)(hT:Tab w B)(hl:l.length<=9223372036854775807)(hb:∀ y∈l,y<256) :
  Calls Tryz.prog 209 #[.string (Zad l)] w fun e w'=>e = .returned (.bool (Zil l))/\∃ n,w'=w.drewN n:=by
 have HN:=ħ (Zl1 l w B hT hl hb);have HV:Hid (Zil l=(l==[]||Za5 l)):=ħ rfl;clear hT hl;by_cases h0:l=[]
 ·have he:=Zc3
  rw[h0] at HV ⊢;generalize Zil []=V at *;clear HN h0;generalize Zad []=s at *
  go_enter Tryz.func209,Tryz.ntmps209
  go_wp2
  go_ret;exact⟨Zac (by rw[HV.o];rfl),0,rfl⟩
 ·have he:=Zdf l (fun h=>h0 (List.eq_nil_of_length_eq_zero h))
  have hbq:(l==[])=false:=by rw[beq_eq_false_iff_ne];exact h0
  rw[hbq,Bool.false_or] at HV;clear hb hbq h0;generalize Za5 l=v at *;generalize Zil l=V at *;generalize Zad l=s at *
  go_enter Tryz.func209,Tryz.ntmps209
  go_wp2_with fail
  refine HN.o.mono ?_;rintro e w2 ⟨rfl,n,rfl⟩
  go_wp2
  go_ret;exact⟨Zac HV.o.symm,n,rfl⟩
end
section
open Go.RowKit Go.Sort
def NmL(l:List Nat):Prop:=(∀ y∈l,y<256)/\l.length<=9223372036854775807
mutual
def ByL:Prd->Prop
 | .mk k l r c ks=>NmL l/\NmL r/\Z2b ks
def Z2b:List Prd->Prop
 | []=>True
 | p::ps=>ByL p/\Z2b ps
end
theorem Ziy:∀ ks:List Prd,Z2b ks↔∀ q∈ks,ByL q
 | []=>by simp[Z2b]
 | p::ps=>by simp[Z2b,Ziy ps]
theorem Zta(κ:Int)(l r:List Nat)(c:Int)(ao:Option Addr)(n cap:Nat)(w:World)(B:Nat)(hT:Tab w B)(hl:NmL l)(hr:NmL r) :
  Calls Tryz.prog 177 #[.agg #[.int .i64 κ,.string (Zad l),.string (Zad r),.int .i64 c,.slice ao n cap]] w fun e w'=>e = .returned (.bool (Zd9 κ l r c n))/\Below w.heap.size w w':=by
 have bx:=(đc w.heap.size w).alloc (đd _) (.cells #[.int .i64 κ,.string (Zad l),.string (Zad r),.int .i64 c,.slice ao n cap] 54);have B1:=ħ bx;have X1:Hid (Zae (w.alloc (.cells #[.int .i64 κ,.string (Zad l),.string (Zad r),.int .i64 c,.slice ao n cap] 54)) w.heap.size 54 [.int .i64 κ,.string (Zad l),.string (Zad r),.int .i64 c,.slice ao n cap]):=ħ (heap_alloc_new w _);have TT:Hid (∀ W:World,Below w.heap.size w W->Tab W B):=ħ (fun W hW=>hT.keep (fun k hk=>hW.block k (đm hk hT.size)) hW.size);have H1:=ħ (fun W hW=>Zow l W B (TT.o W hW) hl.2 hl.1);have H2:=ħ (fun W hW=>Zow r W B (TT.o W hW) hr.2 hr.1);have HV:Hid (Zd9 κ l r c n=(κ==0&&(n==0&&(Zil l&&(Zil r&&(decide (-1099511627776<=c)&&decide (c<1099511627776))))))):=ħ rfl;clear bx hT hl hr TT;generalize Zd9 κ l r c n=V at *;generalize Zil l=b1 at *;generalize Zil r=b2 at *;generalize Zad l=y at *;generalize Zad r=z at *
 go_enter Tryz.func177,Tryz.ntmps177
 go_upto_region 2 with(fail)
 generalize w.alloc (.cells #[.int .i64 κ,.string y,.string z,.int .i64 c,.slice ao n cap] 54)=w1 at *;have x0:=X1.o.cell 0 _ rfl;have x1:=X1.o.cell 1 _ rfl;have x2:=X1.o.cell 2 _ rfl;have x3:=X1.o.cell 3 _ rfl;have x4:=X1.o.cell 4 _ rfl;by_cases k0:κ=0
 ·have k0b:(κ==0)=true:=beq_iff_eq.mpr k0
  rw[k0b,đk] at HV;clear k0;by_cases n0:n=0
  ·have n0b:(n==0)=true:=beq_iff_eq.mpr n0
   have n0c:((n:Int)==0)=true:=by rw[n0];rfl
   rw[n0b,đk] at HV;clear n0
   go_wp2_with fail
   refine(H1.o w1 B1.o).mono ?_;rintro e w2 ⟨rfl,d2⟩;have B2:=ħ (B1.o.trans ((Zbv d2).mono B1.o.size));have X2:=ħ (X1.o.step (Zbv d2));clear d2 x0 x1 x2 x3 x4;have x0:=X2.o.cell 0 _ rfl;have x1:=X2.o.cell 1 _ rfl;have x2:=X2.o.cell 2 _ rfl;have x3:=X2.o.cell 3 _ rfl;have x4:=X2.o.cell 4 _ rfl
   cases b1 with
   | true =>
    rw[đk] at HV
    go_wp2_with fail
    refine(H2.o w2 B2.o).mono ?_;rintro e w3 ⟨rfl,d3⟩;have B3:=ħ (B2.o.trans ((Zbv d3).mono B2.o.size));have X3:=ħ (X2.o.step (Zbv d3));clear d3 x0 x1 x2 x3 x4;have x3:=X3.o.cell 3 _ rfl
    cases b2 with
    | true =>
     rw[đk] at HV;by_cases c1:-1099511627776<=c
     ·have c1b:decide (-1099511627776<=c)=true:=decide_eq_true c1
      rw[c1b,đk] at HV;clear c1
      go_wp2
      go_ret;exact⟨Zac HV.o.symm,B3.o⟩
     ·have c1b:decide (-1099511627776<=c)=false:=decide_eq_false c1
      rw[c1b,đq] at HV;clear c1
      go_wp2
      go_ret;exact⟨Zac HV.o.symm,B3.o⟩
    | false =>
     rw[đq] at HV
     go_wp2
     go_ret;exact⟨Zac HV.o.symm,B3.o⟩
   | false =>
    rw[đq] at HV
    go_wp2
    go_ret;exact⟨Zac HV.o.symm,B2.o⟩
  ·have n0b:(n==0)=false:=beq_eq_false_iff_ne.mpr n0
   have n0c:((n:Int)==0)=false:=by rw[beq_eq_false_iff_ne];omega
   rw[n0b,đq] at HV;clear n0
   go_wp2
   go_ret;exact⟨Zac HV.o.symm,B1.o⟩
 ·have k0b:(κ==0)=false:=beq_eq_false_iff_ne.mpr k0
  rw[k0b,đq] at HV;clear k0
  go_wp2
  go_ret;exact⟨Zac HV.o.symm,B1.o⟩
theorem Ztb(l r:List Nat)(c:Int)(ao:Option Addr)(n cap:Nat)(w:World)(B:Nat)(hT:Tab w B)(hl:NmL l)(hr:NmL r) :
  Calls Tryz.prog 137 #[.agg #[.int .i64 0,.string (Zad l),.string (Zad r),.int .i64 c,.slice ao n cap]] w fun e w'=>e = .returned (.bool (Zd9 0 l r c n))/\Below w.heap.size w w':=by
 have bx:=(đc w.heap.size w).alloc (đd _) (.cells #[.int .i64 0,.string (Zad l),.string (Zad r),.int .i64 c,.slice ao n cap] 54);have B1:=ħ bx;have X1:Hid (Zae (w.alloc (.cells #[.int .i64 0,.string (Zad l),.string (Zad r),.int .i64 c,.slice ao n cap] 54)) w.heap.size 54 [.int .i64 0,.string (Zad l),.string (Zad r),.int .i64 c,.slice ao n cap]):=ħ (heap_alloc_new w _);have HA:=ħ (fun W hW=>Zta 0 l r c ao n cap W B (Zbw.step (w:=w) (w':=W) hT hW) hl hr);clear bx hT hl hr;generalize Zd9 0 l r c n=V at *;generalize Zad l=y at *;generalize Zad r=z at *
 go_enter Tryz.func137,Tryz.ntmps137
 go_upto_region 1 with(fail)
 generalize w.alloc (.cells #[.int .i64 0,.string y,.string z,.int .i64 c,.slice ao n cap] 54)=w1 at *;have x0:=X1.o.cell 0 _ rfl;have x4:=X1.o.cell 4 _ rfl
 go_wp2_with (refine wpList_load_row rfl 54 (.tmp 1) rfl w.heap.size ?x1 54 (Z31 0 y z c ao n cap).toArray (0,0) _ X1.o Tryz.underlying54 rfl (Za4 _ rfl) ?_;(case x1=>rfl))
 refine(HA.o w1 B1.o).mono ?_;rintro e w2 ⟨rfl,b2⟩;have B2:=ħ (B1.o.trans (b2.mono B1.o.size));clear b2
 go_wp2
 go_ret;exact⟨rfl,B2.o⟩
theorem Zju:∀ (N:Nat) (p:Prd) (w:World) (P:Nat->Prop) (vs:List Value) (B:Nat),Zb0 p<=N->N<=1000000->ByL p->Zao w P p vs->Tab w B ->
  Calls Tryz.prog 137 #[.agg vs.toArray] w fun e w'=>e = .returned (.bool (Zay p))/\Below w.heap.size w w'
 | 0,p,w,P,vs,B,hN,_,_,_,_=>by have:=Zek p;omega
 | N+1,.mk κ l r c ks,w,P,vs,B,hN,hM,hb,h,hT=>by
  have hc2:Zb2 ks<=N:=by unfold Zb0 at hN;omega
  have hl:=Zbq ks;unfold Zao at h;unfold ByL at hb;obtain⟨ao,cap,rfl,hk⟩:=h;by_cases hκ:κ=0
  ·subst hκ
   have:=Ztb l r c ao ks.length cap w B hT hb.1 hb.2.1;rw[Zfz,if_pos rfl];exact this
  ·exact Zop w P κ l r c ks ao ks.length cap hκ rfl (by omega) B hT hk (fun q w' us hq hpc hT'=>Zju N q w' P us B (by
    obtain⟨i,hi⟩:=đs.1 hq;have:=Zel ks i q hi
    omega) (by omega) ((Ziy ks).1 hb.2.2 q hq) hpc hT')
theorem Ztc(p:Prd)(w:World)(P:Nat->Prop)(vs:List Value)(B:Nat)(hN:Zb0 p<=1000000)(hb:ByL p)(h:Zao w P p vs)(hT:Tab w B) :
  Calls Tryz.prog 74 #[.agg vs.toArray] w fun e w'=>e = .returned (.bool (Zba p))/\Below w.heap.size w w':=by
 obtain⟨xa,xn,xc,rfl,-⟩:=h.form;have bx:=(đc w.heap.size w).alloc (đd _) (.cells #[.int .i64 p.k,.string (Zad p.l),.string (Zad p.r),.int .i64 p.c,.slice xa xn xc] 54);have B1:=ħ bx;have X1:Hid (Zae (w.alloc (.cells #[.int .i64 p.k,.string (Zad p.l),.string (Zad p.r),.int .i64 p.c,.slice xa xn xc] 54)) w.heap.size 54 [.int .i64 p.k,.string (Zad p.l),.string (Zad p.r),.int .i64 p.c,.slice xa xn xc]):=ħ (heap_alloc_new w _);have HS:=ħ (fun W (hW:Below w.heap.size w W)=>Zn6 W P p [.int .i64 p.k,.string (Zad p.l),.string (Zad p.r),.int .i64 p.c,.slice xa xn xc] (h.below hW) hN);have HF:=ħ (fun W (hW:Below w.heap.size w W)=>Zju 1000000 p W P [.int .i64 p.k,.string (Zad p.l),.string (Zad p.r),.int .i64 p.c,.slice xa xn xc] B hN (đd _) hb (h.below hW) (Zbw.step (w:=w) hT hW));have HV:Hid (Zba p=(Zc6 p&&Zay p)):=ħ rfl;obtain⟨V,hV⟩:∃ V,Zba p=V:=⟨_,rfl⟩;rw[hV] at HV ⊢;clear bx h hT hb hN hV;generalize Zc6 p=s at *;generalize Zay p=f at *;generalize p.k=q0 at *;generalize Zad p.l=q1 at *;generalize Zad p.r=q2 at *;generalize p.c=q3 at *
 go_enter Tryz.func74,Tryz.ntmps74
 go_upto_region 1 with(fail)
 generalize w.alloc (.cells #[.int .i64 q0,.string q1,.string q2,.int .i64 q3,.slice xa xn xc] 54)=w1 at *
 go_wp2_with (refine wpList_load_row rfl 54 (.tmp 1) rfl w.heap.size ?x1 54 #[.int .i64 q0,.string q1,.string q2,.int .i64 q3,.slice xa xn xc] (0,0) _ X1.o Tryz.underlying54 rfl (Za4 _ rfl) ?_;(case x1=>rfl))
 refine(HS.o w1 B1.o).mono ?_;rintro e w2 ⟨rfl,b2⟩;have B2:=ħ (B1.o.trans (b2.mono B1.o.size));have X2:=ħ (X1.o.step b2);clear b2
 cases s with
 | false =>
  rw[đq] at HV
  go_wp2
  go_ret;exact⟨Zac HV.o.symm,B2.o⟩
 | true =>
  rw[đk] at HV
  go_wp2_with (refine Zbp (by rfl) 54 (.tmp 1) rfl w.heap.size ?x2 54 #[.int .i64 q0,.string q1,.string q2,.int .i64 q3,.slice xa xn xc] (0,0) _ X2.o Tryz.underlying54 rfl (Za4 _ rfl) ?_;(case x2=>rfl))
  refine(HF.o w2 B2.o).mono ?_;rintro e w3 ⟨rfl,b3⟩;have B3:=ħ (B2.o.trans (b3.mono B2.o.size));clear b3
  go_wp2
  go_ret;exact⟨Zac HV.o.symm,B3.o⟩
end
end Go.Proofs.YtbcgocpihobjnaaGreatDoor
