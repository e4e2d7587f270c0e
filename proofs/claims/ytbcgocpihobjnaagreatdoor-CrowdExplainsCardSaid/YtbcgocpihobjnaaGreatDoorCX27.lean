import Derived.Shelf.RegionOpenPlain
import Derived.Lib.IndexBytes
import Derived.Test.YtbcgocpihobjnaaGreatDoorCX23
set_option linter.all false
set_option maxHeartbeats 8000000
set_option maxRecDepth 100000
namespace Go.Proofs.YtbcgocpihobjnaaGreatDoor
section
open Go.RowKit Go.Sort
theorem Zqp (l:List Nat) (hb:∀ y∈l,y<256):Lib.indexByte (Zag l).data.toList 46=if Zbc Zai l<l.length then (Zbc Zai l:Int) else -1:=by
 rw[Zmx,← Lib.index_one];exact Zi0 l hb
theorem Zwp (l:List Nat) (w:World) (hl:l.length≤9223372036854775807) (hb:∀ y∈l,y<256) :
  Calls Tryz.prog 210 #[.string (Zag l),.string ⟨#[46]⟩] w fun e w'=>(∃ n,w'=w.drewN n)∧(Zbc Zai l<l.length∧e = .returned (.tuple #[.string (Zag (l.take (Zbc Zai l))),.string (Zag (l.drop (Zbc Zai l+1))),.bool true])∨¬ Zbc Zai l<l.length∧e = .returned (.tuple #[.string (Zag l),.string ⟨#[]⟩,.bool false])):=by
 have HC:=ħ (Tryz.stringslite_Index_one (Zag l) 46 w);rw[Zqp l hb] at HC;by_cases h:Zbc Zai l<l.length
 ·rw[if_pos h] at HC
  have hs1:(Zag l).extract 0 (Zbc Zai l)=Zag (l.take (Zbc Zai l)):=Zub l _ (by omega)
  have hs2:(Zag l).extract (Zbc Zai l+1) l.length=Zag (l.drop (Zbc Zai l+1)):=by rw[← Zbv l];exact Zua l _
  have hz:(Zag l).size=l.length:=Zbv l;have HH:=ħ h;generalize Zag (l.take (Zbc Zai l))=s1 at *;generalize Zag (l.drop (Zbc Zai l+1))=s2 at *;generalize Zbc Zai l=i at *
  have c1:(0:Int)≤↑i:=by omega
  have c2:(↑i:Int)≤↑l.length:=by omega
  have c3:(0:Int)≤↑i+1:=by omega
  have c4:(↑i+1:Int)≤↑l.length:=by omega
  have e2:IntKind.i64.wrap ((i:Int)+1)=(i:Int)+1:=IntWalk.i64_in _ (by omega);clear hb;generalize l.length=m at *;generalize Zag l=s at *
  have mixed:Tryz.prog.follows .mixedOrders=true:=by kernel_rfl
  go_enter Tryz.func210,Tryz.ntmps210
  go_wp2_with fail
  refine HC.o.mono ?_;rintro e w1 ⟨rfl,rfl⟩
  go_wp2_with fail
  go_region_o
  go_wp2
  go_ret3
  exact⟨⟨1,rfl⟩,.inl ⟨HH.o,rfl⟩⟩
 ·rw[if_neg h] at HC
  have HH:=ħ h;generalize Zbc Zai l=i at *;clear hb h;generalize Zag l=s at *
  go_enter Tryz.func210,Tryz.ntmps210
  go_wp2_with fail
  refine HC.o.mono ?_;rintro e w1 ⟨rfl,rfl⟩
  go_wp2
  go_ret3
  exact⟨⟨0,rfl⟩,.inr ⟨HH.o,rfl⟩⟩
theorem Zwq (l:List Nat) (w:World) (hl:l.length≤9223372036854775807) (hb:∀ y∈l,y<256) :
  Calls Tryz.prog 179 #[.string (Zag l),.string ⟨#[46]⟩] w fun e w'=>(∃ n,w'=w.drewN n)∧(Zbc Zai l<l.length∧e = .returned (.tuple #[.string (Zag (l.take (Zbc Zai l))),.string (Zag (l.drop (Zbc Zai l+1))),.bool true])∨¬ Zbc Zai l<l.length∧e = .returned (.tuple #[.string (Zag l),.string ⟨#[]⟩,.bool false])):=by
 have HC:=ħ (Zwp l w hl hb);clear hb;generalize Zag (l.take (Zbc Zai l))=s1 at *;generalize Zag (l.drop (Zbc Zai l+1))=s2 at *;generalize Zag l=s at *
 go_enter Tryz.func179,Tryz.ntmps179
 go_wp2_with fail
 refine HC.o.mono ?_;rintro e w1 ⟨hd,h⟩;have HD:=ħ hd;clear hd;rcases h with ⟨h,rfl⟩ | ⟨h,rfl⟩
 ·have HH:=ħ h
  clear h
  go_wp2
  go_ret3
  exact⟨HD.o,.inl ⟨HH.o,rfl⟩⟩
 ·have HH:=ħ h
  clear h
  go_wp2
  go_ret3
  exact⟨HD.o,.inr ⟨HH.o,rfl⟩⟩
theorem Zqq (l:List Nat) (h20:1000000<l.length) (w:World) (hl:l.length≤9223372036854775807) (hb:∀ y∈l,y<256) :
  Calls Tryz.prog 211 #[.string (Zag l)] w fun e w'=>e = .returned (.bool (Zel l))∧w=w':=by
 have SZ:=ħ (Zbv l)
 have hx:∀ w,(Instr.index 9 (.string (Zag l)) (.int .i64 0)).run Tryz.prog w = .ok (.int .u8 ((l.getD 0 0:Nat):Int)) w:=fun w=>Zt6 l 0 (by omega) hb w
 obtain⟨v,hv⟩:∃ v,l.getD 0 0=v:=⟨_,rfl⟩;rw[hv] at hx;obtain⟨q,hq⟩:∃ q,Zxx v=q:=⟨_,rfl⟩;have HQ:=ħ hq;have hne:=Zf7 l (by omega);have HV:Hid (Zel l=false):=ħ (by unfold Zel;rw[decide_eq_false (show ¬ l.length≤20 by omega)];simp)
 have i20:¬ ((l.length:Int)≤20):=by omega
 generalize Zel l=V at *;clear hv hq hb;generalize Zag l=t at *
 go_enter Tryz.func211,Tryz.ntmps211
 go_wp2_with fail
 refine (Zgt v w).mono ?_;rintro e w1 ⟨rfl,rfl⟩;rw[HQ.o]
 cases q with
 | false =>
  go_wp2
  go_ret;exact⟨Zac HV.o.symm,rfl⟩
 | true =>
  have hsz:=SZ.o
  go_wp2
  go_ret;exact⟨Zac HV.o.symm,rfl⟩
theorem Zs6 (l:List Nat) (w:World) (hl:l.length≤9223372036854775807) (hb:∀ y∈l,y<256) :
  Calls Tryz.prog 211 #[.string (Zag l)] w fun e w'=>e = .returned (.bool (Zel l))∧w=w':=by
 by_cases h:l.length≤1000000
 ·exact Zpz l w h hb
 ·exact Zqq l (by omega) w hl hb
theorem Zs7 (l:List Nat) (w:World) (B:Nat) (hT:Tab w B) (hl:l.length≤9223372036854775807) (hb:∀ y∈l,y<256) :
  Calls Tryz.prog 180 #[.string (Zag l)] w fun e w'=>e = .returned (.bool (Zdw l))∧w=w':=by
 by_cases h:l.length≤1000000
 ·exact Zp4 l w B hT h hb
 have HN:=ħ (fun w=>Zs6 l w hl hb);have HV:Hid (Zel l=false):=ħ (by unfold Zel;rw[decide_eq_false (show ¬ l.length≤20 by omega)];simp);have HF:Hid (Zdw l=false):=ħ (by unfold Zdw;rw[HV.o];rfl);rw[HV.o] at HN;rw[HF.o];clear hb hT;generalize Zag l=t at *
 go_enter Tryz.func180,Tryz.ntmps180
 go_wp2_with fail
 refine (HN.o _).mono ?_;rintro e w' ⟨rfl,rfl⟩
 go_wp2
 go_ret;exact⟨rfl,rfl⟩
theorem Zkb (l:List Nat) (w:World) (B:Nat) (hT:Tab w B) (hl:l.length≤9223372036854775807) (hb:∀ y∈l,y<256) :
  Calls Tryz.prog 145 #[.string (Zag l)] w fun e w'=>e = .returned (.bool (Zb8 l))∧∃ n,w'=w.drewN n:=by
 have HC:=ħ (Zwq l w hl hb);have HF:=ħ (fun (m:List Nat) (n:Nat) h1 h2=>Zs7 m (w.drewN n) B (hT.keep (fun _ _=>rfl) (Nat.le_refl _)) h1 h2);have HB:=ħ hb;have HLL:=ħ hl;have HV:Hid (Zb8 l=(decide (Zbc Zai l<l.length)&&(Zdw (l.take (Zbc Zai l))&&Zdw (l.drop (Zbc Zai l+1))))):=ħ rfl;clear hT hb hl;have H1:=ħ (fun n=>HF.o (l.take (Zbc Zai l)) n (by rw[List.length_take];have:=HLL.o;omega) (fun y hy=>HB.o y (List.mem_of_mem_take hy)));have H2:=ħ (fun n=>HF.o (l.drop (Zbc Zai l+1)) n (by rw[List.length_drop];have:=HLL.o;omega) (fun y hy=>HB.o y (List.mem_of_mem_drop hy)));generalize Zdw (l.take (Zbc Zai l))=b1 at *;generalize Zdw (l.drop (Zbc Zai l+1))=b2 at *;generalize Zag (l.take (Zbc Zai l))=s1 at *;generalize Zag (l.drop (Zbc Zai l+1))=s2 at *;generalize Zb8 l=V at *;clear HF HB HLL;generalize Zag l=s0 at *
 go_enter Tryz.func145,Tryz.ntmps145
 go_wp2_with fail
 refine HC.o.mono ?_;rintro e w1 ⟨⟨n,rfl⟩,h⟩;rcases h with ⟨h,rfl⟩ | ⟨h,rfl⟩
 ·rw[decide_eq_true h,Bool.true_and] at HV
  clear h HC
  go_wp2_with fail
  refine (H1.o n).mono ?_;rintro e w2 ⟨rfl,rfl⟩
  cases b1 with
  | true =>
   go_wp2_with fail
   refine (H2.o n).mono ?_;rintro e w3 ⟨rfl,rfl⟩
   go_wp2
   go_ret;exact⟨Zac (by rw[HV.o];rfl),n,rfl⟩
  | false =>
   go_wp2
   go_ret;exact⟨Zac (by rw[HV.o];rfl),n,rfl⟩
 ·rw[decide_eq_false h,Bool.false_and] at HV
  clear h HC
  go_wp2
  go_ret;exact⟨Zac HV.o.symm,n,rfl⟩
theorem Zm5 (l:List Nat) (w:World) (B:Nat) (hT:Tab w B) (hl:l.length≤9223372036854775807) (hb:∀ y∈l,y<256) :
  Calls Tryz.prog 209 #[.string (Zag l)] w fun e w'=>e = .returned (.bool (Zh0 l))∧∃ n,w'=w.drewN n:=by
 have HN:=ħ (Zkb l w B hT hl hb);have HV:Hid (Zh0 l=(l==[]||Zb8 l)):=ħ rfl;clear hT hl;by_cases h0:l=[]
 ·have he:=Zf8
  rw[h0] at HV ⊢;generalize Zh0 []=V at *;clear HN h0;generalize Zag []=s at *
  go_enter Tryz.func209,Tryz.ntmps209
  go_wp2
  go_ret;exact⟨Zac (by rw[HV.o];rfl),0,rfl⟩
 ·have he:=Zf7 l (fun h=>h0 (List.eq_nil_of_length_eq_zero h))
  have hbq:(l==[])=false:=by rw[beq_eq_false_iff_ne];exact h0
  rw[hbq,Bool.false_or] at HV;clear hb hbq h0;generalize Zb8 l=v at *;generalize Zh0 l=V at *;generalize Zag l=s at *
  go_enter Tryz.func209,Tryz.ntmps209
  go_wp2_with fail
  refine HN.o.mono ?_;rintro e w2 ⟨rfl,n,rfl⟩
  go_wp2
  go_ret;exact⟨Zac HV.o.symm,n,rfl⟩
end
section
open Go.RowKit Go.Sort
def NmL (l:List Nat):Prop:=(∀ y∈l,y<256)∧l.length≤9223372036854775807
mutual
def ByL:Prd→Prop
 | .mk k l r c ks=>NmL l∧NmL r∧Zyy ks
def Zyy:List Prd→Prop
 | []=>True
 | p::ps=>ByL p∧Zyy ps
end
theorem Zk7:∀ ks:List Prd,Zyy ks↔∀ q∈ks,ByL q
 | []=>by simp[Zyy]
 | p::ps=>by simp[Zyy,Zk7 ps]
theorem Zqr (κ:Int) (l r:List Nat) (c:Int) (ao:Option Addr) (n cap:Nat) (w:World) (B:Nat) (hT:Tab w B) (hl:NmL l) (hr:NmL r) :
  Calls Tryz.prog 177 #[.agg #[.int .i64 κ,.string (Zag l),.string (Zag r),.int .i64 c,.slice ao n cap]] w fun e w'=>e = .returned (.bool (Zh1 κ l r c n))∧Below w.heap.size w w':=by
 have bx:=(Below.refl w.heap.size w).alloc (Nat.le_refl _) (.cells #[.int .i64 κ,.string (Zag l),.string (Zag r),.int .i64 c,.slice ao n cap] 54);have B1:=ħ bx;have X1:Hid (Zaf (w.alloc (.cells #[.int .i64 κ,.string (Zag l),.string (Zag r),.int .i64 c,.slice ao n cap] 54)) w.heap.size 54 [.int .i64 κ,.string (Zag l),.string (Zag r),.int .i64 c,.slice ao n cap]):=ħ (heap_alloc_new w _);have TT:Hid (∀ W:World,Below w.heap.size w W→Tab W B):=ħ (fun W hW=>hT.keep (fun k hk=>hW.block k (Nat.lt_of_lt_of_le hk hT.size)) hW.size);have H1:=ħ (fun W hW=>Zm5 l W B (TT.o W hW) hl.2 hl.1);have H2:=ħ (fun W hW=>Zm5 r W B (TT.o W hW) hr.2 hr.1);have HV:Hid (Zh1 κ l r c n=(κ==0&&(n==0&&(Zh0 l&&(Zh0 r&&(decide (-1099511627776≤c)&&decide (c<1099511627776))))))):=ħ rfl;clear bx hT hl hr TT;generalize Zh1 κ l r c n=V at *;generalize Zh0 l=b1 at *;generalize Zh0 r=b2 at *;generalize Zag l=y at *;generalize Zag r=z at *
 go_enter Tryz.func177,Tryz.ntmps177
 go_upto_region 2 with (fail)
 generalize w.alloc (.cells #[.int .i64 κ,.string y,.string z,.int .i64 c,.slice ao n cap] 54)=w1 at *;have x0:=X1.o.cell 0 _ rfl;have x1:=X1.o.cell 1 _ rfl;have x2:=X1.o.cell 2 _ rfl;have x3:=X1.o.cell 3 _ rfl;have x4:=X1.o.cell 4 _ rfl;by_cases k0:κ=0
 ·have k0b:(κ==0)=true:=beq_iff_eq.mpr k0
  rw[k0b,Bool.true_and] at HV;clear k0;by_cases n0:n=0
  ·have n0b:(n==0)=true:=beq_iff_eq.mpr n0
   have n0c:((n:Int)==0)=true:=by rw[n0];rfl
   rw[n0b,Bool.true_and] at HV;clear n0
   go_wp2_with fail
   refine (H1.o w1 B1.o).mono ?_;rintro e w2 ⟨rfl,d2⟩;have B2:=ħ (B1.o.trans ((Zbj d2).mono B1.o.size));have X2:=ħ (X1.o.step (Zbj d2));clear d2 x0 x1 x2 x3 x4;have x0:=X2.o.cell 0 _ rfl;have x1:=X2.o.cell 1 _ rfl;have x2:=X2.o.cell 2 _ rfl;have x3:=X2.o.cell 3 _ rfl;have x4:=X2.o.cell 4 _ rfl
   cases b1 with
   | true =>
    rw[Bool.true_and] at HV
    go_wp2_with fail
    refine (H2.o w2 B2.o).mono ?_;rintro e w3 ⟨rfl,d3⟩;have B3:=ħ (B2.o.trans ((Zbj d3).mono B2.o.size));have X3:=ħ (X2.o.step (Zbj d3));clear d3 x0 x1 x2 x3 x4;have x3:=X3.o.cell 3 _ rfl
    cases b2 with
    | true =>
     rw[Bool.true_and] at HV;by_cases c1:-1099511627776≤c
     ·have c1b:decide (-1099511627776≤c)=true:=decide_eq_true c1
      rw[c1b,Bool.true_and] at HV;clear c1
      go_wp2
      go_ret;exact⟨Zac HV.o.symm,B3.o⟩
     ·have c1b:decide (-1099511627776≤c)=false:=decide_eq_false c1
      rw[c1b,Bool.false_and] at HV;clear c1
      go_wp2
      go_ret;exact⟨Zac HV.o.symm,B3.o⟩
    | false =>
     rw[Bool.false_and] at HV
     go_wp2
     go_ret;exact⟨Zac HV.o.symm,B3.o⟩
   | false =>
    rw[Bool.false_and] at HV
    go_wp2
    go_ret;exact⟨Zac HV.o.symm,B2.o⟩
  ·have n0b:(n==0)=false:=beq_eq_false_iff_ne.mpr n0
   have n0c:((n:Int)==0)=false:=by rw[beq_eq_false_iff_ne];omega
   rw[n0b,Bool.false_and] at HV;clear n0
   go_wp2
   go_ret;exact⟨Zac HV.o.symm,B1.o⟩
 ·have k0b:(κ==0)=false:=beq_eq_false_iff_ne.mpr k0
  rw[k0b,Bool.false_and] at HV;clear k0
  go_wp2
  go_ret;exact⟨Zac HV.o.symm,B1.o⟩
theorem Zqs (l r:List Nat) (c:Int) (ao:Option Addr) (n cap:Nat) (w:World) (B:Nat) (hT:Tab w B) (hl:NmL l) (hr:NmL r) :
  Calls Tryz.prog 137 #[.agg #[.int .i64 0,.string (Zag l),.string (Zag r),.int .i64 c,.slice ao n cap]] w fun e w'=>e = .returned (.bool (Zh1 0 l r c n))∧Below w.heap.size w w':=by
 have bx:=(Below.refl w.heap.size w).alloc (Nat.le_refl _) (.cells #[.int .i64 0,.string (Zag l),.string (Zag r),.int .i64 c,.slice ao n cap] 54);have B1:=ħ bx;have X1:Hid (Zaf (w.alloc (.cells #[.int .i64 0,.string (Zag l),.string (Zag r),.int .i64 c,.slice ao n cap] 54)) w.heap.size 54 [.int .i64 0,.string (Zag l),.string (Zag r),.int .i64 c,.slice ao n cap]):=ħ (heap_alloc_new w _);have HA:=ħ (fun W hW=>Zqr 0 l r c ao n cap W B (Zbk.step (w:=w) (w':=W) hT hW) hl hr);clear bx hT hl hr;generalize Zh1 0 l r c n=V at *;generalize Zag l=y at *;generalize Zag r=z at *
 go_enter Tryz.func137,Tryz.ntmps137
 go_upto_region 1 with (fail)
 generalize w.alloc (.cells #[.int .i64 0,.string y,.string z,.int .i64 c,.slice ao n cap] 54)=w1 at *;have x0:=X1.o.cell 0 _ rfl;have x4:=X1.o.cell 4 _ rfl
 go_wp2_with (refine wpList_load_row rfl 54 (.tmp 1) rfl w.heap.size ?x1 54 (Z0o 0 y z c ao n cap).toArray (0,0) _ X1.o Tryz.underlying54 rfl (Zbz _ rfl) ?_;(case x1=>rfl))
 refine (HA.o w1 B1.o).mono ?_;rintro e w2 ⟨rfl,b2⟩;have B2:=ħ (B1.o.trans (b2.mono B1.o.size));clear b2
 go_wp2
 go_ret;exact⟨rfl,B2.o⟩
theorem Zi6:∀ (N:Nat) (p:Prd) (w:World) (P:Nat→Prop) (vs:List Value) (B:Nat),Zdn p≤N→N≤1000000→ByL p→Zal w P p vs→Tab w B →
  Calls Tryz.prog 137 #[.agg vs.toArray] w fun e w'=>e = .returned (.bool (Zcc p))∧Below w.heap.size w w'
 | 0,p,w,P,vs,B,hN,_,_,_,_=>by have:=Zgp p;omega
 | N+1,.mk κ l r c ks,w,P,vs,B,hN,hM,hb,h,hT=>by
  have hc2:Zec ks≤N:=by unfold Zdn at hN;omega
  have hl:=Zcn ks;unfold Zal at h;unfold ByL at hb;obtain⟨ao,cap,rfl,hk⟩:=h;by_cases hκ:κ=0
  ·subst hκ
   have:=Zqs l r c ao ks.length cap w B hT hb.1 hb.2.1;rw[Zk2,if_pos rfl];exact this
  ·exact Zm0 w P κ l r c ks ao ks.length cap hκ rfl (by omega) B hT hk (fun q w' us hq hpc hT'=>Zi6 N q w' P us B (by
    obtain⟨i,hi⟩:=List.mem_iff_getElem?.1 hq;have:=Zgq ks i q hi
    omega) (by omega) ((Zk7 ks).1 hb.2.2 q hq) hpc hT')
theorem Zqt (p:Prd) (w:World) (P:Nat→Prop) (vs:List Value) (B:Nat) (hN:Zdn p≤1000000) (hb:ByL p) (h:Zal w P p vs) (hT:Tab w B) :
  Calls Tryz.prog 74 #[.agg vs.toArray] w fun e w'=>e = .returned (.bool (Zbs p))∧Below w.heap.size w w':=by
 obtain⟨xa,xn,xc,rfl,-⟩:=h.form;have bx:=(Below.refl w.heap.size w).alloc (Nat.le_refl _) (.cells #[.int .i64 p.k,.string (Zag p.l),.string (Zag p.r),.int .i64 p.c,.slice xa xn xc] 54);have B1:=ħ bx;have X1:Hid (Zaf (w.alloc (.cells #[.int .i64 p.k,.string (Zag p.l),.string (Zag p.r),.int .i64 p.c,.slice xa xn xc] 54)) w.heap.size 54 [.int .i64 p.k,.string (Zag p.l),.string (Zag p.r),.int .i64 p.c,.slice xa xn xc]):=ħ (heap_alloc_new w _);have HS:=ħ (fun W (hW:Below w.heap.size w W)=>Zmh W P p [.int .i64 p.k,.string (Zag p.l),.string (Zag p.r),.int .i64 p.c,.slice xa xn xc] (h.below hW) hN);have HF:=ħ (fun W (hW:Below w.heap.size w W)=>Zi6 1000000 p W P [.int .i64 p.k,.string (Zag p.l),.string (Zag p.r),.int .i64 p.c,.slice xa xn xc] B hN (Nat.le_refl _) hb (h.below hW) (Zbk.step (w:=w) hT hW));have HV:Hid (Zbs p=(Zfa p&&Zcc p)):=ħ rfl;obtain⟨V,hV⟩:∃ V,Zbs p=V:=⟨_,rfl⟩;rw[hV] at HV ⊢;clear bx h hT hb hN hV;generalize Zfa p=s at *;generalize Zcc p=f at *;generalize p.k=q0 at *;generalize Zag p.l=q1 at *;generalize Zag p.r=q2 at *;generalize p.c=q3 at *
 go_enter Tryz.func74,Tryz.ntmps74
 go_upto_region 1 with (fail)
 generalize w.alloc (.cells #[.int .i64 q0,.string q1,.string q2,.int .i64 q3,.slice xa xn xc] 54)=w1 at *
 go_wp2_with (refine wpList_load_row rfl 54 (.tmp 1) rfl w.heap.size ?x1 54 #[.int .i64 q0,.string q1,.string q2,.int .i64 q3,.slice xa xn xc] (0,0) _ X1.o Tryz.underlying54 rfl (Zbz _ rfl) ?_;(case x1=>rfl))
 refine (HS.o w1 B1.o).mono ?_;rintro e w2 ⟨rfl,b2⟩;have B2:=ħ (B1.o.trans (b2.mono B1.o.size));have X2:=ħ (X1.o.step b2);clear b2
 cases s with
 | false =>
  rw[Bool.false_and] at HV
  go_wp2
  go_ret;exact⟨Zac HV.o.symm,B2.o⟩
 | true =>
  rw[Bool.true_and] at HV
  go_wp2_with (refine Za1 (by rfl) 54 (.tmp 1) rfl w.heap.size ?x2 54 #[.int .i64 q0,.string q1,.string q2,.int .i64 q3,.slice xa xn xc] (0,0) _ X2.o Tryz.underlying54 rfl (Zbz _ rfl) ?_;(case x2=>rfl))
  refine (HF.o w2 B2.o).mono ?_;rintro e w3 ⟨rfl,b3⟩;have B3:=ħ (B2.o.trans (b3.mono B2.o.size));clear b3
  go_wp2
  go_ret;exact⟨Zac HV.o.symm,B3.o⟩
end
end Go.Proofs.YtbcgocpihobjnaaGreatDoor
