import Derived.Shelf.RegionOpenPlain
import Derived.Lib.IndexBytes
import Derived.Test.YtbcgocpihobjnaaGreatDoorCE23
set_option linter.all false
set_option maxHeartbeats 8000000
set_option maxRecDepth 100000
namespace Go.Proofs.YtbcgocpihobjnaaGreatDoor
section
open Go.RowKit Go.Sort
theorem Zr8 (l:List Nat) (hb:∀ y∈l,y<256):Lib.indexByte (Zag l).data.toList 46=if Zbh Zai l<l.length then (Zbh Zai l:Int) else -1:=by
 rw[Zn6,← Lib.index_one];exact Zin l hb
theorem Zyk (l:List Nat) (w:World) (hl:l.length≤9223372036854775807) (hb:∀ y∈l,y<256) :
  Calls Tryz.prog 210 #[.string (Zag l),.string ⟨#[46]⟩] w fun e w'=>(∃ n,w'=w.drewN n)∧(Zbh Zai l<l.length∧e = .returned (.tuple #[.string (Zag (l.take (Zbh Zai l))),.string (Zag (l.drop (Zbh Zai l+1))),.bool true])∨¬ Zbh Zai l<l.length∧e = .returned (.tuple #[.string (Zag l),.string ⟨#[]⟩,.bool false])):=by
 have HC:=ħ (Tryz.stringslite_Index_one (Zag l) 46 w);rw[Zr8 l hb] at HC;by_cases h:Zbh Zai l<l.length
 ·rw[if_pos h] at HC
  have hs1:(Zag l).extract 0 (Zbh Zai l)=Zag (l.take (Zbh Zai l)):=Zvw l _ (by omega)
  have hs2:(Zag l).extract (Zbh Zai l+1) l.length=Zag (l.drop (Zbh Zai l+1)):=by rw[← Zby l];exact Zvv l _
  have hz:(Zag l).size=l.length:=Zby l;have HH:=ħ h;generalize Zag (l.take (Zbh Zai l))=s1 at *;generalize Zag (l.drop (Zbh Zai l+1))=s2 at *;generalize Zbh Zai l=i at *
  have c1:(0:Int)≤↑i:=by omega
  have c2:(↑i:Int)≤↑l.length:=by omega
  have c3:(0:Int)≤↑i+1:=by omega
  have c4:(↑i+1:Int)≤↑l.length:=by omega
  have e2:IntKind.i64.wrap ((i:Int)+1)=(i:Int)+1:=IntWalk.i64_in _ (by omega);clear hb;generalize l.length=m at *;generalize Zag l=s at *
  have mixed:Tryz.prog.follows .mixedOrders=true:=by kernel_rfl
  go_enter Tryz.func210,Tryz.ntmps210
  go_wp2_with fail
  refine HC.o.mono ?_;rintro e w1 ⟨rfl,rfl⟩
  go_wp2_with fail
  go_region_o
  go_wp2
  go_ret3
  exact⟨⟨1,rfl⟩,.inl ⟨HH.o,rfl⟩⟩
 ·rw[if_neg h] at HC
  have HH:=ħ h;generalize Zbh Zai l=i at *;clear hb h;generalize Zag l=s at *
  go_enter Tryz.func210,Tryz.ntmps210
  go_wp2_with fail
  refine HC.o.mono ?_;rintro e w1 ⟨rfl,rfl⟩
  go_wp2
  go_ret3
  exact⟨⟨0,rfl⟩,.inr ⟨HH.o,rfl⟩⟩
theorem Zyl (l:List Nat) (w:World) (hl:l.length≤9223372036854775807) (hb:∀ y∈l,y<256) :
  Calls Tryz.prog 179 #[.string (Zag l),.string ⟨#[46]⟩] w fun e w'=>(∃ n,w'=w.drewN n)∧(Zbh Zai l<l.length∧e = .returned (.tuple #[.string (Zag (l.take (Zbh Zai l))),.string (Zag (l.drop (Zbh Zai l+1))),.bool true])∨¬ Zbh Zai l<l.length∧e = .returned (.tuple #[.string (Zag l),.string ⟨#[]⟩,.bool false])):=by
 have HC:=ħ (Zyk l w hl hb);clear hb;generalize Zag (l.take (Zbh Zai l))=s1 at *;generalize Zag (l.drop (Zbh Zai l+1))=s2 at *;generalize Zag l=s at *
 go_enter Tryz.func179,Tryz.ntmps179
 go_wp2_with fail
 refine HC.o.mono ?_;rintro e w1 ⟨hd,h⟩;have HD:=ħ hd;clear hd;rcases h with ⟨h,rfl⟩ | ⟨h,rfl⟩
 ·have HH:=ħ h
  clear h
  go_wp2
  go_ret3
  exact⟨HD.o,.inl ⟨HH.o,rfl⟩⟩
 ·have HH:=ħ h
  clear h
  go_wp2
  go_ret3
  exact⟨HD.o,.inr ⟨HH.o,rfl⟩⟩
theorem Zr9 (l:List Nat) (h20:1000000<l.length) (w:World) (hl:l.length≤9223372036854775807) (hb:∀ y∈l,y<256) :
  Calls Tryz.prog 211 #[.string (Zag l)] w fun e w'=>e = .returned (.bool (Zev l))∧w=w':=by
 have SZ:=ħ (Zby l)
 have hx:∀ w,(Instr.index 9 (.string (Zag l)) (.int .i64 0)).run Tryz.prog w = .ok (.int .u8 ((l.getD 0 0:Nat):Int)) w:=fun w=>Zvr l 0 (by omega) hb w
 obtain⟨v,hv⟩:∃ v,l.getD 0 0=v:=⟨_,rfl⟩;rw[hv] at hx;obtain⟨q,hq⟩:∃ q,Zz2 v=q:=⟨_,rfl⟩;have HQ:=ħ hq;have hne:=Zgh l (by omega);have HV:Hid (Zev l=false):=ħ (by unfold Zev;rw[decide_eq_false (show ¬ l.length≤20 by omega)];simp)
 have i20:¬ ((l.length:Int)≤20):=by omega
 generalize Zev l=V at *;clear hv hq hb;generalize Zag l=t at *
 go_enter Tryz.func211,Tryz.ntmps211
 go_wp2_with fail
 refine (Zg4 v w).mono ?_;rintro e w1 ⟨rfl,rfl⟩;rw[HQ.o]
 cases q with
 | false =>
  go_wp2
  go_ret;exact⟨Zac HV.o.symm,rfl⟩
 | true =>
  have hsz:=SZ.o
  go_wp2
  go_ret;exact⟨Zac HV.o.symm,rfl⟩
theorem Zuy (l:List Nat) (w:World) (hl:l.length≤9223372036854775807) (hb:∀ y∈l,y<256) :
  Calls Tryz.prog 211 #[.string (Zag l)] w fun e w'=>e = .returned (.bool (Zev l))∧w=w':=by
 by_cases h:l.length≤1000000
 ·exact Zra l w h hb
 ·exact Zr9 l (by omega) w hl hb
theorem Zuz (l:List Nat) (w:World) (B:Nat) (hT:Tab w B) (hl:l.length≤9223372036854775807) (hb:∀ y∈l,y<256) :
  Calls Tryz.prog 180 #[.string (Zag l)] w fun e w'=>e = .returned (.bool (freeB l))∧w=w':=by
 by_cases h:l.length≤1000000
 ·exact Zrp l w B hT h hb
 have HN:=ħ (fun w=>Zuy l w hl hb);have HV:Hid (Zev l=false):=ħ (by unfold Zev;rw[decide_eq_false (show ¬ l.length≤20 by omega)];simp);have HF:Hid (freeB l=false):=ħ (by unfold freeB;rw[HV.o];rfl);rw[HV.o] at HN;rw[HF.o];clear hb hT;generalize Zag l=t at *
 go_enter Tryz.func180,Tryz.ntmps180
 go_wp2_with fail
 refine (HN.o _).mono ?_;rintro e w' ⟨rfl,rfl⟩
 go_wp2
 go_ret;exact⟨rfl,rfl⟩
theorem Zk0 (l:List Nat) (w:World) (B:Nat) (hT:Tab w B) (hl:l.length≤9223372036854775807) (hb:∀ y∈l,y<256) :
  Calls Tryz.prog 145 #[.string (Zag l)] w fun e w'=>e = .returned (.bool (Zcg l))∧∃ n,w'=w.drewN n:=by
 have HC:=ħ (Zyl l w hl hb);have HF:=ħ (fun (m:List Nat) (n:Nat) h1 h2=>Zuz m (w.drewN n) B (hT.keep (fun _ _=>rfl) (Nat.le_refl _)) h1 h2);have HB:=ħ hb;have HLL:=ħ hl;have HV:Hid (Zcg l=(decide (Zbh Zai l<l.length)&&(freeB (l.take (Zbh Zai l))&&freeB (l.drop (Zbh Zai l+1))))):=ħ rfl;clear hT hb hl;have H1:=ħ (fun n=>HF.o (l.take (Zbh Zai l)) n (by rw[List.length_take];have:=HLL.o;omega) (fun y hy=>HB.o y (List.mem_of_mem_take hy)));have H2:=ħ (fun n=>HF.o (l.drop (Zbh Zai l+1)) n (by rw[List.length_drop];have:=HLL.o;omega) (fun y hy=>HB.o y (List.mem_of_mem_drop hy)));generalize freeB (l.take (Zbh Zai l))=b1 at *;generalize freeB (l.drop (Zbh Zai l+1))=b2 at *;generalize Zag (l.take (Zbh Zai l))=s1 at *;generalize Zag (l.drop (Zbh Zai l+1))=s2 at *;generalize Zcg l=V at *;clear HF HB HLL;generalize Zag l=s0 at *
 go_enter Tryz.func145,Tryz.ntmps145
 go_wp2_with fail
 refine HC.o.mono ?_;rintro e w1 ⟨⟨n,rfl⟩,h⟩;rcases h with ⟨h,rfl⟩ | ⟨h,rfl⟩
 ·rw[decide_eq_true h,Bool.true_and] at HV
  clear h HC
  go_wp2_with fail
  refine (H1.o n).mono ?_;rintro e w2 ⟨rfl,rfl⟩
  cases b1 with
  | true =>
   go_wp2_with fail
   refine (H2.o n).mono ?_;rintro e w3 ⟨rfl,rfl⟩
   go_wp2
   go_ret;exact⟨Zac (by rw[HV.o];rfl),n,rfl⟩
  | false =>
   go_wp2
   go_ret;exact⟨Zac (by rw[HV.o];rfl),n,rfl⟩
 ·rw[decide_eq_false h,Bool.false_and] at HV
  clear h HC
  go_wp2
  go_ret;exact⟨Zac HV.o.symm,n,rfl⟩
theorem Zoe (l:List Nat) (w:World) (B:Nat) (hT:Tab w B) (hl:l.length≤9223372036854775807) (hb:∀ y∈l,y<256) :
  Calls Tryz.prog 209 #[.string (Zag l)] w fun e w'=>e = .returned (.bool (Zho l))∧∃ n,w'=w.drewN n:=by
 have HN:=ħ (Zk0 l w B hT hl hb);have HV:Hid (Zho l=(l==[]||Zcg l)):=ħ rfl;clear hT hl;by_cases h0:l=[]
 ·have he:=Zgi
  rw[h0] at HV ⊢;generalize Zho []=V at *;clear HN h0;generalize Zag []=s at *
  go_enter Tryz.func209,Tryz.ntmps209
  go_wp2
  go_ret;exact⟨Zac (by rw[HV.o];rfl),0,rfl⟩
 ·have he:=Zgh l (fun h=>h0 (List.eq_nil_of_length_eq_zero h))
  have hbq:(l==[])=false:=by rw[beq_eq_false_iff_ne];exact h0
  rw[hbq,Bool.false_or] at HV;clear hb hbq h0;generalize Zcg l=v at *;generalize Zho l=V at *;generalize Zag l=s at *
  go_enter Tryz.func209,Tryz.ntmps209
  go_wp2_with fail
  refine HN.o.mono ?_;rintro e w2 ⟨rfl,n,rfl⟩
  go_wp2
  go_ret;exact⟨Zac HV.o.symm,n,rfl⟩
end
section
open Go.RowKit Go.Sort
def NmL (l:List Nat):Prop:=(∀ y∈l,y<256)∧l.length≤9223372036854775807
mutual
def ByL:Prd→Prop
 | .mk k l r c ks=>NmL l∧NmL r∧Z03 ks
def Z03:List Prd→Prop
 | []=>True
 | p::ps=>ByL p∧Z03 ps
end
theorem Zlz:∀ ks:List Prd,Z03 ks↔∀ q∈ks,ByL q
 | []=>by simp[Z03]
 | p::ps=>by simp[Z03,Zlz ps]
theorem Zsa (κ:Int) (l r:List Nat) (c:Int) (ao:Option Addr) (n cap:Nat) (w:World) (B:Nat) (hT:Tab w B) (hl:NmL l) (hr:NmL r) :
  Calls Tryz.prog 177 #[.agg #[.int .i64 κ,.string (Zag l),.string (Zag r),.int .i64 c,.slice ao n cap]] w fun e w'=>e = .returned (.bool (Zhp κ l r c n))∧Below w.heap.size w w':=by
 have bx:=(Below.refl w.heap.size w).alloc (Nat.le_refl _) (.cells #[.int .i64 κ,.string (Zag l),.string (Zag r),.int .i64 c,.slice ao n cap] 54);have B1:=ħ bx;have X1:Hid (Zaf (w.alloc (.cells #[.int .i64 κ,.string (Zag l),.string (Zag r),.int .i64 c,.slice ao n cap] 54)) w.heap.size 54 [.int .i64 κ,.string (Zag l),.string (Zag r),.int .i64 c,.slice ao n cap]):=ħ (heap_alloc_new w _);have TT:Hid (∀ W:World,Below w.heap.size w W→Tab W B):=ħ (fun W hW=>hT.keep (fun k hk=>hW.block k (Nat.lt_of_lt_of_le hk hT.size)) hW.size);have H1:=ħ (fun W hW=>Zoe l W B (TT.o W hW) hl.2 hl.1);have H2:=ħ (fun W hW=>Zoe r W B (TT.o W hW) hr.2 hr.1);have HV:Hid (Zhp κ l r c n=(κ==0&&(n==0&&(Zho l&&(Zho r&&(decide (-1099511627776≤c)&&decide (c<1099511627776))))))):=ħ rfl;clear bx hT hl hr TT;generalize Zhp κ l r c n=V at *;generalize Zho l=b1 at *;generalize Zho r=b2 at *;generalize Zag l=y at *;generalize Zag r=z at *
 go_enter Tryz.func177,Tryz.ntmps177
 go_upto_region 2 with (fail)
 generalize w.alloc (.cells #[.int .i64 κ,.string y,.string z,.int .i64 c,.slice ao n cap] 54)=w1 at *;have x0:=X1.o.cell 0 _ rfl;have x1:=X1.o.cell 1 _ rfl;have x2:=X1.o.cell 2 _ rfl;have x3:=X1.o.cell 3 _ rfl;have x4:=X1.o.cell 4 _ rfl;by_cases k0:κ=0
 ·have k0b:(κ==0)=true:=beq_iff_eq.mpr k0
  rw[k0b,Bool.true_and] at HV;clear k0;by_cases n0:n=0
  ·have n0b:(n==0)=true:=beq_iff_eq.mpr n0
   have n0c:((n:Int)==0)=true:=by rw[n0];rfl
   rw[n0b,Bool.true_and] at HV;clear n0
   go_wp2_with fail
   refine (H1.o w1 B1.o).mono ?_;rintro e w2 ⟨rfl,d2⟩;have B2:=ħ (B1.o.trans ((Zbn d2).mono B1.o.size));have X2:=ħ (X1.o.step (Zbn d2));clear d2 x0 x1 x2 x3 x4;have x0:=X2.o.cell 0 _ rfl;have x1:=X2.o.cell 1 _ rfl;have x2:=X2.o.cell 2 _ rfl;have x3:=X2.o.cell 3 _ rfl;have x4:=X2.o.cell 4 _ rfl
   cases b1 with
   | true =>
    rw[Bool.true_and] at HV
    go_wp2_with fail
    refine (H2.o w2 B2.o).mono ?_;rintro e w3 ⟨rfl,d3⟩;have B3:=ħ (B2.o.trans ((Zbn d3).mono B2.o.size));have X3:=ħ (X2.o.step (Zbn d3));clear d3 x0 x1 x2 x3 x4;have x3:=X3.o.cell 3 _ rfl
    cases b2 with
    | true =>
     rw[Bool.true_and] at HV;by_cases c1:-1099511627776≤c
     ·have c1b:decide (-1099511627776≤c)=true:=decide_eq_true c1
      rw[c1b,Bool.true_and] at HV;clear c1
      go_wp2
      go_ret;exact⟨Zac HV.o.symm,B3.o⟩
     ·have c1b:decide (-1099511627776≤c)=false:=decide_eq_false c1
      rw[c1b,Bool.false_and] at HV;clear c1
      go_wp2
      go_ret;exact⟨Zac HV.o.symm,B3.o⟩
    | false =>
     rw[Bool.false_and] at HV
     go_wp2
     go_ret;exact⟨Zac HV.o.symm,B3.o⟩
   | false =>
    rw[Bool.false_and] at HV
    go_wp2
    go_ret;exact⟨Zac HV.o.symm,B2.o⟩
  ·have n0b:(n==0)=false:=beq_eq_false_iff_ne.mpr n0
   have n0c:((n:Int)==0)=false:=by rw[beq_eq_false_iff_ne];omega
   rw[n0b,Bool.false_and] at HV;clear n0
   go_wp2
   go_ret;exact⟨Zac HV.o.symm,B1.o⟩
 ·have k0b:(κ==0)=false:=beq_eq_false_iff_ne.mpr k0
  rw[k0b,Bool.false_and] at HV;clear k0
  go_wp2
  go_ret;exact⟨Zac HV.o.symm,B1.o⟩
theorem Zsb (l r:List Nat) (c:Int) (ao:Option Addr) (n cap:Nat) (w:World) (B:Nat) (hT:Tab w B) (hl:NmL l) (hr:NmL r) :
  Calls Tryz.prog 137 #[.agg #[.int .i64 0,.string (Zag l),.string (Zag r),.int .i64 c,.slice ao n cap]] w fun e w'=>e = .returned (.bool (Zhp 0 l r c n))∧Below w.heap.size w w':=by
 have bx:=(Below.refl w.heap.size w).alloc (Nat.le_refl _) (.cells #[.int .i64 0,.string (Zag l),.string (Zag r),.int .i64 c,.slice ao n cap] 54);have B1:=ħ bx;have X1:Hid (Zaf (w.alloc (.cells #[.int .i64 0,.string (Zag l),.string (Zag r),.int .i64 c,.slice ao n cap] 54)) w.heap.size 54 [.int .i64 0,.string (Zag l),.string (Zag r),.int .i64 c,.slice ao n cap]):=ħ (heap_alloc_new w _);have HA:=ħ (fun W hW=>Zsa 0 l r c ao n cap W B (Zbo.step (w:=w) (w':=W) hT hW) hl hr);clear bx hT hl hr;generalize Zhp 0 l r c n=V at *;generalize Zag l=y at *;generalize Zag r=z at *
 go_enter Tryz.func137,Tryz.ntmps137
 go_upto_region 1 with (fail)
 generalize w.alloc (.cells #[.int .i64 0,.string y,.string z,.int .i64 c,.slice ao n cap] 54)=w1 at *;have x0:=X1.o.cell 0 _ rfl;have x4:=X1.o.cell 4 _ rfl
 go_wp2_with (refine wpList_load_row rfl 54 (.tmp 1) rfl w.heap.size ?x1 54 (Z2z 0 y z c ao n cap).toArray (0,0) _ X1.o Tryz.underlying54 rfl (Zb3 _ rfl) ?_;(case x1=>rfl))
 refine (HA.o w1 B1.o).mono ?_;rintro e w2 ⟨rfl,b2⟩;have B2:=ħ (B1.o.trans (b2.mono B1.o.size));clear b2
 go_wp2
 go_ret;exact⟨rfl,B2.o⟩
theorem Zir:∀ (N:Nat) (p:Prd) (w:World) (P:Nat→Prop) (vs:List Value) (B:Nat),Zdw p≤N→N≤1000000→ByL p→Zan w P p vs→Tab w B →
  Calls Tryz.prog 137 #[.agg vs.toArray] w fun e w'=>e = .returned (.bool (Zcl p))∧Below w.heap.size w w'
 | 0,p,w,P,vs,B,hN,_,_,_,_=>by have:=Zgz p;omega
 | N+1,.mk κ l r c ks,w,P,vs,B,hN,hM,hb,h,hT=>by
  have hc2:Zei ks≤N:=by unfold Zdw at hN;omega
  have hl:=Zcv ks;unfold Zan at h;unfold ByL at hb;obtain⟨ao,cap,rfl,hk⟩:=h;by_cases hκ:κ=0
  ·subst hκ
   have:=Zsb l r c ao ks.length cap w B hT hb.1 hb.2.1;rw[Zlu,if_pos rfl];exact this
  ·exact Zn9 w P κ l r c ks ao ks.length cap hκ rfl (by omega) B hT hk (fun q w' us hq hpc hT'=>Zir N q w' P us B (by
    obtain⟨i,hi⟩:=List.mem_iff_getElem?.1 hq;have:=Zg0 ks i q hi
    omega) (by omega) ((Zlz ks).1 hb.2.2 q hq) hpc hT')
theorem Zsc (p:Prd) (w:World) (P:Nat→Prop) (vs:List Value) (B:Nat) (hN:Zdw p≤1000000) (hb:ByL p) (h:Zan w P p vs) (hT:Tab w B) :
  Calls Tryz.prog 74 #[.agg vs.toArray] w fun e w'=>e = .returned (.bool (Zb6 p))∧Below w.heap.size w w':=by
 obtain⟨xa,xn,xc,rfl,-⟩:=h.form;have bx:=(Below.refl w.heap.size w).alloc (Nat.le_refl _) (.cells #[.int .i64 p.k,.string (Zag p.l),.string (Zag p.r),.int .i64 p.c,.slice xa xn xc] 54);have B1:=ħ bx;have X1:Hid (Zaf (w.alloc (.cells #[.int .i64 p.k,.string (Zag p.l),.string (Zag p.r),.int .i64 p.c,.slice xa xn xc] 54)) w.heap.size 54 [.int .i64 p.k,.string (Zag p.l),.string (Zag p.r),.int .i64 p.c,.slice xa xn xc]):=ħ (heap_alloc_new w _);have HS:=ħ (fun W (hW:Below w.heap.size w W)=>Znq W P p [.int .i64 p.k,.string (Zag p.l),.string (Zag p.r),.int .i64 p.c,.slice xa xn xc] (h.below hW) hN);have HF:=ħ (fun W (hW:Below w.heap.size w W)=>Zir 1000000 p W P [.int .i64 p.k,.string (Zag p.l),.string (Zag p.r),.int .i64 p.c,.slice xa xn xc] B hN (Nat.le_refl _) hb (h.below hW) (Zbo.step (w:=w) hT hW));have HV:Hid (Zb6 p=(Zfi p&&Zcl p)):=ħ rfl;obtain⟨V,hV⟩:∃ V,Zb6 p=V:=⟨_,rfl⟩;rw[hV] at HV ⊢;clear bx h hT hb hN hV;generalize Zfi p=s at *;generalize Zcl p=f at *;generalize p.k=q0 at *;generalize Zag p.l=q1 at *;generalize Zag p.r=q2 at *;generalize p.c=q3 at *
 go_enter Tryz.func74,Tryz.ntmps74
 go_upto_region 1 with (fail)
 generalize w.alloc (.cells #[.int .i64 q0,.string q1,.string q2,.int .i64 q3,.slice xa xn xc] 54)=w1 at *
 go_wp2_with (refine wpList_load_row rfl 54 (.tmp 1) rfl w.heap.size ?x1 54 #[.int .i64 q0,.string q1,.string q2,.int .i64 q3,.slice xa xn xc] (0,0) _ X1.o Tryz.underlying54 rfl (Zb3 _ rfl) ?_;(case x1=>rfl))
 refine (HS.o w1 B1.o).mono ?_;rintro e w2 ⟨rfl,b2⟩;have B2:=ħ (B1.o.trans (b2.mono B1.o.size));have X2:=ħ (X1.o.step b2);clear b2
 cases s with
 | false =>
  rw[Bool.false_and] at HV
  go_wp2
  go_ret;exact⟨Zac HV.o.symm,B2.o⟩
 | true =>
  rw[Bool.true_and] at HV
  go_wp2_with (refine Zaw (by rfl) 54 (.tmp 1) rfl w.heap.size ?x2 54 #[.int .i64 q0,.string q1,.string q2,.int .i64 q3,.slice xa xn xc] (0,0) _ X2.o Tryz.underlying54 rfl (Zb3 _ rfl) ?_;(case x2=>rfl))
  refine (HF.o w2 B2.o).mono ?_;rintro e w3 ⟨rfl,b3⟩;have B3:=ħ (B2.o.trans (b3.mono B2.o.size));clear b3
  go_wp2
  go_ret;exact⟨Zac HV.o.symm,B3.o⟩
end
end Go.Proofs.YtbcgocpihobjnaaGreatDoor
