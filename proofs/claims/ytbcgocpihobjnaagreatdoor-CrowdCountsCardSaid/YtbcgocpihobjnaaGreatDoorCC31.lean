import Derived.Test.YtbcgocpihobjnaaGreatDoorCC30
import Derived.Test.YtbcgocpihobjnaaGreatDoorCC27
import Derived.Test.YtbcgocpihobjnaaGreatDoorCC28
import Derived.Test.YtbcgocpihobjnaaGreatDoorCC25
set_option linter.all false
set_option maxHeartbeats 32000000
set_option maxRecDepth 100000
namespace Go.Proofs.YtbcgocpihobjnaaGreatDoor
section
open Go.RowKit Go.Sort Go.Maps
theorem Zth(l:List Nat)(w:World)(hl:l.length<=9223372036854775807)(hb:∀ y∈l,y<256) :
  Calls Tryz.prog 233 #[.string (Zad l)] w fun e w'=>e = .returned (.bool (Zdo l))/\w=w':=by
 rw[<- Zq1];have SZ:=ħ (Zbc l);have HX:Hid (∀ i:Nat,i<l.length->∀ w,(Instr.index 9 (.string (Zad l)) (.int .i64 (i:Int))).run Tryz.prog w = .ok (.int .u8 ((l.getD i 0:Nat):Int)) w):=ħ (fun i hi w=>Zj2 l i hi hb w);clear hb;generalize Zad l=t at *;have hsz:=SZ.o;by_cases h0:l.length<1
 ·have i0:(l.length:Int)<1:=by omega
  go_enter Tryz.func233,Tryz.ntmps233
  go_wp2
  go_ret;exact⟨Zac (by unfold Zih;rw[decide_eq_true h0];rfl),rfl⟩
 ·have i0:¬ ((l.length:Int)<1):=by omega
  by_cases h20:20<l.length
  ·have i20:(20:Int)<l.length:=by omega
   go_enter Tryz.func233,Tryz.ntmps233
   go_wp2
   go_ret;exact⟨Zac (by unfold Zih;rw[decide_eq_true h20];simp),rfl⟩
  ·have i20:¬ ((20:Int)<l.length):=by omega
   have hx:∀ w,(Instr.index 9 (.string t) (.int .i64 0)).run Tryz.prog w = .ok (.int .u8 ((l.getD 0 0:Nat):Int)) w:=fun w=>HX.o 0 (by omega) w
   obtain⟨v,hv⟩:∃ v,l.getD 0 0=v:=⟨_,rfl⟩;rw[hv] at hx;have HV:=ħ hv;obtain⟨q,hq⟩:∃ q,Znn v=q:=⟨_,rfl⟩;have HQ:=ħ hq;clear hv hq
   go_enter Tryz.func233,Tryz.ntmps233
   go_wp2_with fail
   refine(Ze9 v w).mono ?_;rintro e w1 ⟨rfl,rfl⟩;rw[HQ.o]
   cases q with
   | false =>
    go_wp2
    go_ret;exact⟨Zac (by unfold Zih;rw[HV.o,HQ.o];simp),rfl⟩
   | true =>
    clear hx
    go_wp2_with fail
    go_loop [3] (fun c=>∃ i:Nat,c = .int .i64 i/\1<=i/\i<=l.length/\Hid (∀ j,1<=j->j<i->Zf4 (l.getD j 0)=true)) (fun c=>(l.length-intOf c).toNat)
    case atStart=>exact⟨1,rfl,by omega,by omega,ħ (fun j hj hj2=>absurd hj (by omega))⟩
    case round =>
     obtain⟨i,rfl,h1,hi,hz⟩:=hrel;have e2:IntKind.i64.wrap ((i:Int)+1)=((i+1:Nat):Int):=đh _ (by omega);by_cases hlt:i<l.length
     ·have hx:=HX.o i hlt
      have ii:(i:Int)<l.length:=by omega
      obtain⟨u,hu⟩:∃ v,l.getD i 0=v:=⟨_,rfl⟩;rw[hu] at hx;have HU:=ħ hu;clear hu
      have hgo:Zf4 u=true->∀ j,1<=j->j<i+1->Zf4 (l.getD j 0)=true:=fun hh j hj hj2=>by
       rcases đw j i with h | h
       ·exact hz.o j hj h
       ·obtain rfl:j=i:=by omega
        rw[HU.o];exact hh
      have HGO:=ħ hgo;clear hgo;obtain⟨x,hx1⟩:∃ x,Znn u=x:=⟨_,rfl⟩;obtain⟨y,hy1⟩:∃ x,Zy1 u=x:=⟨_,rfl⟩;have HX1:=ħ hx1;have HY1:=ħ hy1;clear hx1 hy1
      go_wp2_with fail
      refine(Ze9 u _).mono ?_;rintro e w' ⟨rfl,rfl⟩;rw[HX1.o]
      cases x with
      | true =>
       go_wp2
       go_round
       case rel=>exact⟨i+1,rfl,by omega,by omega,ħ (HGO.o (Zga HX1.o))⟩
       case measure=>simp[intOf];omega
      | false =>
       go_wp2_with fail
       refine(Zl2 u _).mono ?_;rintro e w' ⟨rfl,rfl⟩;rw[HY1.o]
       cases y with
       | true =>
        go_wp2
        go_round
        case rel=>exact⟨i+1,rfl,by omega,by omega,ħ (HGO.o (by unfold Zf4;rw[HX1.o,HY1.o];rfl))⟩
        case measure=>simp[intOf];omega
       | false =>
        by_cases h95:u=95
        ·have c1:(u:Int)=95:=by omega
         have c2:((u:Int)==95)=true:=by rw[beq_iff_eq];omega
         go_wp2
         go_round
         case rel=>exact⟨i+1,rfl,by omega,by omega,ħ (HGO.o (by unfold Zf4;rw[HX1.o,HY1.o,h95];rfl))⟩
         case measure=>simp[intOf];omega
        ·have c1:¬ ((u:Int)=95):=by omega
         have c2:((u:Int)==95)=false:=by rw[beq_eq_false_iff_ne];omega
         go_wp2
         go_ret;exact⟨Zac (by unfold Zih;rw[Zse Zf4 l i h1 hlt (by rw[HU.o];unfold Zf4;rw[HX1.o,HY1.o,show(u==95)=false from beq_eq_false_iff_ne.mpr h95];rfl)];simp),rfl⟩
     ·obtain rfl:i=l.length:=by omega
      go_wp2
      go_ret;exact⟨Zac (by unfold Zih;rw[Zsd Zf4 l hz.o,HV.o,HQ.o,decide_eq_false h0,decide_eq_false h20];rfl),rfl⟩
theorem Zl4(l:List Nat)(w:World)(hl:l.length<=9223372036854775807)(hb:∀ y∈l,y<256) :
  Calls Tryz.prog 199 #[.string (Zad l)] w fun e w'=>e = .returned (.bool (Zbz l))/\RowKit.Below w.heap.size w w':=by
 have H1:=ħ (Zth l w hl hb);have H2:=ħ (fun(W:World) (g:Nat) (hr:Zae W g 9 (Zdh.map (fun s=>.string (Zad s))))=>Zrb g 0 8 8 Zdh l W rfl (by omega) (fun j u hj=>by rw[Nat.zero_add];exact hr.cell j u hj) hb Zh4);have HV:Hid (Zbz l=(Zdo l&&!Zqz Zdh l)):=ħ rfl;have B0:=ħ (đc w.heap.size w);clear hl hb;generalize Zbz l=V at *;generalize Zdo l=b1 at *;generalize Zqz Zdh l=b2 at *;generalize Zad l=t at *
 go_enter Tryz.func199,Tryz.ntmps199
 go_wp2_with fail
 refine H1.o.mono ?_;rintro e w1 ⟨rfl,rfl⟩
 cases b1 with
 | false =>
  go_wp2
  go_ret;exact⟨Zac (by rw[HV.o];rfl),B0.o⟩
 | true =>
  go_wp2_with fail
  refine(Zlu w).mono ?_;rintro e w2 ⟨rfl,hv,b2'⟩;have HH:=ħ (H2.o w2 _ hv);have B2:=ħ b2';clear hv b2'
  go_wp2_with fail
  refine HH.o.mono ?_;rintro e w3 ⟨rfl,rfl⟩
  go_wp2
  go_ret;exact⟨Zac (by rw[HV.o];rfl),B2.o⟩
theorem Zgj(l:List Nat)(w:World)(hl:l.length<=9223372036854775807)(hb:∀ y∈l,y<256) :
  Calls Tryz.prog 172 #[.string (Zad l)] w fun e w'=>e = .returned (.bool (Za5 l))/\RowKit.Below w.heap.size w w':=by
 have SZ:=ħ (Zbc l);have HX:Hid (∀ i:Nat,i<l.length->∀ w,(Instr.index 9 (.string (Zad l)) (.int .i64 (i:Int))).run Tryz.prog w = .ok (.int .u8 ((l.getD i 0:Nat):Int)) w):=ħ (fun i hi w=>Zj2 l i hi hb w);have HS:Hid (∀ i:Nat,i<=l.length->∀ w,(Instr.slice 9 (.string (Zad l)) (some (.int .i64 (i:Int))) none none).run Tryz.prog w = .ok (.string (Zad (l.drop i))) w):=ħ (fun i hi w=>Zso l i hi w);have HU:Hid (∀ i:Nat,i<=l.length->∀ w,(Instr.slice 9 (.string (Zad l)) none (some (.int .i64 (i:Int))) none).run Tryz.prog w = .ok (.string (Zad (l.take i))) w):=ħ (fun i hi w=>Zsp l i hi w);have HF1:=ħ (fun(i:Nat) W=>Zl4 (l.take i) W (by rw[List.length_take];omega) (fun y hy=>hb y (List.mem_of_mem_take hy)));have HF2:=ħ (fun(i:Nat) W=>Zl4 (l.drop i) W (by rw[List.length_drop];omega) (fun y hy=>hb y (List.mem_of_mem_drop hy)));have HV:Hid (Za5 l=(decide (Zbh Zai l<l.length)&&(Zbz (l.take (Zbh Zai l))&&Zbz (l.drop (Zbh Zai l+1))))):=ħ rfl;have HB:=ħ hb;have B0:=ħ (đc w.heap.size w);clear hb;generalize Za5 l=V at *;generalize Zad l=t at *
 go_enter Tryz.func172,Tryz.ntmps172
 go_wp2_with fail
 go_loop [3] (fun c=>∃ i:Nat,c = .int .i64 i/\i<=l.length/\Hid (∀ j,j<i->l.getD j 0≠46)) (fun c=>(l.length-intOf c).toNat)
 case atStart=>exact⟨0,rfl,by omega,ħ (fun j hj=>absurd hj (đu j))⟩
 case round =>
  obtain⟨i,rfl,hi,hz⟩:=hrel;have hsz:=SZ.o;by_cases hlt:i<l.length
  ·have hx:=HX.o i hlt
   have e2:IntKind.i64.wrap ((i:Int)+1)=((i+1:Nat):Int):=đh _ (by omega)
   have ii:(i:Int)<l.length:=by omega
   obtain⟨v,hv⟩:∃ v,l.getD i 0=v:=⟨_,rfl⟩;rw[hv] at hx;have HVV:=ħ hv;clear hv;by_cases h46:v=46
   ·have c1:((v:Int)==46)=true:=by rw[beq_iff_eq];omega
    have HR:Hid (Zbh Zai l=i):=ħ (Zro l i hlt hz.o (by rw[HVV.o];exact h46));have HV2:Hid (V=(Zbz (l.take i)&&Zbz (l.drop (i+1)))):=ħ (by rw[HV.o,HR.o,decide_eq_true hlt,đk]);have hu:=HU.o i (by omega)
    have hs:∀ w,(Instr.slice 9 (.string t) (some (.int .i64 ((i:Int)+1))) none none).run Tryz.prog w = .ok (.string (Zad (l.drop (i+1)))) w:=fun w=>by
     have h:=HS.o (i+1) (by omega) w
     rwa [show((i+1:Nat):Int)=(i:Int)+1 from by omega] at h
    have F1:=ħ (HF1.o i);have F2:=ħ (HF2.o (i+1));clear h46 HR HV hz HVV;generalize Zbz (l.take i)=b1 at *;generalize Zbz (l.drop (i+1))=b2 at *;generalize Zad (l.take i)=s1 at *;generalize Zad (l.drop (i+1))=s2 at *
    go_wp2_with fail
    refine(F1.o w).mono ?_;rintro e w1 ⟨rfl,b1'⟩;have B1:=ħ b1';clear b1'
    cases b1 with
    | false =>
     go_wp2
     go_ret;exact⟨Zac (by rw[HV2.o];rfl),B1.o⟩
    | true =>
     go_wp2_with fail
     refine(F2.o w1).mono ?_;rintro e w2 ⟨rfl,b2'⟩;have B2:=ħ (B1.o.trans (b2'.mono B1.o.size));clear b2' hu hs hx F1 F2
     cases b2 with
     | false =>
      go_wp2
      go_ret;exact⟨Zac (by rw[HV2.o];rfl),B2.o⟩
     | true =>
      go_wp2
      go_ret;exact⟨Zac (by rw[HV2.o];rfl),B2.o⟩
   ·have c1:((v:Int)==46)=false:=by rw[beq_eq_false_iff_ne];omega
    have HZ:Hid (∀ j,j<i+1->l.getD j 0≠46):=ħ (fun j hj=>by
     rcases đw j i with h | h
     ·exact hz.o j h
     ·obtain rfl:j=i:=by omega
      rw[HVV.o];exact h46)
    clear h46 hz
    go_wp2
    go_round
    case rel=>exact⟨i+1,by go_num,by omega,HZ⟩
    case measure=>simp only[intOf];omega
  ·have ii:¬ ((i:Int)<l.length):=by omega
   have HX:Hid (V=false):=ħ (by rw[HV.o,Zrp l (fun j hj=>hz.o j (by omega)),decide_eq_false (by omega)];rfl)
   go_wp2
   go_ret;exact⟨Zac HX.o.symm,B0.o⟩
theorem Zp8(κ:Int)(l r:List Nat)(c:Int)(ao:Option Addr)(n cap:Nat)(w:World)(hl:NmL l)(hr:NmL r) :
  Calls Tryz.prog 198 #[.agg #[.int .i64 κ,.string (Zad l),.string (Zad r),.int .i64 c,.slice ao n cap]] w fun e w'=>e = .returned (.bool (Zd9 κ l r c n))/\RowKit.Below w.heap.size w w':=by
 have bx:=(đc w.heap.size w).alloc (đd _) (.cells #[.int .i64 κ,.string (Zad l),.string (Zad r),.int .i64 c,.slice ao n cap] 54);have B1:=ħ bx;have X1:Hid (Zae (w.alloc (.cells #[.int .i64 κ,.string (Zad l),.string (Zad r),.int .i64 c,.slice ao n cap] 54)) w.heap.size 54 [.int .i64 κ,.string (Zad l),.string (Zad r),.int .i64 c,.slice ao n cap]):=ħ (heap_alloc_new w _);have H1:=ħ (fun W=>Zgj l W hl.2 hl.1);have H2:=ħ (fun W=>Zgj r W hr.2 hr.1);have HV:Hid (Zd9 κ l r c n=(κ==0&&(n==0&&((l==[]||Za5 l)&&((r==[]||Za5 r)&&(decide (-1099511627776<=c)&&decide (c<1099511627776))))))):=ħ rfl
 have HE:∀ m:List Nat,(Zad m).toList.isEmpty=(m==[]):=fun m=>by
  cases m with
  | nil=>exact Zc3.trans rfl
  | cons a b=>rw[Zdf _ (by simp)];rfl
 have he1:=HE l;have he2:=HE r;obtain⟨V,hV⟩:∃ V,Zd9 κ l r c n=V:=⟨_,rfl⟩;rw[hV] at HV ⊢;clear bx hl hr HE hV;generalize (l==[])=e1 at *;generalize (r==[])=e2 at *;generalize Za5 l=v1 at *;generalize Za5 r=v2 at *;generalize Zad l=y at *;generalize Zad r=z at *
 go_enter Tryz.func198,Tryz.ntmps198
 go_upto_region 1 with(fail)
 generalize w.alloc (.cells #[.int .i64 κ,.string y,.string z,.int .i64 c,.slice ao n cap] 54)=w1 at *;have x0:=X1.o.cell 0 _ rfl;have x1:=X1.o.cell 1 _ rfl;have x2:=X1.o.cell 2 _ rfl;have x3:=X1.o.cell 3 _ rfl;have x4:=X1.o.cell 4 _ rfl;by_cases k0:κ=0
 ·have k0b:(κ==0)=true:=beq_iff_eq.mpr k0
  rw[k0b,đk] at HV;clear k0;by_cases n0:n=0
  ·have n0b:(n==0)=true:=beq_iff_eq.mpr n0
   have n0c:((n:Int)==0)=true:=by rw[n0];rfl
   rw[n0b,đk] at HV;clear n0 n0b
   cases e1 with
   | true =>
    rw[Bool.true_or,đk] at HV
    cases e2 with
    | true =>
     rw[Bool.true_or,đk] at HV;by_cases c1:-1099511627776<=c
     ·rw[decide_eq_true c1,đk] at HV
      go_wp2
      go_ret;exact⟨Zac (by rw[HV.o]),B1.o⟩
     ·rw[decide_eq_false c1,đq] at HV
      go_wp2
      go_ret;exact⟨Zac (by rw[HV.o]),B1.o⟩
    | false =>
     rw[Bool.false_or] at HV
     go_wp2_with fail
     refine(H2.o w1).mono ?_;rintro e w2 ⟨rfl,b2⟩;have B2:=ħ (B1.o.trans (b2.mono B1.o.size));have X2:=ħ (X1.o.step b2);clear b2 x0 x1 x2 x3 x4;have x3:=X2.o.cell 3 _ rfl
     cases v2 with
     | false =>
      rw[đq] at HV
      go_wp2
      go_ret;exact⟨Zac (by rw[HV.o]),B2.o⟩
     | true =>
      rw[đk] at HV;by_cases c1:-1099511627776<=c
      ·rw[decide_eq_true c1,đk] at HV
       go_wp2
       go_ret;exact⟨Zac (by rw[HV.o]),B2.o⟩
      ·rw[decide_eq_false c1,đq] at HV
       go_wp2
       go_ret;exact⟨Zac (by rw[HV.o]),B2.o⟩
   | false =>
    rw[Bool.false_or] at HV
    go_wp2_with fail
    refine(H1.o w1).mono ?_;rintro e w2 ⟨rfl,b2⟩;have B2:=ħ (B1.o.trans (b2.mono B1.o.size));have X2:=ħ (X1.o.step b2);clear b2 x0 x1 x2 x3 x4;have x2:=X2.o.cell 2 _ rfl;have x3:=X2.o.cell 3 _ rfl
    cases v1 with
    | false =>
     rw[đq] at HV
     go_wp2
     go_ret;exact⟨Zac (by rw[HV.o]),B2.o⟩
    | true =>
     rw[đk] at HV
     cases e2 with
     | true =>
      rw[Bool.true_or,đk] at HV;by_cases c1:-1099511627776<=c
      ·rw[decide_eq_true c1,đk] at HV
       go_wp2
       go_ret;exact⟨Zac (by rw[HV.o]),B2.o⟩
      ·rw[decide_eq_false c1,đq] at HV
       go_wp2
       go_ret;exact⟨Zac (by rw[HV.o]),B2.o⟩
     | false =>
      rw[Bool.false_or] at HV
      go_wp2_with fail
      refine(H2.o w2).mono ?_;rintro e w3 ⟨rfl,b3⟩;have B3:=ħ (B2.o.trans (b3.mono B2.o.size));have X3:=ħ (X2.o.step b3);clear b3 x2 x3;have x3:=X3.o.cell 3 _ rfl
      cases v2 with
      | false =>
       rw[đq] at HV
       go_wp2
       go_ret;exact⟨Zac (by rw[HV.o]),B3.o⟩
      | true =>
       rw[đk] at HV;by_cases c1:-1099511627776<=c
       ·rw[decide_eq_true c1,đk] at HV
        go_wp2
        go_ret;exact⟨Zac (by rw[HV.o]),B3.o⟩
       ·rw[decide_eq_false c1,đq] at HV
        go_wp2
        go_ret;exact⟨Zac (by rw[HV.o]),B3.o⟩
  ·have n0b:(n==0)=false:=beq_eq_false_iff_ne.mpr n0
   have n0c:((n:Int)==0)=false:=by rw[beq_eq_false_iff_ne];omega
   rw[n0b,đq] at HV;clear n0 n0b
   go_wp2
   go_ret;exact⟨Zac (by rw[HV.o]),B1.o⟩
 ·have k0b:(κ==0)=false:=beq_eq_false_iff_ne.mpr k0
  rw[k0b,đq] at HV;clear k0
  go_wp2
  go_ret;exact⟨Zac (by rw[HV.o]),B1.o⟩
theorem Zp9(w:World)(l r:List Nat)(c:Int)(ao:Option Addr)(n cap:Nat)(hl:NmL l)(hr:NmL r) :
  Calls Tryz.prog 171 #[.agg #[.int .i64 0,.string (Zad l),.string (Zad r),.int .i64 c,.slice ao n cap]] w fun e w'=>e = .returned (.bool (Zd9 0 l r c n))/\RowKit.Below w.heap.size w w':=by
 have bx:=(đc w.heap.size w).alloc (đd _) (.cells #[.int .i64 0,.string (Zad l),.string (Zad r),.int .i64 c,.slice ao n cap] 54);have B1:=ħ bx;have X1:Hid (Zae (w.alloc (.cells #[.int .i64 0,.string (Zad l),.string (Zad r),.int .i64 c,.slice ao n cap] 54)) w.heap.size 54 [.int .i64 0,.string (Zad l),.string (Zad r),.int .i64 c,.slice ao n cap]):=ħ (heap_alloc_new w _);have HA:=ħ (fun W=>Zp8 0 l r c ao n cap W hl hr);clear bx hl hr;generalize Zd9 0 l r c n=V at *;generalize Zad l=y at *;generalize Zad r=z at *
 go_enter Tryz.func171,Tryz.ntmps171
 go_upto_region 1 with(fail)
 generalize w.alloc (.cells #[.int .i64 0,.string y,.string z,.int .i64 c,.slice ao n cap] 54)=w1 at *;have x0:=X1.o.cell 0 _ rfl
 go_wp2_with (refine wpList_load_row rfl 54 (.tmp 1) rfl w.heap.size ?x1 54 #[.int .i64 0,.string y,.string z,.int .i64 c,.slice ao n cap] (0,0) _ X1.o Tryz.underlying54 rfl (Za4 _ rfl) ?_;(case x1=>rfl))
 refine(HA.o w1).mono ?_;rintro e w2 ⟨rfl,b2⟩;have B2:=ħ (B1.o.trans (b2.mono B1.o.size));clear b2
 go_wp2
 go_ret;exact⟨rfl,B2.o⟩
theorem Zic:∀ (N:Nat) (p:Prd) (w:World) (P:Nat->Prop) (vs:List Value),Zb0 p<=N->N<=1000000->ByL p->Zao w P p vs ->
  Calls Tryz.prog 171 #[.agg vs.toArray] w fun e w'=>e = .returned (.bool (Zay p))/\RowKit.Below w.heap.size w w'
 | 0,p,w,P,vs,hN,_,_,_=>by have:=Zek p;omega
 | N+1,.mk κ l r c ks,w,P,vs,hN,hM,hb,h=>by
  have hc2:Zb2 ks<=N:=by unfold Zb0 at hN;omega
  have hl:=Zbq ks;unfold Zao at h;unfold ByL at hb;obtain⟨ao,cap,rfl,hk⟩:=h;by_cases hκ:κ=0
  ·subst hκ
   have:=Zp9 w l r c ao ks.length cap hb.1 hb.2.1;rw[Zfz,if_pos rfl];exact this
  ·exact Zl3 w P κ l r c ks ao ks.length cap hκ rfl (by omega) hk (fun q w' us hq hpc=>Zic N q w' P us (by
    obtain⟨i,hi⟩:=đs.1 hq;have:=Zel ks i q hi
    omega) (by omega) ((Ziy ks).1 hb.2.2 q hq) hpc)
theorem Zqa(p:Prd)(w:World)(P:Nat->Prop)(vs:List Value)(hN:Zb0 p<=1000000)(hb:ByL p)(hlen:Zp0 p)(h:Zao w P p vs) :
  Calls Tryz.prog 124 #[.agg vs.toArray] w fun e w'=>e = .returned (.bool (Zba p))/\RowKit.Below w.heap.size w w':=by
 obtain⟨xa,xn,xc,rfl,-⟩:=h.form;have bx:=(đc w.heap.size w).alloc (đd _) (.cells #[.int .i64 p.k,.string (Zad p.l),.string (Zad p.r),.int .i64 p.c,.slice xa xn xc] 54);have B1:=ħ bx;have X1:Hid (Zae (w.alloc (.cells #[.int .i64 p.k,.string (Zad p.l),.string (Zad p.r),.int .i64 p.c,.slice xa xn xc] 54)) w.heap.size 54 [.int .i64 p.k,.string (Zad p.l),.string (Zad p.r),.int .i64 p.c,.slice xa xn xc]):=ħ (heap_alloc_new w _);have HF:=ħ (fun W (hW:RowKit.Below w.heap.size w W)=>Zp2 p 100 12 (by omega) (by omega) W P _ hlen (h.below hW));rw[Zox p] at HF;have HG:=ħ (fun W (hW:RowKit.Below w.heap.size w W)=>Zic (Zb0 p) p W P _ (đd _) hN hb (h.below hW));have HV:Hid (Zba p=(Zc6 p&&Zay p)):=ħ rfl;obtain⟨V,hV⟩:∃ V,Zba p=V:=⟨_,rfl⟩;rw[hV] at HV ⊢;clear bx h hb hlen hN hV;generalize Zc6 p=s at *;generalize Zay p=f at *;generalize p.k=q0 at *;generalize Zad p.l=q1 at *;generalize Zad p.r=q2 at *;generalize p.c=q3 at *
 go_enter Tryz.func124,Tryz.ntmps124
 go_upto_region 1 with(fail)
 generalize w.alloc (.cells #[.int .i64 q0,.string q1,.string q2,.int .i64 q3,.slice xa xn xc] 54)=w1 at *
 go_wp2_with (refine wpList_load_row rfl 54 (.tmp 1) rfl w.heap.size ?a1 54 #[.int .i64 q0,.string q1,.string q2,.int .i64 q3,.slice xa xn xc] (0,0) _ X1.o Tryz.underlying54 rfl (Za4 _ rfl) ?_;(case a1=>rfl))
 refine(HF.o w1 B1.o).mono ?_;rintro e w2 ⟨rfl,b2⟩;have B2:=ħ (B1.o.trans (b2.mono B1.o.size));have X2:=ħ (X1.o.step b2);clear b2 X1 B1
 cases s with
 | false =>
  go_wp2
  go_ret;exact⟨Zac (by rw[HV.o];rfl),B2.o⟩
 | true =>
  go_wp2_with (refine Zbp (by rfl) 54 (.tmp 1) rfl w.heap.size (by rfl) 54 #[.int .i64 q0,.string q1,.string q2,.int .i64 q3,.slice xa xn xc] (0,0) _ X2.o Tryz.underlying54 rfl (Za4 _ rfl) ?_)
  refine(HG.o w2 B2.o).mono ?_;rintro e w3 ⟨rfl,b3⟩;have B3:=ħ (B2.o.trans (b3.mono B2.o.size));clear b3
  go_wp2
  go_ret;exact⟨Zac (by rw[HV.o];rfl),B3.o⟩
theorem Zoy(w:World)(P:Nat->Prop)(l:List Bnd)(ao:Option Addr)(n cap:Nat)(hn:n=l.length)(hbig:n<=10000000000000)(hok:∀ b∈l,NmL b.n)(hk:Zoq w P l ao) :
  Calls Tryz.prog 125 #[.slice ao n cap] w fun e w'=>e = .returned (.bool (vbP l))/\RowKit.Below w.heap.size w w':=by
 have HK:=ħ (fun W (hW:RowKit.Below w.heap.size w W)=>hk.below hW);have HN:=ħ hn;have HOK:=ħ hok;have B0:=ħ (đc w.heap.size w);obtain⟨V,hV⟩:∃ V,vbP l=V:=⟨_,rfl⟩;have HV:Hid (V=vbG ((l.take 0).map (·.n)) (l.drop 0)):=ħ (by rw[<- hV];rfl);rw[hV];clear hk hn hok hV
 go_enter Tryz.func125,Tryz.ntmps125
 go_wp2_with fail
 go_loopw [3] (fun cc wr=>∃ (i:Nat),cc = .int .i64 i/\i<=n/\Hid (RowKit.Below w.heap.size w wr)/\Hid (V=vbG ((l.take i).map (·.n)) (l.drop i))) (fun c _=>(n-intOf c).toNat)
 case atStart=>exact⟨0,rfl,by omega,B0,HV⟩
 case round =>
  clear B0 HV;obtain⟨i,rfl,hi,hw,hv⟩:=hrel;have e2:IntKind.i64.wrap ((i:Int)+1)=((i+1:Nat):Int):=đh _ (by omega);by_cases hlt:i<n
  ·have ii:(i:Int)<n:=by omega
   have HQA:Hid (∀ W,RowKit.Below w.heap.size w W->∃ g off,ao=some ⟨g,off,none⟩/\g<w.heap.size/\∀ j b,l[j]?=some b->Zav W g (off+j*2) [.string (Zad b.n),.int .i64 b.v]):=ħ (fun W hW=>by
    rcases HK.o W hW with h | ⟨g,off,h1,h2,h3,h4⟩
    ·rw[h] at HN;have:=HN.o;simp at this;omega
    ·rcases HK.o w (đc _ _) with h' | ⟨g',off',h1',h2',h3',h4'⟩
     ·rw[h'] at HN;have:=HN.o;simp at this;omega
     ·have e:g'=g:=by rw[h1] at h1';injection h1' with h1';injection h1' with h1' _;exact h1'.symm
      exact⟨g,off,h1,by rw[<- e];exact h3',fun j b hb=>Zex h4 j b hb⟩)
   obtain⟨g,off,hao,hg,-⟩:=HQA.o w (đc _ _)
   have HRD:Hid (∀ W,RowKit.Below w.heap.size w W->∀ j b,l[j]?=some b->Zav W g (off+j*2) [.string (Zad b.n),.int .i64 b.v]):=ħ (fun W hW=>by
    obtain⟨g',off',h1,-,h3⟩:=HQA.o W hW;rw[hao] at h1;injection h1 with h1;injection h1 with e1 e2;subst e1 e2
    exact h3)
   have HGS:=ħ hg;have HAO:=ħ hao;clear HQA hg;subst hao;have HQ:Hid (∃ q,l[i]?=some q):=ħ ⟨_,đb (by rw[<- HN.o];exact hlt)⟩;obtain⟨q,hqi⟩:=HQ.o;have HQI:=ħ hqi;have HST:=ħ (hv.o.trans (Ziw l i q hqi));have HNM:=ħ (HOK.o q (đe hqi));have hrd:=HRD.o wr hw.o i q hqi;have s0:=hrd 0 _ rfl;have s1:=hrd 1 _ rfl;rw[Nat.add_zero] at s0;have HVN:=ħ (fun W=>Zgj q.n W HNM.o.2 HNM.o.1);have HEQ:=ħ (fun(b:Bnd) (hb:b∈l)=>Zeg b.n q.n (HOK.o b hb).1 HNM.o.1);have HMT:Hid (decide (q.n∈(l.take i).map (·.n))=decide (q.n∈(l.take i).map (·.n))):=ħ rfl;clear hrd hqi HQ hv;obtain⟨mt,hmt⟩:∃ mt,decide (q.n∈(l.take i).map (·.n))=mt:=⟨_,rfl⟩;have HM2:=ħ hmt;rw[hmt] at HST;clear hmt HMT;generalize hnm:Zad q.n=y at *;have HNY:=ħ hnm;clear hnm;generalize q.v=v at *;generalize Za5 q.n=vn at *
   go_wp2_with fail
   refine(HVN.o wr).mono ?_;rintro e w2 ⟨rfl,b2⟩;have W2:=ħ (hw.o.trans (b2.mono hw.o.size));have s0':=cell_later b2 s0;have s1':=cell_later b2 s1;clear b2 hw s0 s1
   cases vn with
   | false =>
    have HF:Hid (V=false):=ħ (by rw[HST.o,đq,Bool.and_false])
    go_wp2
    go_ret;exact⟨Zac HF.o.symm,W2.o⟩
   | true =>
    by_cases v0:v<0
    ·have HF:Hid (V=false):=ħ (by rw[HST.o,decide_eq_false (show ¬ 0<=v by omega),đq,Bool.and_false,Bool.and_false])
     go_wp2
     go_ret;exact⟨Zac HF.o.symm,W2.o⟩
    ·by_cases v1:65535<v
     ·have HF:Hid (V=false):=ħ (by rw[HST.o,decide_eq_false (show ¬ v<=65535 by omega),đq,Bool.and_false,Bool.and_false,Bool.and_false])
      go_wp2
      go_ret;exact⟨Zac HF.o.symm,W2.o⟩
     ·have HF:Hid (V=(!mt&&vbG ((l.take (i+1)).map (·.n)) (l.drop (i+1)))):=ħ (by rw[HST.o,decide_eq_true (show 0<=v by omega),decide_eq_true (show v<=65535 by omega),đk,đk,đk])
      clear HST
      go_wp2_with fail
      clear s0' s1';have Z2:=ħ (đc w2.heap.size w2);have N0:Hid (q.n ∉ (l.take 0).map (·.n)):=ħ (by simp)
      go_loopw [4] (fun cc wr=>∃ (k:Nat),cc = .int .i64 k/\k<=i/\Hid (RowKit.Below w2.heap.size w2 wr)/\Hid (q.n ∉ (l.take k).map (·.n))) (fun c _=>(i-intOf c).toNat)
      case atStart=>exact⟨0,rfl,by omega,Z2,N0⟩
      case round =>
       clear Z2 N0;obtain⟨k,rfl,hk,hq,hnk⟩:=hrel;have e3:IntKind.i64.wrap ((k:Int)+1)=((k+1:Nat):Int):=đh _ (by omega);have W3:=ħ (W2.o.trans (hq.o.mono W2.o.size));by_cases hkl:k<i
       ·have kk:(k:Int)<i:=by omega
        have kn:(k:Int)<n:=by omega
        have HQ:Hid (∃ b,l[k]?=some b):=ħ ⟨_,đb (by rw[<- HN.o];omega)⟩;obtain⟨b,hbk⟩:=HQ.o;have t0:wr.cell? ⟨g,off+k*2,none⟩=some (.string (Zad b.n)):=HRD.o wr W3.o k b hbk 0 _ rfl
        have s0:wr.cell? ⟨g,off+i*2,none⟩=some (.string y):=by rw[<- HNY.o];exact HRD.o wr W3.o i q HQI.o 0 _ rfl
        have he:=HEQ.o b (đe hbk);have HTK:Hid ((l.take (k+1)).map (·.n)=(l.take k).map (·.n)++[b.n]):=ħ (by rw[đv,hbk,List.map_append];rfl)
        have HBI:Hid ((b.n==q.n)=true->q.n∈(l.take i).map (·.n)):=ħ (fun h=>by
         have hb2:b∈l.take i:=đe (i:=k) (by rw[List.getElem?_take,if_pos hkl];exact hbk)
         exact List.mem_map.2 ⟨b,hb2,by simpa using h⟩)
        have HNB:Hid ((b.n==q.n)=false->q.n≠b.n):=ħ (fun h e=>by rw[e] at h;simp at h);clear hbk HQ;generalize (b.n==q.n)=rb at *;generalize Zad b.n=z at *
        go_upto_region 9 with(fail)
        go_quiet (fail)
        have Q2:=ħ (below_drewN hq.o nq);have W4:=ħ (below_drewN W3.o nq);clear hq s0 t0 W3;generalize wr.drewN nq=wd at *
        cases rb with
        | true =>
         have HX:Hid (V=false):=ħ (by rw[HF.o,<- HM2.o,decide_eq_true (HBI.o rfl)];rfl)
         go_wp2
         go_ret;exact⟨Zac HX.o.symm,W4.o⟩
        | false =>
         have HN2:Hid (q.n ∉ (l.take (k+1)).map (·.n)):=ħ (by
          rw[HTK.o,đt];rintro (h | h)
          ·exact hnk.o h
          ·exact HNB.o rfl (by simpa using h))
         go_wp2
         go_roundw
         case rel=>exact⟨k+1,by go_num,by omega,Q2,HN2⟩
         case measure=>simp only[intOf];omega
       ·have kk:¬ ((k:Int)<i):=by omega
        obtain rfl:k=i:=by omega
        have HX:Hid (V=vbG ((l.take (k+1)).map (·.n)) (l.drop (k+1))):=ħ (by rw[HF.o,<- HM2.o,decide_eq_false hnk.o];rfl)
        go_wp2
        go_roundw
        case rel=>exact⟨k+1,by go_num,by omega,W3,HX⟩
        case measure=>simp only[intOf];omega
  ·have ii:¬ ((i:Int)<n):=by omega
   have HX:Hid (V=true):=ħ (by rw[hv.o,List.drop_eq_nil_of_le (by rw[<- HN.o];omega),vbG])
   go_wp2
   go_ret;exact⟨Zac HX.o.symm,hw.o⟩
end
section
open Go.RowKit Go.Sort Go.Maps
def Zry(s:List Nat):List (List Nat)->List (List Nat)
 | []=>[s]
 | x::l=>if ltL s x=true then s::x::l else x::Zry s l
def Zf2(l:List (List Nat))(s:List Nat):List (List Nat):=if l.any (fun x=>x==s)=true then l else Zry s l
theorem Zrz{s y:List Nat}:∀ {l:List (List Nat)},y∈Zry s l↔y=s\/y∈l
 | []=>by show y∈[s]↔_;simp
 | x::l=>by
  unfold Zry;split
  ·simp
  ·rw[List.mem_cons,Zrz,List.mem_cons]
   constructor
   ·rintro (h | h | h)
    ·exact .inr (.inl h)
    ·exact .inl h
    ·exact .inr (.inr h)
   ·rintro (h | h | h)
    ·exact .inr (.inl h)
    ·exact .inl h
    ·exact .inr (.inr h)
theorem Zr0(s:List Nat):∀ l:List (List Nat),(Zry s l).length=l.length+1
 | []=>rfl
 | x::l=>by
  unfold Zry;split
  ·rfl
  ·rw[List.length_cons,Zr0 s l];rfl
theorem Zr1{l:List (List Nat)}{s y:List Nat}:y∈Zf2 l s↔y=s\/y∈l:=by
 unfold Zf2;split
 ·rename_i h
  obtain⟨x,hx,e⟩:=List.any_eq_true.1 h;rw[beq_iff_eq] at e;subst e;constructor
  ·exact .inr
  ·rintro (rfl | h2)
   ·exact hx
   ·exact h2
 ·exact Zrz
theorem Ziz(l:List (List Nat))(s:List Nat):(Zf2 l s).length<=l.length+1:=by
 unfold Zf2;split
 ·omega
 ·rw[Zr0];exact đd _
theorem Zwi{s x:List Nat}{l:List (List Nat)}{i:Nat}(h:l[i]?=some x):Zry s (l.drop i)=if ltL s x=true then s::x::l.drop (i+1) else x::Zry s (l.drop (i+1)):=by
 have hi:=(đg.1 h).1;rw[List.drop_eq_getElem_cons hi];have e:l[i]=x:=(đg.1 h).2;rw[e];rfl
theorem Zti{x:List Nat}{l:List (List Nat)}{i:Nat}(h:l[i]?=some x):l.drop i=x::l.drop (i+1):=by
 have hi:=(đg.1 h).1;rw[List.drop_eq_getElem_cons hi];have e:l[i]=x:=(đg.1 h).2;rw[e]
def Zyz(w w':World)(L:List (List Nat))(e:Ending):Prop:=(∃ o c,e = .returned (.slice o L.length c)/\Zey w' o L)/\Below w.heap.size w w'
theorem Z0a(w:World)(l:List (List Nat))(ao:Option Addr)(n cap:Nat)(s:List Nat)(hn:n=l.length)(hbig:n<=1000000)(hl:Zey w ao l)(hb:∀ x∈l,∀ y∈x,y<256)(hs:∀ y∈s,y<256) :
  Calls Tryz.prog 220 #[.slice ao n cap,.string (Zad s)] w fun e w'=>Zyz w w' (Zf2 l s) e:=by
 have HLW:=ħ (fun W (hW:Below w.heap.size w W)=>hl.below hW)
 have HGL:Hid (∀ i,i<n->∃ x,l[i]?=some x/\((Zad x).toList==(Zad s).toList)=(x==s)/\Op.bytesLess (Zad s).toList (Zad x).toList=ltL s x):=ħ (fun i hi=>by
  have h1:i<l.length:=by rw[<- hn];exact hi
  have h2:=hb l[i] (List.getElem_mem h1)
  exact⟨l[i],đb h1,Zeg _ _ h2 hs,Zji _ _ hs h2⟩)
 have HN:=ħ hn;obtain⟨R,hR⟩:∃ R,Zf2 l s=R:=⟨_,rfl⟩;rw[hR]
 have HR1:Hid (∀ i x,l[i]?=some x->(x==s)=true->R=l):=ħ (fun i x h1 h2=>by
  rw[<- hR];unfold Zf2
  rw[if_pos (List.any_eq_true.2 ⟨x,đe h1,h2⟩)])
 have HR0:Hid ((∀ x∈l,(x==s)=false)->R=Zry s l):=ħ (fun h=>by
  rw[<- hR];unfold Zf2
  rw[if_neg (fun h2=>by
   obtain⟨x,hx,e⟩:=List.any_eq_true.1 h2;rw[h x hx] at e
   cases e)])
 clear hl hb hs hn hR;have BM0:=ħ ((đc w.heap.size w).alloc (đd _) (.cells #[] 9));have OM0:=ħ (OwnK.made w 9 1);generalize hsy:Zad s=sy at *;have HSY:=ħ hsy;clear hsy
 go_enter Tryz.func220,Tryz.ntmps220
 go_upto_region 2 with(fail)
 generalize w.alloc (.cells #[] 9)=w1 at *
 go_upto_region 4 with(fail)
 go_loopw [5,6,7] (fun ov dv iv wr=>∃ (i:Nat) (d:Bool) (gm om cm k:Nat) (out:List (List Nat)),ov = .slice (some ⟨gm,om,none⟩) k cm/\dv = .bool d/\iv = .int .i64 i/\i<=n/\k<=2*i+1/\Hid (k=out.length)/\Hid (Zry s l=out++(if d=true then l.drop i else Zry s (l.drop i)))/\Hid (∀ j,j<i->∀ x,l[j]?=some x->(x==s)=false)/\Hid (OwnK wr w.heap.size 1 k cm (out.map Zk6) (some ⟨gm,om,none⟩))/\Hid (Below w.heap.size w wr)) (fun _ _ i _=>(n-intOf i).toNat)
 case atStart=>exact⟨0,false,w.heap.size,0,0,0,[],rfl,rfl,rfl,by omega,by omega,ħ rfl,ħ rfl,ħ (fun j hj=>absurd hj (đu j)),OM0,BM0⟩
 case round =>
  clear OM0 BM0;obtain⟨i,d,gm,om,cm,k,out,rfl,rfl,rfl,hi,hk,HK,HI,HE,OM,BM⟩:=hrel;have e2:IntKind.i64.wrap ((i:Int)+1)=((i+1:Nat):Int):=đh _ (by omega);by_cases hin:i<n
  ·have ii:(i:Int)<n:=by omega
   obtain⟨x,hx,heq,hlt⟩:=HGL.o i hin;obtain⟨gl,ol,hlo,hgl,hcl⟩:=(HLW.o wr BM.o).at i x hx;have HX:=ħ hx;have HLO:=ħ hlo;have HCX:=ħ (Zwi (s:=s) hx);have HDX:=ħ (Zti hx)
   have HE2:(x==s)=false->Hid (∀ j,j<i+1->∀ x,l[j]?=some x->(x==s)=false):=fun h=>ħ (fun j hj y hy=>by
    rcases đw j i with h2 | h2
    ·exact HE.o j h2 y hy
    ·obtain rfl:i=j:=by omega
     rw[HX.o] at hy;obtain rfl:=đa hy
     exact h)
   have HR2:=ħ (HR1.o i x hx);have HVX:Hid (Zk6 x = .string (Zad x)):=ħ rfl;have HVS:Hid (Zk6 s = .string sy):=ħ (by rw[<- HSY.o];rfl);clear hx hgl;have HLB:=ħ (HLW.o wr BM.o);subst hlo;generalize Zad x=y at *
   cases hxs:(x==s) with
   | true =>
    rw[hxs] at heq;have HRL:=ħ (HR2.o hxs);clear hxs
    go_wp2_with fail
    go_ret;exact⟨⟨_,_,by rw[HRL.o,<- HN.o];rfl,by rw[HRL.o];exact HLB.o⟩,BM.o⟩
   | false =>
    rw[hxs] at heq;have HE3:=HE2 hxs;clear hxs HE2 HR2
    cases d with
    | true =>
     go_upto_region 11 with(fail)
     clear hlt heq
     go_upto_region 5 with(at_builtin;refine Zcn 194 9 (.string ⟨#[]⟩) 1 16 Tryz.underlying194 Zhh rfl (by omega) (by omega) wr w.heap.size rfl (.tmp 36) (.tmp 41) rfl (some ⟨gm,om,none⟩) cm k (out.map Zk6) ?p1 OM.o BM.o.size 1 1 #[.string y] 9 ?p2 rfl (by omega) ?p3 ?p4 ?_;(case p1=>rfl);(case p2=>rfl);(case p3=>intro u hu;simp at hu;subst hu;rfl);(case p4=>omega);intro g5 off5 c5 wa o8 gr8 b8 or8;have OA:=ħ o8;have LA:=ħ (BM.o.trans b8);clear o8 gr8 b8 or8)
     go_wp2_with fail
     go_roundw
     case rel=>exact⟨i+1,true,g5,off5,c5,k+1,out++[x],rfl,rfl,by go_num,by omega,by omega,ħ (by rw[đn,<- HK.o];rfl),ħ (by have:=HI.o;rw[if_pos rfl,HDX.o] at this;rw[this,if_pos rfl,List.append_assoc];rfl),HE3,ħ (by rw[List.map_append];show OwnK _ _ _ _ _ (out.map Zk6++[Zk6 x]) _;rw[HVX.o];exact OA.o),LA⟩
     case measure=>simp only[intOf];omega
    | false =>
     cases hls:ltL s x with
     | true =>
      rw[hls] at hlt;have HC2:Hid (Zry s (l.drop i)=s::x::l.drop (i+1)):=ħ (by rw[HCX.o,if_pos hls]);clear hls
      go_upto_region 9 with(fail)
      clear hlt heq
      go_upto_region 10 with(at_builtin;refine Zcn 194 9 (.string ⟨#[]⟩) 1 16 Tryz.underlying194 Zhh rfl (by omega) (by omega) wr w.heap.size rfl (.tmp 32) (.tmp 34) rfl (some ⟨gm,om,none⟩) cm k (out.map Zk6) ?p1 OM.o BM.o.size 1 1 #[.string sy] 9 ?p2 rfl (by omega) ?p3 ?p4 ?_;(case p1=>rfl);(case p2=>rfl);(case p3=>intro u hu;simp at hu;subst hu;rfl);(case p4=>omega);intro g5 off5 c5 wb o8 gr8 b8 or8;have OA:=ħ o8;have LA:=ħ (BM.o.trans b8);clear o8 gr8 b8 or8)
      have hcl2:=(HLW.o wb LA.o).at i x HX.o;obtain⟨gl2,ol2,hlo2,-,hcl2⟩:=hcl2
      obtain⟨rfl,rfl⟩:gl=gl2/\ol=ol2:=by simpa using hlo2
      have hyy:Zad x=y:=by
       have h9:=HVX.o;injection h9
      rw[hyy] at hcl2;have OM3:Hid (OwnK wb w.heap.size 1 (k+1) c5 ((out++[s]).map Zk6) (some ⟨g5,off5,none⟩)):=ħ (by rw[List.map_append];show OwnK _ _ _ _ _ (out.map Zk6++[Zk6 s]) _;rw[HVS.o];exact OA.o);have BM2:=LA;clear OM BM OA LA hcl hlo2 hyy
      go_upto_region 11 with(fail)
      go_upto_region 5 with(at_builtin;refine Zcn 194 9 (.string ⟨#[]⟩) 1 16 Tryz.underlying194 Zhh rfl (by omega) (by omega) wb w.heap.size rfl (.tmp 36) (.tmp 41) rfl (some ⟨g5,off5,none⟩) c5 (k+1) ((out++[s]).map Zk6) ?p1 OM3.o BM2.o.size 1 1 #[.string y] 9 ?p2 rfl (by omega) ?p3 ?p4 ?_;(case p1=>rfl);(case p2=>rfl);(case p3=>intro u hu;simp at hu;subst hu;rfl);(case p4=>omega);intro g6 off6 c6 wa o8 gr8 b8 or8;have OA:=ħ o8;have LA:=ħ (BM2.o.trans b8);clear o8 gr8 b8 or8)
      go_wp2_with fail
      go_roundw
      case rel=>exact⟨i+1,true,g6,off6,c6,k+1+1,out++[s]++[x],rfl,rfl,by go_num,by omega,by omega,ħ (by rw[đn,đn,<- HK.o];rfl),ħ (by have:=HI.o;rw[if_neg (by decide),HC2.o] at this;rw[this,if_pos rfl,List.append_assoc,List.append_assoc];rfl),HE3,ħ (by rw[List.map_append];show OwnK _ _ _ _ _ ((out++[s]).map Zk6++[Zk6 x]) _;rw[HVX.o];exact OA.o),LA⟩
      case measure=>simp only[intOf];omega
     | false =>
      rw[hls] at hlt;have HC2:Hid (Zry s (l.drop i)=x::Zry s (l.drop (i+1))):=ħ (by rw[HCX.o,if_neg (by rw[hls];decide)]);clear hls
      go_upto_region 11 with(fail)
      clear hlt heq
      go_upto_region 5 with(at_builtin;refine Zcn 194 9 (.string ⟨#[]⟩) 1 16 Tryz.underlying194 Zhh rfl (by omega) (by omega) wr w.heap.size rfl (.tmp 36) (.tmp 41) rfl (some ⟨gm,om,none⟩) cm k (out.map Zk6) ?p1 OM.o BM.o.size 1 1 #[.string y] 9 ?p2 rfl (by omega) ?p3 ?p4 ?_;(case p1=>rfl);(case p2=>rfl);(case p3=>intro u hu;simp at hu;subst hu;rfl);(case p4=>omega);intro g5 off5 c5 wa o8 gr8 b8 or8;have OA:=ħ o8;have LA:=ħ (BM.o.trans b8);clear o8 gr8 b8 or8)
      go_wp2_with fail
      go_roundw
      case rel=>exact⟨i+1,false,g5,off5,c5,k+1,out++[x],rfl,rfl,by go_num,by omega,by omega,ħ (by rw[đn,<- HK.o];rfl),ħ (by have:=HI.o;rw[if_neg (by decide),HC2.o] at this;rw[this,if_neg (by decide),List.append_assoc];rfl),HE3,ħ (by rw[List.map_append];show OwnK _ _ _ _ _ (out.map Zk6++[Zk6 x]) _;rw[HVX.o];exact OA.o),LA⟩
      case measure=>simp only[intOf];omega
  ·have ii:¬ (i:Int)<n:=by omega
   obtain rfl:n=i:=by omega
   have HRI:Hid (R=out++if d=true then [] else [s]):=ħ (by
    have h1:=HR0.o (fun x hx=>by
     obtain⟨j,hj,rfl⟩:=List.mem_iff_getElem.1 hx
     exact HE.o j (by rw[HN.o];exact hj) _ (đb hj))
    rw[h1,HI.o,List.drop_eq_nil_of_le (by rw[HN.o];exact đd _)]
    cases d<;>rfl)
   have HVS:Hid (Zk6 s = .string sy):=ħ (by rw[<- HSY.o];rfl)
   cases d with
   | true =>
    have HRO:Hid (R=out):=ħ (by rw[HRI.o,if_pos rfl,List.append_nil])
    go_wp2_with fail
    go_ret;exact⟨⟨_,_,by rw[HRO.o,<- HK.o];rfl,by rw[HRO.o];exact OM.o.strsR HK.o⟩,BM.o⟩
   | false =>
    have HRO:Hid (R=out++[s]):=ħ (by rw[HRI.o,if_neg (by decide)])
    go_upto_region 13 with(fail)
    go_upto_region 14 with(at_builtin;refine Zcn 194 9 (.string ⟨#[]⟩) 1 16 Tryz.underlying194 Zhh rfl (by omega) (by omega) wr w.heap.size rfl (.tmp 45) (.tmp 47) rfl (some ⟨gm,om,none⟩) cm k (out.map Zk6) ?p1 OM.o BM.o.size 1 1 #[.string sy] 9 ?p2 rfl (by omega) ?p3 ?p4 ?_;(case p1=>rfl);(case p2=>rfl);(case p3=>intro u hu;simp at hu;subst hu;rfl);(case p4=>omega);intro g5 off5 c5 wa o8 gr8 b8 or8;have OA:=ħ o8;have LA:=ħ (BM.o.trans b8);clear o8 gr8 b8 or8)
    go_wp2_with fail
    go_ret;refine⟨⟨_,_,by rw[HRO.o,đn,<- HK.o];rfl,?_⟩,LA.o⟩;rw[HRO.o];refine OwnK.strsR (n:=k+1) (B:=w.heap.size) (cap:=c5) ?_ (by rw[đn,<- HK.o];rfl);rw[List.map_append];show OwnK _ _ _ _ _ (out.map Zk6++[Zk6 s]) _;rw[HVS.o];exact OA.o
mutual
def Zcr(L:List (List Nat)):Prd->List (List Nat)
 | .mk k l r c ks=>joinL (let a:=if (l==[])=true then L else Zf2 L l;if (r==[])=true then a else Zf2 a r) ks
def joinL(L:List (List Nat)):List Prd->List (List Nat)
 | []=>L
 | q::qs=>joinL (Zcr L q) qs
end
mutual
def Z22:Prd->List (List Nat)
 | .mk k l r c ks=>l::r::Zwj ks
def Zwj:List Prd->List (List Nat)
 | []=>[]
 | q::qs=>Z22 q++Zwj qs
end
theorem Zwk{L:List (List Nat)}{s y:List Nat}:(y≠[]->(y∈(if (s==[])=true then L else Zf2 L s)↔y=s\/y∈L)):=fun hy=>by
 by_cases h:s=[]
 ·subst h
  rw[if_pos (show(([]:List Nat)==[])=true from rfl)];exact⟨.inr,fun h=>h.resolve_left hy⟩
 ·rw[if_neg (by simpa using h)]
  exact Zr1
mutual
theorem Zjw{y:List Nat}(hy:y≠[]):∀ (p:Prd) (L:List (List Nat)),y∈Zcr L p↔y∈L\/y∈Z22 p
 | .mk k l r c ks,L=>by
  unfold Zcr Z22;rw[Zoz hy ks,Zwk hy,Zwk hy,List.mem_cons,List.mem_cons];constructor
  ·rintro ((h | h | h) | h)
   ·exact .inr (.inr (.inl h))
   ·exact .inr (.inl h)
   ·exact .inl h
   ·exact .inr (.inr (.inr h))
  ·rintro (h | h | h | h)
   ·exact .inl (.inr (.inr h))
   ·exact .inl (.inr (.inl h))
   ·exact .inl (.inl h)
   ·exact .inr h
theorem Zoz{y:List Nat}(hy:y≠[]):∀ (ks:List Prd) (L:List (List Nat)),y∈joinL L ks↔y∈L\/y∈Zwj ks
 | [],L=>by unfold joinL Zwj;simp
 | q::qs,L=>by
  unfold joinL Zwj;rw[Zoz hy qs,Zjw hy q,đt,or_assoc]
end
theorem Zwl(L:List (List Nat))(s:List Nat):(if (s==[])=true then L else Zf2 L s).length<=L.length+1:=by
 split
 ·omega
 ·exact Ziz L s
mutual
theorem Zez:∀ (p:Prd) (L:List (List Nat)),(Zcr L p).length<=L.length+2*Zb0 p
 | .mk k l r c ks,L=>by
  unfold Zcr Zb0;have h1:=Zwl L l;have h2:=Zwl (if (l==[])=true then L else Zf2 L l) r;have h3:=Zo0 ks (if (r==[])=true then(if (l==[])=true then L else Zf2 L l) else Zf2 (if (l==[])=true then L else Zf2 L l) r);show(joinL (if (r==[])=true then(if (l==[])=true then L else Zf2 L l) else Zf2 (if (l==[])=true then L else Zf2 L l) r) ks).length<=_;omega
theorem Zo0:∀ (ks:List Prd) (L:List (List Nat)),(joinL L ks).length<=L.length+2*Zb2 ks
 | [],L=>by unfold joinL;omega
 | q::qs,L=>by
  unfold joinL;have h1:=Zez q L;have h2:=Zo0 qs (Zcr L q)
  have h3:Zb2 (q::qs)=Zb0 q+Zb2 qs:=by rw[Zb2]
  omega
end
def BtS(L:List (List Nat)):Prop:=∀ x∈L,∀ y∈x,y<256
theorem BtS.put{L:List (List Nat)}{s:List Nat}(h:BtS L)(hs:∀ y∈s,y<256):BtS (Zf2 L s):=fun x hx=>by
 rcases Zr1.1 hx with rfl | h2
 ·exact hs
 ·exact h x h2
theorem BtS.opt{L:List (List Nat)}{s:List Nat}(h:BtS L)(hs:∀ y∈s,y<256):BtS (if (s==[])=true then L else Zf2 L s):=by
 split
 ·exact h
 ·exact h.put hs
mutual
theorem BtS.join:∀ (p:Prd) (L:List (List Nat)),Zon p->BtS L->BtS (Zcr L p)
 | .mk k l r c ks,L,hb,h=>by
  unfold Zon at hb;unfold Zcr;exact BtS.joinL ks _ hb.2.2 ((h.opt hb.1.1).opt hb.2.1.1)
theorem BtS.joinL:∀ (ks:List Prd) (L:List (List Nat)),Zuq ks->BtS L->BtS (joinL L ks)
 | [],L,hb,h=>by unfold Go.Proofs.YtbcgocpihobjnaaGreatDoor.joinL;exact h
 | q::qs,L,hb,h=>by
  unfold Zuq at hb;unfold Go.Proofs.YtbcgocpihobjnaaGreatDoor.joinL;exact BtS.joinL qs _ hb.2 (BtS.join q L hb.1 h)
end
end
section
open Go.RowKit Go.Sort Go.Maps
theorem Ztj (w:World) (P:Nat->Prop) (κ:Int) (l r:List Nat) (c:Int) (ks:List Prd) (ao:Option Addr) (n cap:Nat) (L:List (List Nat)) (lo:Option Addr) (k lc:Nat) (hn:n=ks.length) (hk:k=L.length) (hbig:k+2+2*Zb2 ks<=1000000) (hks:Zvx w P ks ao) (hL:Zey w lo L) (hb:BtS L) (hl:∀ y∈l,y<256) (hr:∀ y∈r,y<256) (hbk:Zuq ks)
  (ih:∀ (q:Prd) (w:World) (vs:List Value) (L:List (List Nat)) (lo:Option Addr) (k lc:Nat),q∈ks->Zao w P q vs->k=L.length->k+2*Zb0 q<=1000000->Zey w lo L->BtS L->Calls Tryz.prog 192 #[.slice lo k lc,.agg vs.toArray] w fun e w'=>Zyz w w' (Zcr L q) e) :
  Calls Tryz.prog 192 #[.slice lo k lc,.agg #[.int .i64 κ,.string (Zad l),.string (Zad r),.int .i64 c,.slice ao n cap]] w fun e w'=>Zyz w w' (Zcr L (.mk κ l r c ks)) e:=by
 have HPU:=ħ (fun W L lo k lc s (hk:k=L.length) (h1:k<=1000000) (h2:Zey W lo L) (h3:BtS L) (h4:∀ y∈s,y<256)=>Z0a W L lo k lc s hk h1 h2 h3 h4);have HKW:=ħ (fun W (hW:Below w.heap.size w W)=>hks.below hW);have HLW:=ħ (fun W (hW:Below w.heap.size w W)=>hL.below hW);have IH:=ħ ih;have HN:=ħ hn;have HL0:=ħ hk;have HB:=ħ hb;have HLb:=ħ hl;have HRb:=ħ hr;have HBK:=ħ (fun q (hq:q∈ks)=>(Zfy ks).1 hbk q hq);have hlen:=Zbq ks
 have hnb:n<=1000000:=by omega
 obtain⟨R,hR⟩:∃ R,Zcr L (.mk κ l r c ks)=R:=⟨_,rfl⟩;rw[hR];have HR:Hid (joinL (if (r==[])=true then(if (l==[])=true then L else Zf2 L l) else Zf2 (if (l==[])=true then L else Zf2 L l) r) ks=R):=ħ (by rw[<- hR];unfold Zcr;rfl)
 have HLE:Hid ((Zad l).toList.isEmpty=(l==[])/\(Zad r).toList.isEmpty=(r==[])):=ħ (by
  have:∀ m:List Nat,(Zad m).toList.isEmpty=(m==[]):=fun m=>by
   cases m with
   | nil=>exact Zc3.trans rfl
   | cons a b=>rw[Zdf _ (by simp)];rfl
  exact⟨this l,this r⟩)
 have hle1:=HLE.o.1;have hle2:=HLE.o.2;have B1:=ħ ((đc w.heap.size w).alloc (đd _) (.cells #[.int .i64 κ,.string (Zad l),.string (Zad r),.int .i64 c,.slice ao n cap] 54));have X1:Hid (Zae (w.alloc (.cells #[.int .i64 κ,.string (Zad l),.string (Zad r),.int .i64 c,.slice ao n cap] 54)) w.heap.size 54 [.int .i64 κ,.string (Zad l),.string (Zad r),.int .i64 c,.slice ao n cap]):=ħ (heap_alloc_new w _);clear hks hL ih hb hl hr hbk hR HLE hn hk hlen;generalize (l==[])=e1 at *;generalize (r==[])=e2 at *;have HPL:=ħ (fun W L lo k lc (hk:k=L.length) (h1:k<=1000000) (h2:Zey W lo L) (h3:BtS L)=>HPU.o W L lo k lc l hk h1 h2 h3 HLb.o);have HPR:=ħ (fun W L lo k lc (hk:k=L.length) (h1:k<=1000000) (h2:Zey W lo L) (h3:BtS L)=>HPU.o W L lo k lc r hk h1 h2 h3 HRb.o);have HBL:=ħ (fun L (h:BtS L)=>h.put (s:=l) HLb.o);have HBR:=ħ (fun L (h:BtS L)=>h.put (s:=r) HRb.o);clear HPU HLb HRb;unfold Zyz at HPL HPR;generalize Zad l=y at *;generalize Zad r=z at *
 go_enter Tryz.func192,Tryz.ntmps192
 go_upto_region 1 with(fail)
 generalize w.alloc (.cells #[.int .i64 κ,.string y,.string z,.int .i64 c,.slice ao n cap] 54)=w1 at *
 cases e1 with
 | true =>
  have x1:=X1.o.cell 1 _ rfl;have x2:=X1.o.cell 2 _ rfl;have HR1:Hid (joinL (if e2=true then L else Zf2 L r) ks=R):=ħ HR.o;have HR:=HR1;clear HR1
  cases e2 with
  | true =>
   have HR2:Hid (joinL L ks=R):=ħ HR.o;have HR:=HR2;have SLS:=ħ (HLW.o w1 B1.o)
   go_upto_region 6 with(fail)
   clear hle1 hle2;have HRD:Hid (joinL L (ks.drop 0)=R):=ħ HR.o
   go_loopw [0,5] (fun lv iv wr=>∃ (i:Nat) (o:Option Addr) (kk cp:Nat) (Lc:List (List Nat)),lv = .slice o kk cp/\iv = .int .i64 i/\i<=n/\Hid (kk=Lc.length)/\kk+2*Zb2 (ks.drop i)<=1000000/\Hid (joinL Lc (ks.drop i)=R)/\Hid (Zey wr o Lc)/\Hid (BtS Lc)/\Hid (Below w.heap.size w wr)/\Hid (Zae wr w.heap.size 54 [.int .i64 κ,.string y,.string z,.int .i64 c,.slice ao n cap])) (fun _ i _=>(n-intOf i).toNat)
   case atStart=>exact⟨0,lo,k,lc,L,rfl,rfl,by omega,HL0,by show _+2*Zb2 ks<=_;omega,HRD,SLS,HB,B1,X1⟩
   case round =>
    clear HRD B1 X1;obtain⟨i,o,kk,cp,Lc,rfl,rfl,hi,HKc,hkb,HJ,SC,BC,BR,XR⟩:=hrel;have ei:IntKind.i64.wrap ((i:Int)+1)=((i+1:Nat):Int):=đh _ (by omega);have x4:=XR.o.cell 4 _ rfl;by_cases hlt:i<n
    ·have ii:(i:Int)<n:=by omega
     obtain⟨q,hqi,g,off,hao,hg,us,hpc,hrd⟩:=(HKW.o wr BR.o).get (i:=i) (by rw[<- HN.o];exact hlt)
     have hdr:ks.drop i=q::ks.drop (i+1):=by
      have h5:=(đg.1 hqi).1;rw[List.drop_eq_getElem_cons h5,(đg.1 hqi).2]
     have hcn:Zb2 (ks.drop i)=Zb0 q+Zb2 (ks.drop (i+1)):=by rw[hdr];rw[Zb2]
     have HJ2:Hid (joinL (Zcr Lc q) (ks.drop (i+1))=R):=ħ (by have:=HJ.o;rw[hdr] at this;rw[joinL] at this;exact this);have HIH:=ħ (IH.o q wr us Lc o kk cp (đe hqi) hpc HKc.o (by omega) SC.o BC.o);have hlj:=Zez q Lc;have BC2:=ħ (BtS.join q Lc (HBK.o q (đe hqi)) BC.o);have hkl:=HKc.o;obtain⟨xa,xn,xc,rfl,-⟩:=hpc.form;have s0:=hrd 0 _ rfl;have s1:=hrd 1 _ rfl;have s2:=hrd 2 _ rfl;have s3:=hrd 3 _ rfl;have s4:=hrd 4 _ rfl;rw[Nat.add_zero] at s0;have HAO:=ħ hao;unfold Zyz at HIH
     have hkn:(Zcr Lc q).length+2*Zb2 (ks.drop (i+1))<=1000000:=by omega
     clear hrd hpc hqi hdr hcn hlj hkl HJ hkb;subst hao;generalize Zcr Lc q=Lq at *;generalize q.k=q0 at *;generalize Zad q.l=q1 at *;generalize Zad q.r=q2 at *;generalize q.c=q3 at *
     go_wp2_with fail
     refine HIH.o.mono ?_;intro e w9 hq9;obtain⟨⟨o9,c9,rfl,hs9⟩,b9⟩:=hq9;have B9:=ħ (BR.o.trans (b9.mono BR.o.size));have X9:=ħ (XR.o.step b9);have S9:=ħ hs9;obtain⟨k9,hk9⟩:∃ x,Lq.length=x:=⟨_,rfl⟩;have HK9:=ħ hk9.symm;rw[hk9] at hkn ⊢;clear b9 hs9 BR XR s0 s1 s2 s3 s4 x4 HIH SC BC hk9
     go_wp2_with fail
     go_roundw
     case rel=>exact⟨i+1,o9,k9,c9,Lq,rfl,by go_num,by omega,HK9,hkn,HJ2,S9,BC2,B9,X9⟩
     case measure=>simp only[intOf];omega
    ·have ii:¬ (i:Int)<n:=by omega
     obtain rfl:n=i:=by omega
     have HE:Hid (R=Lc):=ħ (by
      have:=HJ.o;rw[List.drop_eq_nil_of_le (by rw[HN.o];exact đd _)] at this;rw[joinL] at this
      exact this.symm)
     go_wp2_with fail
     go_ret;exact⟨⟨_,_,by rw[HE.o,<- HKc.o];rfl,by rw[HE.o];exact SC.o⟩,BR.o⟩
  | false =>
   have HR2:Hid (joinL (Zf2 L r) ks=R):=ħ HR.o;have HR:=HR2
   go_wp2_with fail
   refine(HPR.o w1 L lo k lc HL0.o (by omega) ((ħ (HLW.o w1 B1.o))).out HB.o).mono ?_;intro e w3 hq3;obtain⟨⟨o3,c3,rfl,hs3⟩,b3⟩:=hq3;have hl3:=Ziz L r;have BT3:=ħ (HBR.o L HB.o);have B3:=ħ (B1.o.trans (b3.mono B1.o.size));have X3:=ħ (X1.o.step b3);have S3:=ħ hs3;have hl0:=HL0.o;generalize Zf2 L r=L3 at *;obtain⟨k3,hk3⟩:∃ x,L3.length=x:=⟨_,rfl⟩;have HK3:=ħ hk3.symm
   have hk3b:k3<=k+1:=by omega
   rw[hk3];clear b3 hs3 hl3 hk3 hl0 x1 x2 HR2
   go_upto_region 6 with(fail)
   clear hle1 hle2;have HRD:Hid (joinL L3 (ks.drop 0)=R):=ħ HR.o
   go_loopw [0,5] (fun lv iv wr=>∃ (i:Nat) (o:Option Addr) (kk cp:Nat) (Lc:List (List Nat)),lv = .slice o kk cp/\iv = .int .i64 i/\i<=n/\Hid (kk=Lc.length)/\kk+2*Zb2 (ks.drop i)<=1000000/\Hid (joinL Lc (ks.drop i)=R)/\Hid (Zey wr o Lc)/\Hid (BtS Lc)/\Hid (Below w.heap.size w wr)/\Hid (Zae wr w.heap.size 54 [.int .i64 κ,.string y,.string z,.int .i64 c,.slice ao n cap])) (fun _ i _=>(n-intOf i).toNat)
   case atStart=>exact⟨0,o3,k3,c3,L3,rfl,rfl,by omega,HK3,by show _+2*Zb2 ks<=_;omega,HRD,S3,BT3,B3,X3⟩
   case round =>
    clear HRD B3 X3;obtain⟨i,o,kk,cp,Lc,rfl,rfl,hi,HKc,hkb,HJ,SC,BC,BR,XR⟩:=hrel;have ei:IntKind.i64.wrap ((i:Int)+1)=((i+1:Nat):Int):=đh _ (by omega);have x4:=XR.o.cell 4 _ rfl;by_cases hlt:i<n
    ·have ii:(i:Int)<n:=by omega
     obtain⟨q,hqi,g,off,hao,hg,us,hpc,hrd⟩:=(HKW.o wr BR.o).get (i:=i) (by rw[<- HN.o];exact hlt)
     have hdr:ks.drop i=q::ks.drop (i+1):=by
      have h5:=(đg.1 hqi).1;rw[List.drop_eq_getElem_cons h5,(đg.1 hqi).2]
     have hcn:Zb2 (ks.drop i)=Zb0 q+Zb2 (ks.drop (i+1)):=by rw[hdr];rw[Zb2]
     have HJ2:Hid (joinL (Zcr Lc q) (ks.drop (i+1))=R):=ħ (by have:=HJ.o;rw[hdr] at this;rw[joinL] at this;exact this);have HIH:=ħ (IH.o q wr us Lc o kk cp (đe hqi) hpc HKc.o (by omega) SC.o BC.o);have hlj:=Zez q Lc;have BC2:=ħ (BtS.join q Lc (HBK.o q (đe hqi)) BC.o);have hkl:=HKc.o;obtain⟨xa,xn,xc,rfl,-⟩:=hpc.form;have s0:=hrd 0 _ rfl;have s1:=hrd 1 _ rfl;have s2:=hrd 2 _ rfl;have s3:=hrd 3 _ rfl;have s4:=hrd 4 _ rfl;rw[Nat.add_zero] at s0;have HAO:=ħ hao;unfold Zyz at HIH
     have hkn:(Zcr Lc q).length+2*Zb2 (ks.drop (i+1))<=1000000:=by omega
     clear hrd hpc hqi hdr hcn hlj hkl HJ hkb;subst hao;generalize Zcr Lc q=Lq at *;generalize q.k=q0 at *;generalize Zad q.l=q1 at *;generalize Zad q.r=q2 at *;generalize q.c=q3 at *
     go_wp2_with fail
     refine HIH.o.mono ?_;intro e w9 hq9;obtain⟨⟨o9,c9,rfl,hs9⟩,b9⟩:=hq9;have B9:=ħ (BR.o.trans (b9.mono BR.o.size));have X9:=ħ (XR.o.step b9);have S9:=ħ hs9;obtain⟨k9,hk9⟩:∃ x,Lq.length=x:=⟨_,rfl⟩;have HK9:=ħ hk9.symm;rw[hk9] at hkn ⊢;clear b9 hs9 BR XR s0 s1 s2 s3 s4 x4 HIH SC BC hk9
     go_wp2_with fail
     go_roundw
     case rel=>exact⟨i+1,o9,k9,c9,Lq,rfl,by go_num,by omega,HK9,hkn,HJ2,S9,BC2,B9,X9⟩
     case measure=>simp only[intOf];omega
    ·have ii:¬ (i:Int)<n:=by omega
     obtain rfl:n=i:=by omega
     have HE:Hid (R=Lc):=ħ (by
      have:=HJ.o;rw[List.drop_eq_nil_of_le (by rw[HN.o];exact đd _)] at this;rw[joinL] at this
      exact this.symm)
     go_wp2_with fail
     go_ret;exact⟨⟨_,_,by rw[HE.o,<- HKc.o];rfl,by rw[HE.o];exact SC.o⟩,BR.o⟩
 | false =>
  have x1:=X1.o.cell 1 _ rfl;have x2:=X1.o.cell 2 _ rfl;have HR1:Hid (joinL (if e2=true then Zf2 L l else Zf2 (Zf2 L l) r) ks=R):=ħ HR.o;have HR:=HR1
  go_wp2_with fail
  refine(HPL.o w1 L lo k lc HL0.o (by omega) (HLW.o w1 B1.o) HB.o).mono ?_;intro e w2 hq2;obtain⟨⟨o2,c2,rfl,hs2⟩,b2⟩:=hq2;have hl2:=Ziz L l;have BT2:=ħ (HBL.o L HB.o);have B2:=ħ (B1.o.trans (b2.mono B1.o.size));have X2:=ħ (X1.o.step b2);have S2:=ħ hs2;have hl0:=HL0.o;generalize Zf2 L l=L2 at *;obtain⟨k2,hk2⟩:∃ x,L2.length=x:=⟨_,rfl⟩;have HK2:=ħ hk2.symm
  have hk2b:k2<=k+1:=by omega
  rw[hk2];clear b2 hs2 hl2 hk2 hl0 X1 B1 HR1 x1 x2;have x1:=X2.o.cell 1 _ rfl;have x2:=X2.o.cell 2 _ rfl
  cases e2 with
  | true =>
   have HR2:Hid (joinL L2 ks=R):=ħ HR.o;have HR:=HR2;have SLS:=ħ S2.o
   go_upto_region 6 with(fail)
   clear hle1 hle2;have HRD:Hid (joinL L2 (ks.drop 0)=R):=ħ HR.o
   go_loopw [0,5] (fun lv iv wr=>∃ (i:Nat) (o:Option Addr) (kk cp:Nat) (Lc:List (List Nat)),lv = .slice o kk cp/\iv = .int .i64 i/\i<=n/\Hid (kk=Lc.length)/\kk+2*Zb2 (ks.drop i)<=1000000/\Hid (joinL Lc (ks.drop i)=R)/\Hid (Zey wr o Lc)/\Hid (BtS Lc)/\Hid (Below w.heap.size w wr)/\Hid (Zae wr w.heap.size 54 [.int .i64 κ,.string y,.string z,.int .i64 c,.slice ao n cap])) (fun _ i _=>(n-intOf i).toNat)
   case atStart=>exact⟨0,o2,k2,c2,L2,rfl,rfl,by omega,HK2,by show _+2*Zb2 ks<=_;omega,HRD,SLS,BT2,B2,X2⟩
   case round =>
    clear HRD B2 X2;obtain⟨i,o,kk,cp,Lc,rfl,rfl,hi,HKc,hkb,HJ,SC,BC,BR,XR⟩:=hrel;have ei:IntKind.i64.wrap ((i:Int)+1)=((i+1:Nat):Int):=đh _ (by omega);have x4:=XR.o.cell 4 _ rfl;by_cases hlt:i<n
    ·have ii:(i:Int)<n:=by omega
     obtain⟨q,hqi,g,off,hao,hg,us,hpc,hrd⟩:=(HKW.o wr BR.o).get (i:=i) (by rw[<- HN.o];exact hlt)
     have hdr:ks.drop i=q::ks.drop (i+1):=by
      have h5:=(đg.1 hqi).1;rw[List.drop_eq_getElem_cons h5,(đg.1 hqi).2]
     have hcn:Zb2 (ks.drop i)=Zb0 q+Zb2 (ks.drop (i+1)):=by rw[hdr];rw[Zb2]
     have HJ2:Hid (joinL (Zcr Lc q) (ks.drop (i+1))=R):=ħ (by have:=HJ.o;rw[hdr] at this;rw[joinL] at this;exact this);have HIH:=ħ (IH.o q wr us Lc o kk cp (đe hqi) hpc HKc.o (by omega) SC.o BC.o);have hlj:=Zez q Lc;have BC2:=ħ (BtS.join q Lc (HBK.o q (đe hqi)) BC.o);have hkl:=HKc.o;obtain⟨xa,xn,xc,rfl,-⟩:=hpc.form;have s0:=hrd 0 _ rfl;have s1:=hrd 1 _ rfl;have s2:=hrd 2 _ rfl;have s3:=hrd 3 _ rfl;have s4:=hrd 4 _ rfl;rw[Nat.add_zero] at s0;have HAO:=ħ hao;unfold Zyz at HIH
     have hkn:(Zcr Lc q).length+2*Zb2 (ks.drop (i+1))<=1000000:=by omega
     clear hrd hpc hqi hdr hcn hlj hkl HJ hkb;subst hao;generalize Zcr Lc q=Lq at *;generalize q.k=q0 at *;generalize Zad q.l=q1 at *;generalize Zad q.r=q2 at *;generalize q.c=q3 at *
     go_wp2_with fail
     refine HIH.o.mono ?_;intro e w9 hq9;obtain⟨⟨o9,c9,rfl,hs9⟩,b9⟩:=hq9;have B9:=ħ (BR.o.trans (b9.mono BR.o.size));have X9:=ħ (XR.o.step b9);have S9:=ħ hs9;obtain⟨k9,hk9⟩:∃ x,Lq.length=x:=⟨_,rfl⟩;have HK9:=ħ hk9.symm;rw[hk9] at hkn ⊢;clear b9 hs9 BR XR s0 s1 s2 s3 s4 x4 HIH SC BC hk9
     go_wp2_with fail
     go_roundw
     case rel=>exact⟨i+1,o9,k9,c9,Lq,rfl,by go_num,by omega,HK9,hkn,HJ2,S9,BC2,B9,X9⟩
     case measure=>simp only[intOf];omega
    ·have ii:¬ (i:Int)<n:=by omega
     obtain rfl:n=i:=by omega
     have HE:Hid (R=Lc):=ħ (by
      have:=HJ.o;rw[List.drop_eq_nil_of_le (by rw[HN.o];exact đd _)] at this;rw[joinL] at this
      exact this.symm)
     go_wp2_with fail
     go_ret;exact⟨⟨_,_,by rw[HE.o,<- HKc.o];rfl,by rw[HE.o];exact SC.o⟩,BR.o⟩
  | false =>
   have HR2:Hid (joinL (Zf2 L2 r) ks=R):=ħ HR.o;have HR:=HR2
   go_wp2_with fail
   refine(HPR.o w2 L2 o2 k2 c2 HK2.o (by omega) (S2).out BT2.o).mono ?_;intro e w3 hq3;obtain⟨⟨o3,c3,rfl,hs3⟩,b3⟩:=hq3;have hl3:=Ziz L2 r;have BT3:=ħ (HBR.o L2 BT2.o);have B3:=ħ (B2.o.trans (b3.mono B2.o.size));have X3:=ħ (X2.o.step b3);have S3:=ħ hs3;have hl0:=HK2.o;generalize Zf2 L2 r=L3 at *;obtain⟨k3,hk3⟩:∃ x,L3.length=x:=⟨_,rfl⟩;have HK3:=ħ hk3.symm
   have hk3b:k3<=k2+1:=by omega
   rw[hk3];clear b3 hs3 hl3 hk3 hl0 x1 x2 HR2
   go_upto_region 6 with(fail)
   clear hle1 hle2;have HRD:Hid (joinL L3 (ks.drop 0)=R):=ħ HR.o
   go_loopw [0,5] (fun lv iv wr=>∃ (i:Nat) (o:Option Addr) (kk cp:Nat) (Lc:List (List Nat)),lv = .slice o kk cp/\iv = .int .i64 i/\i<=n/\Hid (kk=Lc.length)/\kk+2*Zb2 (ks.drop i)<=1000000/\Hid (joinL Lc (ks.drop i)=R)/\Hid (Zey wr o Lc)/\Hid (BtS Lc)/\Hid (Below w.heap.size w wr)/\Hid (Zae wr w.heap.size 54 [.int .i64 κ,.string y,.string z,.int .i64 c,.slice ao n cap])) (fun _ i _=>(n-intOf i).toNat)
   case atStart=>exact⟨0,o3,k3,c3,L3,rfl,rfl,by omega,HK3,by show _+2*Zb2 ks<=_;omega,HRD,S3,BT3,B3,X3⟩
   case round =>
    clear HRD B3 X3;obtain⟨i,o,kk,cp,Lc,rfl,rfl,hi,HKc,hkb,HJ,SC,BC,BR,XR⟩:=hrel;have ei:IntKind.i64.wrap ((i:Int)+1)=((i+1:Nat):Int):=đh _ (by omega);have x4:=XR.o.cell 4 _ rfl;by_cases hlt:i<n
    ·have ii:(i:Int)<n:=by omega
     obtain⟨q,hqi,g,off,hao,hg,us,hpc,hrd⟩:=(HKW.o wr BR.o).get (i:=i) (by rw[<- HN.o];exact hlt)
     have hdr:ks.drop i=q::ks.drop (i+1):=by
      have h5:=(đg.1 hqi).1;rw[List.drop_eq_getElem_cons h5,(đg.1 hqi).2]
     have hcn:Zb2 (ks.drop i)=Zb0 q+Zb2 (ks.drop (i+1)):=by rw[hdr];rw[Zb2]
     have HJ2:Hid (joinL (Zcr Lc q) (ks.drop (i+1))=R):=ħ (by have:=HJ.o;rw[hdr] at this;rw[joinL] at this;exact this);have HIH:=ħ (IH.o q wr us Lc o kk cp (đe hqi) hpc HKc.o (by omega) SC.o BC.o);have hlj:=Zez q Lc;have BC2:=ħ (BtS.join q Lc (HBK.o q (đe hqi)) BC.o);have hkl:=HKc.o;obtain⟨xa,xn,xc,rfl,-⟩:=hpc.form;have s0:=hrd 0 _ rfl;have s1:=hrd 1 _ rfl;have s2:=hrd 2 _ rfl;have s3:=hrd 3 _ rfl;have s4:=hrd 4 _ rfl;rw[Nat.add_zero] at s0;have HAO:=ħ hao;unfold Zyz at HIH
     have hkn:(Zcr Lc q).length+2*Zb2 (ks.drop (i+1))<=1000000:=by omega
     clear hrd hpc hqi hdr hcn hlj hkl HJ hkb;subst hao;generalize Zcr Lc q=Lq at *;generalize q.k=q0 at *;generalize Zad q.l=q1 at *;generalize Zad q.r=q2 at *;generalize q.c=q3 at *
     go_wp2_with fail
     refine HIH.o.mono ?_;intro e w9 hq9;obtain⟨⟨o9,c9,rfl,hs9⟩,b9⟩:=hq9;have B9:=ħ (BR.o.trans (b9.mono BR.o.size));have X9:=ħ (XR.o.step b9);have S9:=ħ hs9;obtain⟨k9,hk9⟩:∃ x,Lq.length=x:=⟨_,rfl⟩;have HK9:=ħ hk9.symm;rw[hk9] at hkn ⊢;clear b9 hs9 BR XR s0 s1 s2 s3 s4 x4 HIH SC BC hk9
     go_wp2_with fail
     go_roundw
     case rel=>exact⟨i+1,o9,k9,c9,Lq,rfl,by go_num,by omega,HK9,hkn,HJ2,S9,BC2,B9,X9⟩
     case measure=>simp only[intOf];omega
    ·have ii:¬ (i:Int)<n:=by omega
     obtain rfl:n=i:=by omega
     have HE:Hid (R=Lc):=ħ (by
      have:=HJ.o;rw[List.drop_eq_nil_of_le (by rw[HN.o];exact đd _)] at this;rw[joinL] at this
      exact this.symm)
     go_wp2_with fail
     go_ret;exact⟨⟨_,_,by rw[HE.o,<- HKc.o];rfl,by rw[HE.o];exact SC.o⟩,BR.o⟩
theorem Zo1:∀ (N:Nat) (p:Prd) (w:World) (P:Nat->Prop) (vs:List Value) (L:List (List Nat)) (lo:Option Addr) (k lc:Nat),Zb0 p<=N->Zon p->Zao w P p vs->k=L.length->k+2*Zb0 p<=1000000->Zey w lo L->BtS L ->
  Calls Tryz.prog 192 #[.slice lo k lc,.agg vs.toArray] w fun e w'=>Zyz w w' (Zcr L p) e
 | 0,p,w,P,vs,L,lo,k,lc,hN,_,_,_,_,_,_=>by have:=Zek p;omega
 | N+1,.mk κ l r c ks,w,P,vs,L,lo,k,lc,hN,hb,h,hk,hbig,hL,hB=>by
  have hc1:Zb0 (.mk κ l r c ks)=1+Zb2 ks:=by rw[Zb0]
  unfold Zao at h;unfold Zon at hb;obtain⟨ao,cap,rfl,hkr⟩:=h
  exact Ztj w P κ l r c ks ao ks.length cap L lo k lc rfl hk (by omega) hkr hL hB hb.1.1 hb.2.1.1 hb.2.2 (fun q w' us L' lo' k' lc' hq hpc h1 h2 h3 h4=>Zo1 N q w' P us L' lo' k' lc' (by
   obtain⟨i,hi⟩:=đs.1 hq;have:=Zel ks i q hi
   omega) ((Zfy ks).1 hb.2.2 q hq) hpc h1 h2 h3 h4)
theorem Ztk(w:World)(Pb:Nat->Prop)(L:List (List Nat))(lo:Option Addr)(k lc:Nat)(l:List Bnd)(bo:Option Addr)(m bc:Nat)(hk:k=L.length)(hbig:k<=1000000)(hL:Zey w lo L)(hb:BtS L)(hm:m=l.length)(hmb:m<=1000000)(hok:BndOk l)(hkb:Zoq w Pb l bo) :
  Calls Tryz.prog 191 #[.slice lo k lc,.slice bo m bc] w fun e w'=>e = .returned (.bool (L.all (fun x=>(rvP l x).2)))/\w=w':=by
 have HGL:Hid (∀ i,i<k->∃ x g off,L[i]?=some x/\lo=some ⟨g,off,none⟩/\w.cell? ⟨g,off+i,none⟩=some (.string (Zad x))/\(∀ y∈x,y<256)):=ħ (fun i hi=>by
  have h1:i<L.length:=by rw[<- hk];exact hi
  obtain⟨g,off,h2,-,h3⟩:=hL.at i L[i] (đb h1)
  exact⟨L[i],g,off,đb h1,h2,h3,hb _ (List.getElem_mem h1)⟩)
 have HVA:=ħ (fun(x:List Nat) (hx:∀ y∈x,y<256)=>Zgi x w Pb l bo m bc hx hm hmb hok hkb);obtain⟨R,hR⟩:∃ R,L.all (fun x=>(rvP l x).2)=R:=⟨_,rfl⟩
 have HRF:Hid (∀ i x,L[i]?=some x->(rvP l x).2=false->R=false):=ħ (fun i x h1 h2=>by
  rw[<- hR,List.all_eq_false]
  exact⟨x,đe h1,by rw[h2];decide⟩)
 have HRT:Hid ((∀ i,i<k->∀ x,L[i]?=some x->(rvP l x).2=true)->R=true):=ħ (fun h=>by
  rw[<- hR,List.all_eq_true];intro x hx;obtain⟨i,hi,rfl⟩:=List.mem_iff_getElem.1 hx
  exact h i (by rw[hk];exact hi) _ (đb hi))
 rw[hR];clear hL hb hok hkb hm hk hR
 go_enter Tryz.func191,Tryz.ntmps191
 go_upto_region 2 with(fail)
 go_loopw [5] (fun iv wr=>∃ (i:Nat),iv = .int .i64 i/\i<=k/\Hid (∀ j,j<i->∀ x,L[j]?=some x->(rvP l x).2=true)/\wr=w) (fun i _=>(k-intOf i).toNat)
 case atStart=>exact⟨0,rfl,by omega,ħ (fun j hj=>absurd hj (đu j)),rfl⟩
 case round =>
  obtain⟨i,rfl,hi,HJ,rfl⟩:=hrel;have e2:IntKind.i64.wrap ((i:Int)+1)=((i+1:Nat):Int):=đh _ (by omega);by_cases hin:i<k
  ·have ii:(i:Int)<k:=by omega
   obtain⟨x,g,off,hx,hlo,hc,hxb⟩:=HGL.o i hin;have HV1:=ħ (HVA.o x hxb);have HX:=ħ hx;have HRX:=ħ (HRF.o i x hx);have HLO:=ħ hlo;clear hx hxb;subst hlo;generalize hxs:Zad x=y at *;clear hxs;obtain⟨vb,hvb⟩:∃ b,(rvP l x).2=b:=⟨_,rfl⟩;have HVB:=ħ hvb;rw[hvb] at HV1 HRX;generalize (rvP l x).1=va at *;clear hvb
   go_wp2_with fail
   refine HV1.o.mono ?_;rintro e w2 ⟨rfl,rfl⟩
   cases vb with
   | false =>
    have HE:=ħ (HRX.o rfl)
    go_wp2_with fail
    go_ret;exact⟨by rw[HE.o];rfl,rfl⟩
   | true =>
    go_wp2_with fail
    go_roundw
    case rel=>exact⟨i+1,by go_num,by omega,ħ (fun j hj z hz=>by
     rcases đw j i with h | h
     ·exact HJ.o j h z hz
     ·obtain rfl:i=j:=by omega
      rw[HX.o] at hz;obtain rfl:=đa hz
      exact HVB.o),(by trivial)⟩
    case measure=>simp only[intOf];omega
  ·have ii:¬ (i:Int)<k:=by omega
   obtain rfl:k=i:=by omega
   have HE:=ħ (HRT.o HJ.o)
   go_wp2_with fail
   go_ret;exact⟨by rw[HE.o];rfl,rfl⟩
end
section
open Go.RowKit Go.Sort Go.Maps
theorem Zwm(f:Ky->Bool){ks:List Prd}{i:Nat}{q:Prd}(h:ks[i]?=some q):Zgn f (ks.take (i+1))=Zgn f (ks.take i)+if Zbs f q=true then 1 else 0:=by
 rw[đv,h,Zjm];show _+Zgn f [q]=_;rw[Zgn,Zgn];omega
theorem Zwn (w:World) (P:Nat->Prop) (κ:Int) (l' r':List Nat) (c:Int) (ks:List Prd) (ao:Option Addr) (n cap:Nat) (f:Ky->Bool) (bo:Option Addr) (m bc:Nat) (hκ:κ≠0) (hn:n=ks.length) (hbig:n<=1000000) (hks:Zvx w P ks ao)
  (ih:∀ (q:Prd) (W:World) (us:List Value),Below w.heap.size w W->q∈ks->Zao W P q us->Calls Tryz.prog 193 #[.agg us.toArray,.slice bo m bc] W fun e w'=>e = .returned (.bool (Zbs f q))/\Below W.heap.size W w') :
  Calls Tryz.prog 193 #[.agg #[.int .i64 κ,.string (Zad l'),.string (Zad r'),.int .i64 c,.slice ao n cap],.slice bo m bc] w fun e w'=>e = .returned (.bool (Zbs f (.mk κ l' r' c ks)))/\Below w.heap.size w w':=by
 have HKW:=ħ (fun W (hW:Below w.heap.size w W)=>hks.below hW);have IH:=ħ ih;have HN:=ħ hn;obtain⟨R,hR⟩:∃ R,Zbs f (.mk κ l' r' c ks)=R:=⟨_,rfl⟩;rw[hR]
 have HR:Hid (R=if κ=1 then Zgn f ks==n else if κ=2 then decide (0<Zgn f ks) else decide (c<=((Zgn f ks:Nat):Int))):=ħ (by
  rw[<- hR];unfold Zbs
  rw[if_neg hκ,hn])
 have hk0:(κ==0)=false:=by simpa using hκ
 have B1:=ħ ((đc w.heap.size w).alloc (đd _) (.cells #[.int .i64 κ,.string (Zad l'),.string (Zad r'),.int .i64 c,.slice ao n cap] 54));have X1:Hid (Zae (w.alloc (.cells #[.int .i64 κ,.string (Zad l'),.string (Zad r'),.int .i64 c,.slice ao n cap] 54)) w.heap.size 54 [.int .i64 κ,.string (Zad l'),.string (Zad r'),.int .i64 c,.slice ao n cap]):=ħ (heap_alloc_new w _);clear hks ih hn hR hκ;generalize Zad l'=y at *;generalize Zad r'=z at *
 go_enter Tryz.func193,Tryz.ntmps193
 go_upto_region 1 with(fail)
 generalize w.alloc (.cells #[.int .i64 κ,.string y,.string z,.int .i64 c,.slice ao n cap] 54)=w1 at *;have x0:=X1.o.cell 0 _ rfl
 go_upto_region 5 with(fail)
 clear x0 hk0
 go_upto_region 7 with(fail)
 have C0:Hid (((0:Nat):Int)=((Zgn f (ks.take 0):Nat):Int)):=ħ (by rw[List.take_zero,Zgn])
 go_loopw [9,10] (fun nv iv wr=>∃ (i a:Nat),iv = .int .i64 i/\nv = .int .i64 a/\i<=n/\a<=i/\Hid (a=Zgn f (ks.take i))/\Hid (Below w.heap.size w wr)/\Hid (Zae wr w.heap.size 54 [.int .i64 κ,.string y,.string z,.int .i64 c,.slice ao n cap])) (fun _ i _=>(n-intOf i).toNat)
 case atStart=>exact⟨0,0,rfl,rfl,by omega,by omega,ħ (by rw[List.take_zero,Zgn]),B1,X1⟩
 case round =>
  clear C0 B1 X1;obtain⟨i,a,rfl,rfl,hi,hai,HA,BR,XR⟩:=hrel;have ei:IntKind.i64.wrap ((i:Int)+1)=((i+1:Nat):Int):=đh _ (by omega);have ea:IntKind.i64.wrap ((a:Int)+1)=((a+1:Nat):Int):=đh _ (by omega);have x4:=XR.o.cell 4 _ rfl;by_cases hlt:i<n
  ·have ii:(i:Int)<n:=by omega
   obtain⟨q,hqi,g,off,hao,hg,us,hpc,hrd⟩:=(HKW.o wr BR.o).get (i:=i) (by rw[<- HN.o];exact hlt);have HCN:=ħ (Zwm f hqi);have HIH:=ħ (IH.o q wr us BR.o (đe hqi) hpc);obtain⟨xa,xn,xc,rfl,-⟩:=hpc.form;have s0:=hrd 0 _ rfl;have s1:=hrd 1 _ rfl;have s2:=hrd 2 _ rfl;have s3:=hrd 3 _ rfl;have s4:=hrd 4 _ rfl;rw[Nat.add_zero] at s0;have HAO:=ħ hao;clear hrd hpc hqi;subst hao;generalize Zbs f q=tb at *;generalize q.k=q0 at *;generalize Zad q.l=q1 at *;generalize Zad q.r=q2 at *;generalize q.c=q3 at *
   go_wp2_with fail
   refine HIH.o.mono ?_;rintro e w9 ⟨rfl,b9⟩;have B9:=ħ (BR.o.trans (b9.mono BR.o.size));have X9:=ħ (XR.o.step b9);clear b9 BR XR s0 s1 s2 s3 s4 x4 HIH
   cases tb with
   | true =>
    go_wp2_with fail
    go_roundw
    case rel=>exact⟨i+1,a+1,by go_num,by go_num,by omega,by omega,ħ (by rw[HCN.o,<- HA.o];simp),B9,X9⟩
    case measure=>simp only[intOf];omega
   | false =>
    go_wp2_with fail
    go_roundw
    case rel=>exact⟨i+1,a,by go_num,rfl,by omega,by omega,ħ (by rw[HCN.o,<- HA.o];simp),B9,X9⟩
    case measure=>simp only[intOf];omega
  ·have ii:¬ (i:Int)<n:=by omega
   obtain rfl:n=i:=by omega
   have HAE:Hid (Zgn f ks=a):=ħ (by
    have:=HA.o;rw[HN.o,List.take_length] at this
    exact this.symm)
   have HR2:Hid (R=if κ=1 then a==n else if κ=2 then decide (0<a) else decide (c<=((a:Nat):Int))):=ħ (by rw[HR.o,HAE.o]);have x0:=XR.o.cell 0 _ rfl;have x3:=XR.o.cell 3 _ rfl;clear HR HA HAE HN HKW IH;by_cases k1:κ=1
   ·subst k1
    obtain⟨V,hV⟩:∃ b,(a==n)=b:=⟨_,rfl⟩
    have hV2:(((a:Nat):Int)==((n:Nat):Int))=V:=by
     rw[<- hV,Bool.eq_iff_iff,beq_iff_eq,beq_iff_eq];omega
    have HE:Hid (R=V):=ħ (by rw[HR2.o,if_pos rfl,hV])
    go_wp2_with fail
    go_ret;exact⟨by rw[HE.o];rfl,BR.o⟩
   ·have k1b:(κ==1)=false:=by simpa using k1
    by_cases k2:κ=2
    ·subst k2
     have HE0:Hid (R=decide (0<a)):=ħ (by rw[HR2.o,if_neg k1,if_pos rfl]);obtain⟨V,hV⟩:∃ b,decide (0<a)=b:=⟨_,rfl⟩;have HE:Hid (R=V):=ħ (by rw[HE0.o,hV])
     have hV2:decide ((0:Int)<((a:Nat):Int))=V:=by
      rw[<- hV,Bool.eq_iff_iff,decide_eq_true_eq,decide_eq_true_eq];omega
     go_wp2_with fail
     go_ret;exact⟨by rw[HE.o];rfl,BR.o⟩
    ·have k2b:(κ==2)=false:=by simpa using k2
     obtain⟨V,hV⟩:∃ b,decide (c<=((a:Nat):Int))=b:=⟨_,rfl⟩;have HE:Hid (R=V):=ħ (by rw[HR2.o,if_neg k1,if_neg k2,hV])
     go_wp2_with fail
     go_ret;exact⟨by rw[HE.o];rfl,BR.o⟩
theorem Zl5:∀ (N:Nat) (p:Prd) (w:World) (P Pb:Nat->Prop) (vs:List Value) (l:List Bnd) (bo:Option Addr) (m bc:Nat),Zb0 p<=N->Zb0 p<=1000000->Zon p->Zao w P p vs->m=l.length->m<=1000000->BndOk l->vbP l=true->Zoq w Pb l bo ->
  Calls Tryz.prog 193 #[.agg vs.toArray,.slice bo m bc] w fun e w'=>e = .returned (.bool (Zbs (fR l) p))/\Below w.heap.size w w'
 | 0,p,w,P,Pb,vs,l,bo,m,bc,hN,_,_,_,_,_,_,_,_=>by have:=Zek p;omega
 | N+1,.mk κ l' r' c ks,w,P,Pb,vs,l,bo,m,bc,hN,hM,hb,h,hm,hmb,hok,hv,hkb=>by
  have hc1:Zb0 (.mk κ l' r' c ks)=1+Zb2 ks:=by rw[Zb0]
  have hl:=Zbq ks;unfold Zao at h;unfold Zon at hb;obtain⟨ao,cap,rfl,hkr⟩:=h;by_cases hκ:κ=0
  ·subst hκ
   have e:Zbs (fR l) (.mk 0 l' r' c ks)=fR l ⟨l',r',c⟩:=by rw[Zbs,if_pos rfl]
   rw[e];exact Zwg l' r' c (.slice ao ks.length cap) rfl w Pb l bo m bc hb.1.1 hb.2.1.1 hm hmb hok hkb hv
  ·exact Zwn w P κ l' r' c ks ao ks.length cap (fR l) bo m bc hκ rfl (by omega) hkr (fun q W us hW hq hpc=>by
    obtain⟨i,hi⟩:=đs.1 hq;have:=Zel ks i q hi
    exact Zl5 N q W P Pb us l bo m bc (by omega) (by omega) ((Zfy ks).1 hb.2.2 q hq) hpc hm hmb hok hv (hkb.below hW))
end
end Go.Proofs.YtbcgocpihobjnaaGreatDoor
