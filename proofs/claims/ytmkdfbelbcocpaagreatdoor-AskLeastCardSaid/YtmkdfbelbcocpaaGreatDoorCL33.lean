import Derived.Test.YtmkdfbelbcocpaaGreatDoorCL24
import Derived.Test.YtmkdfbelbcocpaaGreatDoorCL23
set_option linter.unusedVariables false
set_option linter.unusedSimpArgs false
set_option maxHeartbeats 8000000
set_option maxRecDepth 100000
namespace Go.Proofs.YtmkdfbelbcocpaaGreatDoor
open Go.RowKit Go.Sort Go.Maps
theorem Zwn (l:List Nat) (w:World) (hl:l.length≤9223372036854775807) (hb:∀ y∈l,y<256) :
  Calls Tryz.prog 149 #[.string (Zad l)] w fun e w'=>e = .returned (.bool (Zdt l))∧w=w':=by
 by_cases h:l.length≤1000000
 ·exact Zpt l w h hb
 have hsz:=Zao l
 have HV:Hid (Zdt l=false):=ħ (by unfold Zdt;rw[decide_eq_false (show ¬ l.length≤20 by omega)];simp)
 have i1:¬ ((l.length:Int)<1):=by omega
 have i20:(20:Int)<(l.length:Int):=by omega
 generalize Zdt l=V at *
 clear hb h
 generalize Zad l=t at *
 go_enter Tryz.func149,Tryz.ntmps149
 go_wp2_with fail
 go_ret
 exact⟨Zaf HV.o.symm,rfl⟩
theorem Znk (l:List Nat) (w:World) (hl:l.length≤9223372036854775807) (hb:∀ y∈l,y<256) :
  Calls Tryz.prog 85 #[.string (Zad l)] w fun e w'=>e = .returned (.bool (Zdb l))∧RowKit.Below w.heap.size w w':=by
 by_cases h:l.length≤1000000
 ·exact Zy7 l w h hb
 have HN:Hid (Zdt l=false):=ħ (by unfold Zdt;rw[decide_eq_false (show ¬ l.length≤20 by omega)];simp)
 have HV:Hid (Zdb l=false):=ħ (by unfold Zdb;rw[HN.o];rfl)
 have H1:=ħ (Zwn l w hl hb)
 rw[HN.o] at H1
 have B0:=ħ (RowKit.Below.refl w.heap.size w)
 clear hl hb h
 generalize Zdb l=V at *
 generalize Zad l=t at *
 go_enter Tryz.func85,Tryz.ntmps85
 go_wp2_with fail
 refine H1.o.mono ?_
 rintro e w1 ⟨rfl,rfl⟩
 go_wp2_with fail
 go_ret
 exact⟨Zaf HV.o.symm,B0.o⟩
theorem Zly (l:List Nat) (w:World) (hl:l.length≤9223372036854775807) (hb:∀ y∈l,y<256) :
  Calls Tryz.prog 22 #[.string (Zad l)] w fun e w'=>e = .returned (.bool (Zbj l))∧RowKit.Below w.heap.size w w':=by
 have SZ:=ħ (Zao l)
 have HX:Hid (∀ i:Nat,i<l.length→∀ w,(Instr.index 9 (.string (Zad l)) (.int .i64 (i:Int))).run Tryz.prog w = .ok (.int .u8 ((l.getD i 0:Nat):Int)) w):=ħ (fun i hi w=>Zfj l i hi hb w)
 have HS:Hid (∀ i:Nat,i≤l.length→∀ w,(Instr.slice 9 (.string (Zad l)) (some (.int .i64 (i:Int))) none none).run Tryz.prog w = .ok (.string (Zad (l.drop i))) w):=ħ (fun i hi w=>Zoo l i hi w)
 have HU:Hid (∀ i:Nat,i≤l.length→∀ w,(Instr.slice 9 (.string (Zad l)) none (some (.int .i64 (i:Int))) none).run Tryz.prog w = .ok (.string (Zad (l.take i))) w):=ħ (fun i hi w=>Zkv l i hi w)
 have HF1:=ħ (fun (i:Nat) W=>Znk (l.take i) W (by rw[List.length_take];omega) (fun y hy=>hb y (List.mem_of_mem_take hy)))
 have HF2:=ħ (fun (i:Nat) W=>Znk (l.drop i) W (by rw[List.length_drop];omega) (fun y hy=>hb y (List.mem_of_mem_drop hy)))
 have HV:Hid (Zbj l=(decide (Za2 Zaq l<l.length)&&(Zdb (l.take (Za2 Zaq l))&&Zdb (l.drop (Za2 Zaq l+1))))):=ħ rfl
 have HB:=ħ hb
 have B0:=ħ (RowKit.Below.refl w.heap.size w)
 clear hb
 generalize Zbj l=V at *
 generalize Zad l=t at *
 go_enter Tryz.func22,Tryz.ntmps22
 go_wp2_with fail
 go_loop [3] (fun c=>∃ i:Nat,c = .int .i64 i∧i≤l.length∧Hid (∀ j,j<i→l.getD j 0≠46)) (fun c=>(l.length-intOf c).toNat)
 case atStart=>exact⟨0,rfl,by omega,ħ (fun j hj=>absurd hj (Nat.not_lt_zero j))⟩
 case round =>
  obtain⟨i,rfl,hi,hz⟩:=hrel
  have hsz:=SZ.o
  by_cases hlt:i<l.length
  ·have hx:=HX.o i hlt
   have e2:IntKind.i64.wrap ((i:Int)+1)=((i+1:Nat):Int):=IntWalk.i64_in _ (by omega)
   have ii:(i:Int)<l.length:=by omega
   obtain⟨v,hv⟩:∃ v,l.getD i 0=v:=⟨_,rfl⟩
   rw[hv] at hx
   have HVV:=ħ hv
   clear hv
   by_cases h46:v=46
   ·have c1:((v:Int)==46)=true:=by rw[beq_iff_eq];omega
    have HR:Hid (Za2 Zaq l=i):=ħ (Z22 l i hlt hz.o (by rw[HVV.o];exact h46))
    have HV2:Hid (V=(Zdb (l.take i)&&Zdb (l.drop (i+1)))):=ħ (by rw[HV.o,HR.o,decide_eq_true hlt,Bool.true_and])
    have hu:=HU.o i (by omega)
    have hs:∀ w,(Instr.slice 9 (.string t) (some (.int .i64 ((i:Int)+1))) none none).run Tryz.prog w = .ok (.string (Zad (l.drop (i+1)))) w:=fun w=>by
     have h:=HS.o (i+1) (by omega) w
     rwa [show ((i+1:Nat):Int)=(i:Int)+1 from by omega] at h
    have F1:=ħ (HF1.o i)
    have F2:=ħ (HF2.o (i+1))
    clear h46 HR HV hz HVV
    generalize Zdb (l.take i)=b1 at *
    generalize Zdb (l.drop (i+1))=b2 at *
    generalize Zad (l.take i)=s1 at *
    generalize Zad (l.drop (i+1))=s2 at *
    go_wp2_with fail
    refine (F1.o w).mono ?_
    rintro e w1 ⟨rfl,b1'⟩
    have B1:=ħ b1'
    clear b1'
    cases b1 with
    | false =>
     go_wp2
     go_ret
     exact⟨Zaf (by rw[HV2.o];rfl),B1.o⟩
    | true =>
     go_wp2_with fail
     refine (F2.o w1).mono ?_
     rintro e w2 ⟨rfl,b2'⟩
     have B2:=ħ (B1.o.trans (b2'.mono B1.o.size))
     clear b2' hu hs hx F1 F2
     cases b2 with
     | false =>
      go_wp2
      go_ret
      exact⟨Zaf (by rw[HV2.o];rfl),B2.o⟩
     | true =>
      go_wp2
      go_ret
      exact⟨Zaf (by rw[HV2.o];rfl),B2.o⟩
   ·have c1:((v:Int)==46)=false:=by rw[beq_eq_false_iff_ne];omega
    have HZ:Hid (∀ j,j<i+1→l.getD j 0≠46):=ħ (fun j hj=>by
     rcases Nat.lt_or_ge j i with h | h
     ·exact hz.o j h
     ·obtain rfl:j=i:=by omega
      rw[HVV.o];exact h46)
    clear h46 hz
    go_wp2
    go_round
    case rel=>exact⟨i+1,by go_num,by omega,HZ⟩
    case measure=>simp only[intOf];omega
  ·have ii:¬ ((i:Int)<l.length):=by omega
   have HX:Hid (V=false):=ħ (by rw[HV.o,Z23 l (fun j hj=>hz.o j (by omega)),decide_eq_false (by omega)];rfl)
   go_wp2
   go_ret
   exact⟨Zaf HX.o.symm,B0.o⟩
theorem Zs5 (κ:Int) (l r:List Nat) (c:Int) (ao:Option Addr) (n cap:Nat) (w:World) (hl:NmL l) (hr:NmL r) :
  Calls Tryz.prog 48 #[.agg #[.int .i64 κ,.string (Zad l),.string (Zad r),.int .i64 c,.slice ao n cap]] w fun e w'=>e = .returned (.bool (Zfy κ l r c n))∧RowKit.Below w.heap.size w w':=by
 have bx:=(RowKit.Below.refl w.heap.size w).alloc (Nat.le_refl _) (.cells #[.int .i64 κ,.string (Zad l),.string (Zad r),.int .i64 c,.slice ao n cap] 25)
 have B1:=ħ bx
 have X1:Hid (Zah (w.alloc (.cells #[.int .i64 κ,.string (Zad l),.string (Zad r),.int .i64 c,.slice ao n cap] 25)) w.heap.size 25 [.int .i64 κ,.string (Zad l),.string (Zad r),.int .i64 c,.slice ao n cap]):=ħ (heap_alloc_new w _)
 have H1:=ħ (fun W=>Zly l W hl.2 hl.1)
 have H2:=ħ (fun W=>Zly r W hr.2 hr.1)
 have HV:Hid (Zfy κ l r c n=(κ==0&&(n==0&&((l==[]||Zbj l)&&((r==[]||Zbj r)&&(decide (-1099511627776≤c)&&decide (c<1099511627776))))))):=ħ rfl
 have HE:∀ m:List Nat,(Zad m).toList.isEmpty=(m==[]):=fun m=>by
  cases m with
  | nil=>exact Zf8.trans rfl
  | cons a b=>rw[Zhr _ (by simp)];rfl
 have he1:=HE l
 have he2:=HE r
 obtain⟨V,hV⟩:∃ V,Zfy κ l r c n=V:=⟨_,rfl⟩
 rw[hV] at HV ⊢
 clear bx hl hr HE hV
 generalize (l==[])=e1 at *
 generalize (r==[])=e2 at *
 generalize Zbj l=v1 at *
 generalize Zbj r=v2 at *
 generalize Zad l=y at *
 generalize Zad r=z at *
 go_enter Tryz.func48,Tryz.ntmps48
 go_upto_region 1 with (fail)
 generalize w.alloc (.cells #[.int .i64 κ,.string y,.string z,.int .i64 c,.slice ao n cap] 25)=w1 at *
 have x0:=X1.o.cell 0 _ rfl
 have x1:=X1.o.cell 1 _ rfl
 have x2:=X1.o.cell 2 _ rfl
 have x3:=X1.o.cell 3 _ rfl
 have x4:=X1.o.cell 4 _ rfl
 by_cases k0:κ=0
 ·have k0b:(κ==0)=true:=beq_iff_eq.mpr k0
  rw[k0b,Bool.true_and] at HV
  clear k0
  by_cases n0:n=0
  ·have n0b:(n==0)=true:=beq_iff_eq.mpr n0
   have n0c:((n:Int)==0)=true:=by rw[n0];rfl
   rw[n0b,Bool.true_and] at HV
   clear n0 n0b
   cases e1 with
   | true =>
    rw[Bool.true_or,Bool.true_and] at HV
    cases e2 with
    | true =>
     rw[Bool.true_or,Bool.true_and] at HV
     by_cases c1:-1099511627776≤c
     ·rw[decide_eq_true c1,Bool.true_and] at HV
      go_wp2
      go_ret
      exact⟨Zaf (by rw[HV.o]),B1.o⟩
     ·rw[decide_eq_false c1,Bool.false_and] at HV
      go_wp2
      go_ret
      exact⟨Zaf (by rw[HV.o]),B1.o⟩
    | false =>
     rw[Bool.false_or] at HV
     go_wp2_with fail
     refine (H2.o w1).mono ?_
     rintro e w2 ⟨rfl,b2⟩
     have B2:=ħ (B1.o.trans (b2.mono B1.o.size))
     have X2:=ħ (X1.o.step b2)
     clear b2 x0 x1 x2 x3 x4
     have x3:=X2.o.cell 3 _ rfl
     cases v2 with
     | false =>
      rw[Bool.false_and] at HV
      go_wp2
      go_ret
      exact⟨Zaf (by rw[HV.o]),B2.o⟩
     | true =>
      rw[Bool.true_and] at HV
      by_cases c1:-1099511627776≤c
      ·rw[decide_eq_true c1,Bool.true_and] at HV
       go_wp2
       go_ret
       exact⟨Zaf (by rw[HV.o]),B2.o⟩
      ·rw[decide_eq_false c1,Bool.false_and] at HV
       go_wp2
       go_ret
       exact⟨Zaf (by rw[HV.o]),B2.o⟩
   | false =>
    rw[Bool.false_or] at HV
    go_wp2_with fail
    refine (H1.o w1).mono ?_
    rintro e w2 ⟨rfl,b2⟩
    have B2:=ħ (B1.o.trans (b2.mono B1.o.size))
    have X2:=ħ (X1.o.step b2)
    clear b2 x0 x1 x2 x3 x4
    have x2:=X2.o.cell 2 _ rfl
    have x3:=X2.o.cell 3 _ rfl
    cases v1 with
    | false =>
     rw[Bool.false_and] at HV
     go_wp2
     go_ret
     exact⟨Zaf (by rw[HV.o]),B2.o⟩
    | true =>
     rw[Bool.true_and] at HV
     cases e2 with
     | true =>
      rw[Bool.true_or,Bool.true_and] at HV
      by_cases c1:-1099511627776≤c
      ·rw[decide_eq_true c1,Bool.true_and] at HV
       go_wp2
       go_ret
       exact⟨Zaf (by rw[HV.o]),B2.o⟩
      ·rw[decide_eq_false c1,Bool.false_and] at HV
       go_wp2
       go_ret
       exact⟨Zaf (by rw[HV.o]),B2.o⟩
     | false =>
      rw[Bool.false_or] at HV
      go_wp2_with fail
      refine (H2.o w2).mono ?_
      rintro e w3 ⟨rfl,b3⟩
      have B3:=ħ (B2.o.trans (b3.mono B2.o.size))
      have X3:=ħ (X2.o.step b3)
      clear b3 x2 x3
      have x3:=X3.o.cell 3 _ rfl
      cases v2 with
      | false =>
       rw[Bool.false_and] at HV
       go_wp2
       go_ret
       exact⟨Zaf (by rw[HV.o]),B3.o⟩
      | true =>
       rw[Bool.true_and] at HV
       by_cases c1:-1099511627776≤c
       ·rw[decide_eq_true c1,Bool.true_and] at HV
        go_wp2
        go_ret
        exact⟨Zaf (by rw[HV.o]),B3.o⟩
       ·rw[decide_eq_false c1,Bool.false_and] at HV
        go_wp2
        go_ret
        exact⟨Zaf (by rw[HV.o]),B3.o⟩
  ·have n0b:(n==0)=false:=beq_eq_false_iff_ne.mpr n0
   have n0c:((n:Int)==0)=false:=by rw[beq_eq_false_iff_ne];omega
   rw[n0b,Bool.false_and] at HV
   clear n0 n0b
   go_wp2
   go_ret
   exact⟨Zaf (by rw[HV.o]),B1.o⟩
 ·have k0b:(κ==0)=false:=beq_eq_false_iff_ne.mpr k0
  rw[k0b,Bool.false_and] at HV
  clear k0
  go_wp2
  go_ret
  exact⟨Zaf (by rw[HV.o]),B1.o⟩
end Go.Proofs.YtmkdfbelbcocpaaGreatDoor
