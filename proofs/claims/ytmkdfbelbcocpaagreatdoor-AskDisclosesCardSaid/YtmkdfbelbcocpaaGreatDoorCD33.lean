import Derived.BigQuiet
import Derived.Laws.StructEq
import Derived.Test.YtmkdfbelbcocpaaGreatDoorCD28
set_option linter.unusedVariables false
set_option linter.unusedSimpArgs false
set_option maxHeartbeats 8000000
set_option maxRecDepth 100000
namespace Go.Proofs.YtmkdfbelbcocpaaGreatDoor
open Go.RowKit Go.Sort
instance:DecidableEq Bnd:=fun a b=>decidable_of_iff (a.n=b.n∧a.v=b.v) (by cases a;cases b;simp)
theorem Zhb (b:Bnd):(Zfj b).length=2:=rfl
theorem Z64 (y1 y2:ByteArray) (z1 z2:Int) (W:World):(binOp .neq 87 (.agg #[.string y1,.int .i64 z1]) (.agg #[.string y2,.int .i64 z2])).run Tryz.prog W = .ok (.bool (!(y1.toList==y2.toList&&z1==z2))) W:=by
 have st1:Tryz.prog.stoodInHeld 87=false:=by kernel_rfl
 have h1:Tryz.prog.underlying 87=some (.struct (Tryz.prog.fieldsOf 87)):=by kernel_rfl
 rw[run_neq_struct,run_equalIn_struct W 9999 87 _ _ h1 st1]
 unfold Program.fieldsOf
 rw[Tryz.underlying87]
 simp[Op.eqFields,go_sem]
 by_cases h1:y1.toList=y2.toList<;>by_cases h2:z1=z2<;>simp[h1,h2]
theorem Z65 (xs ys:Array Value) (x y:Operand) (W:World):(eqGuard .neq 87 x y (.agg xs) (.agg ys)).run Tryz.prog W = .ok () W:=run_eqGuard_agg W .neq _ x y xs ys (by kernel_rfl)
theorem Ze9 (w:World) (ao1 ao2:Option Addr) (n1 n2 c1 c2:Nat) (l1 l2:List Bnd) (hn1:n1=l1.length) (hn2:n2=l2.length) (h1:Za7 Zfj w ao1 l1) (h2:Za7 Zfj w ao2 l2) (hb1:∀ b∈l1,NmB b.n) (hb2:∀ b∈l2,NmB b.n) (hbig1:n1≤1000000) (hbig2:n2≤1000000) :
  Calls Tryz.prog 59 #[.slice ao1 n1 c1,.slice ao2 n2 c2] w fun e w'=>e = .returned (.bool (decide (l1=l2)))∧Below w.heap.size w w':=by
 have H1:=ħ h1
 have H2:=ħ h2
 have HN1:=ħ hn1
 have HN2:=ħ hn2
 have HB1:=ħ hb1
 have HB2:=ħ hb2
 obtain⟨V,hV⟩:∃ V,decide (l1=l2)=V:=⟨_,rfl⟩
 have HV:=ħ hV
 rw[hV]
 clear h1 h2 hn1 hn2 hV hb1 hb2
 have B0:=ħ (Below.refl w.heap.size w)
 go_enter Tryz.func59,Tryz.ntmps59
 by_cases hnn:n1=n2
 ·have nb:((n1:Int) != (n2:Int))=false:=by rw[hnn];simp
  have HNN:=ħ hnn
  clear hnn
  go_wp2_with fail
  go_loopw [5] (fun cc wr=>∃ (i:Nat),cc = .int .i64 i∧i≤n1∧Hid (l1.take i=l2.take i)∧Hid (Below w.heap.size w wr)) (fun c _=>(n1-intOf c).toNat)
  case atStart=>exact⟨0,rfl,by omega,ħ rfl,B0⟩
  case round =>
   clear B0
   obtain⟨i,rfl,hi,hv,hw⟩:=hrel
   have e2:IntKind.i64.wrap ((i:Int)+1)=((i+1:Nat):Int):=IntWalk.i64_in _ (by omega)
   by_cases hlt:i<n1
   ·have ii:(i:Int)<n1:=by omega
    have i2:(i:Int)<n2:=by rw[← HNN.o];exact ii
    obtain⟨x,hx⟩:∃ x,l1[i]?=some x:=⟨_,List.getElem?_eq_getElem (by rw[← HN1.o];exact hlt)⟩
    obtain⟨y,hy⟩:∃ y,l2[i]?=some y:=⟨_,List.getElem?_eq_getElem (by rw[← HN2.o,← HNN.o];exact hlt)⟩
    obtain⟨g1,off1,hao1,-,s0⟩:=(H1.o.below hw.o).at Zhb i x hx
    obtain⟨g2,off2,hao2,-,t0⟩:=(H2.o.below hw.o).at Zhb i y hy
    have x0:=s0 0 _ rfl
    have x1:=s0 1 _ rfl
    have y0:=t0 0 _ rfl
    have y1:=t0 1 _ rfl
    rw[Nat.add_zero] at x0 y0
    have HX:=ħ hx
    have HY:=ħ hy
    have HA1:=ħ hao1
    have HA2:=ħ hao2
    subst hao1
    subst hao2
    clear s0 t0 hx hy
    go_upto_region 6 with (fail)
    have x0':=cell_regrown x0
    have x1':=cell_regrown x1
    have y0':=cell_regrown y0
    have y1':=cell_regrown y1
    clear x0 x1 y0 y1
    obtain⟨tb,htb⟩:∃ b,(!((Zad x.n).toList==(Zad y.n).toList&&x.v==y.v))=b:=⟨_,rfl⟩
    have hneq:=fun W=>Z64 (Zad x.n) (Zad y.n) x.v y.v W
    rw[htb] at hneq
    have htb2:=htb
    rw[Zd6 _ _ (HB1.o x (List.mem_of_getElem? HX.o)).1 (HB2.o y (List.mem_of_getElem? HY.o)).1] at htb2
    have hgrd:=fun W=>Z65 #[.string (Zad x.n),.int .i64 x.v] #[.string (Zad y.n),.int .i64 y.v] (.tmp 20) (.tmp 24) W
    have HTB:=ħ htb2
    clear htb htb2
    refine wp_region_quiet_below (by kernel_rfl) (by kernel_rfl) ?_
    repeat (go_big_quiet_step (fail))
    refine wpQuiet_nil ?_
    intro _ hw'
    obtain⟨⟨dq,osq⟩,hw''⟩:=hw'
    subst hw''
    have BB:=ħ (hw.o.trans ((below_regrown wr dq osq).mono hw.o.size))
    clear x0' x1' y0' y1' hw hneq hgrd
    generalize grow (redrawn wr dq) osq=wy at *
    cases tb with
    | false =>
     have HE:Hid (x=y):=ħ (by
      have h:=HTB.o
      simp only[Bool.not_eq_false',Bool.and_eq_true,beq_iff_eq] at h
      cases x;cases y
      cases h.1;cases h.2;rfl)
     have HT:Hid (l1.take (i+1)=l2.take (i+1)):=ħ (by
      rw[List.take_add_one,List.take_add_one,HX.o,HY.o,hv.o,HE.o])
     clear HTB
     go_wp2
     go_roundw
     case rel=>exact⟨i+1,by go_num,by omega,HT,BB⟩
     case measure=>simp only[intOf];omega
    | true =>
     have HF:Hid (V=false):=ħ (by
      rw[← HV.o,decide_eq_false]
      intro e
      have h:=HX.o
      rw[e,HY.o] at h
      have h2:=HTB.o
      rw[Option.some.inj h] at h2
      simp at h2)
     clear HTB
     go_wp2
     go_ret
     exact⟨Zag HF.o.symm,BB.o⟩
   ·have ii:¬ ((i:Int)<n1):=by omega
    have HT:Hid (V=true):=ħ (by
     rw[← HV.o,decide_eq_true]
     have h:=hv.o
     rw[List.take_of_length_le (by rw[← HN1.o];omega),List.take_of_length_le (by rw[← HN2.o,← HNN.o];omega)] at h
     exact h)
    go_wp2
    go_ret
    exact⟨Zag HT.o.symm,hw.o⟩
 ·have nb:((n1:Int) != (n2:Int))=true:=by rw[bne_iff_ne];omega
  have HF:Hid (V=false):=ħ (by
   rw[← HV.o,decide_eq_false]
   intro e
   exact hnn (by rw[HN1.o,HN2.o,e]))
  clear hnn
  go_wp2
  go_ret
  exact⟨Zag HF.o.symm,B0.o⟩
def nmA:List Nat:=[120,46,97]
def nmB':List Nat:=[120,46,98]
theorem Zoi (w:World) (a b:Int) :
  Calls Tryz.prog 113 #[.int .i64 a,.int .i64 b] w fun e w'=>∃ ro,e = .returned (.slice ro 2 2)∧Za7 Zfj w' ro [⟨nmA,a⟩,⟨nmB',b⟩]∧Below w.heap.size w w':=by
 have bx:=(Below.refl w.heap.size w).alloc (Nat.le_refl _) (.cells #[.string ⟨#[120,46,97]⟩,.int .i64 a,.string ⟨#[120,46,98]⟩,.int .i64 b] 87)
 have X1:Hid (Zah (w.alloc (.cells #[.string ⟨#[120,46,97]⟩,.int .i64 a,.string ⟨#[120,46,98]⟩,.int .i64 b] 87)) w.heap.size 87 [.string ⟨#[120,46,97]⟩,.int .i64 a,.string ⟨#[120,46,98]⟩,.int .i64 b]):=ħ (heap_alloc_new w _)
 have B1:=ħ bx
 clear bx
 go_enter Tryz.func113,Tryz.ntmps113
 go_wp2
 go_ret
 exact⟨_,rfl,.inr ⟨_,0,rfl,X1.o.lt,X1.o.readsR⟩,B1.o⟩
end Go.Proofs.YtmkdfbelbcocpaaGreatDoor
