import Derived.Defers
import Derived.Recover
import Derived.Test.YtmkdfbelbcocpaaGreatDoorHP11
import Derived.Test.YtmkdfbelbcocpaaGreatDoorHP0
set_option linter.unusedVariables false
set_option linter.unusedSimpArgs false
set_option maxHeartbeats 4000000
set_option maxRecDepth 100000
namespace Go.Proofs.YtmkdfbelbcocpaaGreatDoor
section
open Go.RowKit
theorem small_any (w:World) (P:Nat→Prop) (p:Prd) (vs:List Value) (h:PredC w P p vs) (hc:cntP p≤1000000) :
  Calls Tryz.prog 76 #[.agg vs.toArray] w fun e w'=>e = .returned (.bool (smallP p))∧Below w.heap.size w w':=by
 obtain⟨a,n,c,rfl,-⟩:=h.form
 have h2:=h.mono (P':=fun g=>g<w.heap.size) (fun g _ hl=>hl)
 have b1:=((Below.refl w.heap.size w).alloc (Nat.le_refl _) (.cells #[.int .i64 p.k,.string (strN p.l),.string (strN p.r),.int .i64 p.c,.slice a n c] 25)).alloc (by simp) (.cells #[.int .i64 100] 3)
 have PX:=ħ (h2.below b1)
 have QX:Hid (HasV ((w.alloc (.cells #[.int .i64 p.k,.string (strN p.l),.string (strN p.r),.int .i64 p.c,.slice a n c] 25)).alloc (.cells #[.int .i64 100] 3)) (w.heap.size+1) 3 [.int .i64 ((100:Nat):Int)]):=ħ (heap_alloc2_new w _ _)
 have BX:=ħ b1
 clear h h2 b1
 generalize p.k=q0 at *
 generalize strN p.l=q1 at *
 generalize strN p.r=q2 at *
 generalize p.c=q3 at *
 go_enter Tryz.func76,Tryz.ntmps76
 go_wp2_with fail
 generalize (w.alloc (.cells #[.int .i64 q0,.string q1,.string q2,.int .i64 q3,.slice a n c] 25)).alloc (.cells #[.int .i64 100] 3)=wx at *
 refine (sized_any 12 p wx _ _ (w.heap.size+1) 100 (by omega) (by omega) hc PX.o QX.o (fun g hg=>by omega)).mono ?_
 rintro e w2 ⟨o2,h1,h0⟩
 have B2:=ħ (BX.o.trans (o2.below (B:=w.heap.size) BX.o.size (fun g hg=>by omega)))
 by_cases hs:cntP p≤100∧depP p≤12
 ·obtain⟨rfl,-⟩:=h1 hs
  have HS:Hid (smallP p=true):=ħ (by unfold smallP;rw[decide_eq_true hs.1,decide_eq_true hs.2];rfl)
  clear h1 h0 hs o2
  go_wp2
  go_ret
  exact⟨ret_bool HS.o.symm,B2.o⟩
 ·obtain rfl:=h0 hs
  have HS:Hid (smallP p=false):=ħ (by
   unfold smallP
   rw[Bool.eq_false_iff]
   intro h
   simp only[Bool.and_eq_true,decide_eq_true_eq] at h
   exact hs h)
  clear h1 h0 hs o2
  go_wp2
  go_ret
  exact⟨ret_bool HS.o.symm,B2.o⟩
theorem assert_fail (w:World) (x y:Int):(Instr.typeAssert (.iface 100 (.agg #[.int .i64 x,.int .i64 y])) 20 100 true).run Tryz.prog w = .ok (.tuple #[.agg #[.int .i64 x,.int .i64 y],.bool true]) w:=by kernel_rfl
theorem neq_fail (w:World) (v:Value):(binOp .neq 20 (.iface 100 v) .nilIface).run Tryz.prog w = .ok (.bool true) w:=by kernel_rfl
theorem tm_lit (a b c d v:Value):#[a,b,c,d]++((Array.replicate 19 undef).setIfInBounds 3 v).setIfInBounds 0 v=#[a,b,c,d,v,undef,undef,v,undef,undef,undef,undef,undef,undef,undef,undef,undef,undef,undef,undef,undef,undef,undef]:=by
 simp[Array.replicate,List.replicate]
theorem wp_name {P:Program} {c:Code} {Q:Exit→Act→World→Prop} {a:Act} {w:World} (h:∀ Q':Exit→Act→World→Prop,Q'=Q→c.wp P Q' a w):c.wp P Q a w:=h Q rfl
theorem catch_panic (nb pb ab eb:Nat) (x y:Int) (n0:ByteArray) (v0:List Value) (a0 e0:Int) (older:List PanicEntry) (w:World) (hn:HasV w nb 9 [.string n0]) (hp:HasV w pb 25 v0) (hv0:v0.length=5) (ha:HasV w ab 3 [.int .i64 a0]) (he:HasV w eb 26 [.int .i64 e0])
  (h1:nb≠pb∧nb≠ab∧nb≠eb∧pb≠ab∧pb≠eb∧ab≠eb) :
  CallsD Tryz.prog 71 #[.pointer (some ⟨nb,0,none⟩),.pointer (some ⟨pb,0,none⟩),.pointer (some ⟨ab,0,none⟩),.pointer (some ⟨eb,0,none⟩)] (.panicking ({ v:=.iface 100 (.agg #[.int .i64 x,.int .i64 y]),recovered:=false }::older)) w fun e u' w' =>
   e = .returned (.tuple #[])∧u' = .panicking ({ v:=.iface 100 (.agg #[.int .i64 x,.int .i64 y]),recovered:=true }::older) ∧
   HasV w' nb 9 [.string ⟨#[]⟩]∧HasV w' pb 25 pred0∧HasV w' ab 3 [.int .i64 y]∧HasV w' eb 26 [.int .i64 x]∧Only w w' (fun g=>g=nb∨g=pb∨g=ab∨g=eb):=by
 refine callsD_of_wpS Tryz.func71 rfl fun c₀ cs hu=>?_
 apply wpS_seq
 apply wpS_region
 simp[wpOpsS,go_sem,recoverD,hu,Tryz.ntmps71,Exit.thenS]
 refine wpS_of_wp (wp_name ?_)
 intro QQ hQ
 have HQ:=ħ hQ
 clear hQ
 have HU:=ħ hu
 clear hu
 rw[tm_lit]
 have t1:=assert_fail
 have t2:=neq_fail
 have N0:=ħ hn
 have V0:=ħ hp
 have A0:=ħ ha
 have E0:=ħ he
 have H1:=ħ h1
 clear hn hp ha he h1
 have BL:Hid (nb<w.heap.size∧pb<w.heap.size∧ab<w.heap.size∧eb<w.heap.size):=ħ ⟨N0.o.lt,V0.o.lt,A0.o.lt,E0.o.lt⟩
 go_wp2_with fail
 have bx:=(Below.refl w.heap.size w).alloc (Nat.le_refl _) (.cells #[.int .i64 x,.int .i64 y] 100)
 have X1:Hid (HasV (w.alloc (.cells #[.int .i64 x,.int .i64 y] 100)) w.heap.size 100 [.int .i64 x,.int .i64 y]):=ħ (heap_alloc_new w _)
 have N1:=ħ (N0.o.step bx)
 have V1:=ħ (V0.o.step bx)
 have A1:=ħ (A0.o.step bx)
 have E1:=ħ (E0.o.step bx)
 have O1:=ħ (Only.of_below (p:=fun g=>g=nb∨g=pb∨g=ab∨g=eb) bx)
 clear bx N0 V0 A0 E0 t1 t2
 generalize w.alloc (.cells #[.int .i64 x,.int .i64 y] 100)=w1 at *
 have x0:=X1.o.cell 0 _ rfl
 have x1:=X1.o.cell 1 _ rfl
 refine wp_region_pick [0,1,2,3,4] [5,6,7,8] (fun w'=>w'.cell? ⟨w.heap.size,0,none⟩=some (.int .i64 x)∧w'.cell? ⟨w.heap.size,1,none⟩=some (.int .i64 y)) (by kernel_rfl) (by kernel_rfl) (by kernel_rfl) (fun c a d v w' hh=>by rw[HQ.o] at hh ⊢;cases d<;>exact hh) ⟨x0,x1⟩ ?_
 simp only[pickI,List.filterMap_cons,List.filterMap_nil,List.getElem?_cons_zero,List.getElem?_cons_succ,Option.map_some,List.map_cons,List.map_nil]
 apply Exists.intro
 refine⟨?hh,?ht⟩
 case hh =>
  intro w' hw'
  obtain⟨d0,d1⟩:=hw'
  repeat still_step
  exact wpStill_nil rfl
 case ht =>
  have BD:Below w1.heap.size w1 w1.drew:=(Below.refl w1.heap.size w1).drew
  have X2:=ħ (X1.o.step BD)
  have N2:=ħ (N1.o.step BD)
  have V2:=ħ (V1.o.step BD)
  have A2:=ħ (A1.o.step BD)
  have E2:=ħ (E1.o.step BD)
  have O2:=ħ (O1.o.step BD)
  clear BD X1 N1 V1 A1 E1 O1
  generalize w1.drew=w2 at *
  refine wpTailT_cons ?_
  have m:=N2.o.cell 0 _ rfl
  have f:=N2.o.warm 0
  go_wp2_with fail
  clear m f
  have U3:=ħ (upd_setCell w2 ⟨nb,0,none⟩ (.string ⟨#[]⟩))
  have N3:Hid (HasV (w2.setCell ⟨nb,0,none⟩ (.string ⟨#[]⟩)) nb 9 [.string ⟨#[]⟩]):=ħ (N2.o.set 0 _)
  have V3:=ħ (V2.o.upd U3.o (fun e=>H1.o.1 e.symm))
  have A3:=ħ (A2.o.upd U3.o (fun e=>H1.o.2.1 e.symm))
  have E3:=ħ (E2.o.upd U3.o (fun e=>H1.o.2.2.1 e.symm))
  have X3:=ħ (X2.o.upd U3.o (by have:=BL.o;show w.heap.size≠nb;omega))
  have O3:=ħ (O2.o.setCell (a:=⟨nb,0,none⟩) (.string ⟨#[]⟩) (.inl rfl))
  clear U3 N2 V2 A2 E2 X2 O2
  generalize w2.setCell ⟨nb,0,none⟩ (.string ⟨#[]⟩)=w3 at *
  refine postOf_normal ⟨⟨X3.o.cell 0 _ rfl,X3.o.cell 1 _ rfl⟩,?_⟩
  refine wpTailT_cons ?_
  go_wp2_with (refine wpList_store_abs rfl 25 (.tmp 1) (.tmp 18) rfl pb pred0.toArray ?s1 ?s2 25 _ V3.o (inf_pred _ rfl) ?s3 (by simp[pred0,Value.oneCell']) ?_;(case s1=>rfl);(case s2=>rfl);(case s3=>rw[List.size_toArray,hv0];rfl);intro w4 s4 u4;have V4:Hid (HasV w4 pb 25 pred0):=ħ s4;have U4:=ħ u4;clear s4 u4)
  have N4:=ħ (N3.o.upd U4.o H1.o.1)
  have A4:=ħ (A3.o.upd U4.o (fun e=>H1.o.2.2.2.1 e.symm))
  have E4:=ħ (E3.o.upd U4.o (fun e=>H1.o.2.2.2.2.1 e.symm))
  have X4:=ħ (X3.o.upd U4.o (by have:=BL.o;omega))
  have O4:=ħ (O3.o.trans (U4.o.only (.inr (.inl rfl))))
  clear N3 V3 A3 E3 X3 O3 U4
  refine postOf_normal ⟨⟨X4.o.cell 0 _ rfl,X4.o.cell 1 _ rfl⟩,?_⟩
  refine wpTailT_cons ?_
  have m:=A4.o.cell 0 _ rfl
  have f:=A4.o.warm 0
  go_wp2_with fail
  clear m f
  have U5:=ħ (upd_setCell w4 ⟨ab,0,none⟩ (.int .i64 y))
  have A5:Hid (HasV (w4.setCell ⟨ab,0,none⟩ (.int .i64 y)) ab 3 [.int .i64 y]):=ħ (A4.o.set 0 _)
  have N5:=ħ (N4.o.upd U5.o H1.o.2.1)
  have V5:=ħ (V4.o.upd U5.o H1.o.2.2.2.1)
  have E5:=ħ (E4.o.upd U5.o (fun e=>H1.o.2.2.2.2.2 e.symm))
  have X5:=ħ (X4.o.upd U5.o (by have:=BL.o;show w.heap.size≠ab;omega))
  have O5:=ħ (O4.o.setCell (a:=⟨ab,0,none⟩) (.int .i64 y) (.inr (.inr (.inl rfl))))
  clear U5 N4 V4 A4 E4 X4 O4
  generalize w4.setCell ⟨ab,0,none⟩ (.int .i64 y)=w5 at *
  refine postOf_normal ⟨⟨X5.o.cell 0 _ rfl,X5.o.cell 1 _ rfl⟩,?_⟩
  refine wpTailT_one ?_
  have m:=E5.o.cell 0 _ rfl
  have f:=E5.o.warm 0
  go_wp2_with fail
  clear m f
  have U6:=ħ (upd_setCell w5 ⟨eb,0,none⟩ (.int .i64 x))
  have E6:Hid (HasV (w5.setCell ⟨eb,0,none⟩ (.int .i64 x)) eb 26 [.int .i64 x]):=ħ (E5.o.set 0 _)
  have N6:=ħ (N5.o.upd U6.o H1.o.2.2.1)
  have V6:=ħ (V5.o.upd U6.o H1.o.2.2.2.2.1)
  have A6:=ħ (A5.o.upd U6.o H1.o.2.2.2.2.2)
  have O6:=ħ (O5.o.setCell (a:=⟨eb,0,none⟩) (.int .i64 x) (.inr (.inr (.inr rfl))))
  rw[HQ.o]
  exact⟨rfl,_,rfl,_,results_none rfl _ _ _,rfl,rfl,N6.o,V6.o,A6.o,E6.o,O6.o⟩
theorem catch_idle (a b c d:Value) (w:World) :
  CallsD Tryz.prog 71 #[a,b,c,d] .returning w fun e u' w'=>e = .returned (.tuple #[])∧u' = .returning∧w'=w:=by
 refine callsD_of_wpS Tryz.func71 rfl fun c₀ cs hu=>?_
 apply wpS_seq
 apply wpS_region
 simp[wpOpsS,go_sem,recoverD,hu,Tryz.ntmps71,Exit.thenS]
 rw[tm_lit]
 apply wpS_seq
 apply wpS_region
 simp[wpOpsS,go_sem,Exit.thenS]
 refine wpS_cond (t:=false) (by simp[Act.eval,Array.replicate]) ?_
 simp only[Bool.false_eq_true,if_false]
 refine wpS_of_wp (wp_skip ?_)
 cases c₀
 simp_all [bodyPostS,results,Tryz.results71]
end
section
open Go.RowKit
structure Res (w:World) (B:Nat) (n:ByteArray) (pv:List Value) (y x:Int):Prop where
 nm:HasV w B 9 [.string n]
 pr:HasV w (B+1) 25 pv
 att:HasV w (B+2) 3 [.int .i64 y]
 err:HasV w (B+3) 26 [.int .i64 x]
theorem Res.below {w w':World} {B C:Nat} {n:ByteArray} {pv:List Value} {y x:Int} (h:Res w B n pv y x) (hb:Below C w w') (hC:B+4≤C):Res w' B n pv y x :=
 ⟨h.nm.below hb (by omega),h.pr.below hb (by omega),h.att.below hb (by omega),h.err.below hb (by omega)⟩
theorem Res.step {w w':World} {B:Nat} {n:ByteArray} {pv:List Value} {y x:Int} (h:Res w B n pv y x) (hb:Below w.heap.size w w'):Res w' B n pv y x :=
 ⟨h.nm.step hb,h.pr.step hb,h.att.step hb,h.err.step hb⟩
theorem Res.only {w w':World} {B:Nat} {p:Nat→Prop} {n:ByteArray} {pv:List Value} {y x:Int} (h:Res w B n pv y x) (hb:Only w w' p) (hp:∀ g,p g→B+4≤g):Res w' B n pv y x :=
 ⟨h.nm.only hb (fun e=>by have:=hp _ e;omega),h.pr.only hb (fun e=>by have:=hp _ e;omega),h.att.only hb (fun e=>by have:=hp _ e;omega),h.err.only hb (fun e=>by have:=hp _ e;omega)⟩
theorem load_str (w:World) (g:Nat) (n:ByteArray) (h:HasV w g 9 [.string n]):(loadVar 9 ⟨g,0,none⟩).run Tryz.prog w = .ok (.string n) w:=by
 have hc:=h.cell 0 _ rfl
 simp[loadVar,go_sem,hc]
theorem load_int (w:World) (g:Nat) (n:Int) (h:HasV w g 3 [.int .i64 n]):(loadVar 3 ⟨g,0,none⟩).run Tryz.prog w = .ok (.int .i64 n) w:=by
 have hc:=h.cell 0 _ rfl
 simp[loadVar,go_sem,hc]
theorem load_err (w:World) (g:Nat) (n:Int) (h:HasV w g 26 [.int .i64 n]):(loadVar 26 ⟨g,0,none⟩).run Tryz.prog w = .ok (.int .i64 n) w:=by
 have hc:=h.cell 0 _ rfl
 simp[loadVar,go_sem,hc]
theorem results_cell4 {P:Program} {fn:Func} {p q r s:Tmp} {t1 t2 t3 t4:TypeId} (h:fn.results=#[.cell p t1,.cell q t2,.cell r t3,.cell s t4]) (tmps:Array Value) (w:World) (a b c d:Addr) (v1 v2 v3 v4:Value)
  (hp:tmps.getD p undef = .pointer (some a)) (hq:tmps.getD q undef = .pointer (some b)) (hr:tmps.getD r undef = .pointer (some c)) (hs:tmps.getD s undef = .pointer (some d))
  (h1:(loadVar t1 a).run P w = .ok v1 w) (h2:(loadVar t2 b).run P w = .ok v2 w) (h3:(loadVar t3 c).run P w = .ok v3 w) (h4:(loadVar t4 d).run P w = .ok v4 w) :
  (results fn tmps).run P w = .ok (.tuple #[v1,v2,v3,v4]) w:=by
 simp only[Array.getD_eq_getD_getElem?] at hp hq hr hs
 simp[results,h,hp,hq,hr,hs,asAddr,h1,h2,h3,h4]
theorem results_parse (tmps:Array Value) (w:World) (B:Nat) (n:ByteArray) (pv:List Value) (y x:Int) (h:Res w B n pv y x) (hl:pv.length=5)
  (hp:tmps.getD 2 undef = .pointer (some ⟨B,0,none⟩)) (hq:tmps.getD 3 undef = .pointer (some ⟨B+1,0,none⟩)) (hr:tmps.getD 4 undef = .pointer (some ⟨B+2,0,none⟩)) (hs:tmps.getD 5 undef = .pointer (some ⟨B+3,0,none⟩)) :
  (results Tryz.f17 tmps).run Tryz.prog w = .ok (.tuple #[.string n,.agg pv.toArray,.int .i64 y,.int .i64 x]) w :=
 results_cell4 (by kernel_rfl) tmps w _ _ _ _ _ _ _ _ hp hq hr hs (load_str _ _ _ h.nm) (run_loadVar_row w (B+1) _ _ _ (0,0) _ h.pr Tryz.underlying25 rfl (inf_pred _ hl)) (load_int _ _ _ h.att) (load_err _ _ _ h.err)
theorem door_panic {R:Ending→World→Prop} (a:Act) (w:World) (B:Nat) (n:ByteArray) (pv:List Value) (y0 x0 x y:Int) (h:Res w B n pv y0 x0) (hl:pv.length=5)
  (hp:a.tmps.getD 2 undef = .pointer (some ⟨B,0,none⟩)) (hq:a.tmps.getD 3 undef = .pointer (some ⟨B+1,0,none⟩)) (hr:a.tmps.getD 4 undef = .pointer (some ⟨B+2,0,none⟩)) (hs:a.tmps.getD 5 undef = .pointer (some ⟨B+3,0,none⟩))
  (hd:a.defers=[{ target:=.fn (.func 71) #[.pointer (some ⟨B,0,none⟩),.pointer (some ⟨B+1,0,none⟩),.pointer (some ⟨B+2,0,none⟩),.pointer (some ⟨B+3,0,none⟩)],args:=#[] }])
  (hR:∀ w',Only w w' (fun g=>B≤g)→R (.returned (.tuple #[.string ⟨#[]⟩,.agg pred0.toArray,.int .i64 y,.int .i64 x])) w') :
  bodyPostD Tryz.prog Tryz.f17 R (.panic [{ v:=.iface 100 (.agg #[.int .i64 x,.int .i64 y]),recovered:=false }]) a w:=by
 show Leaves _ _ a.tmps R a.defers _ w
 rw[hd]
 refine leaves_cons (f:=71) (args:=#[.pointer (some ⟨B,0,none⟩),.pointer (some ⟨B+1,0,none⟩),.pointer (some ⟨B+2,0,none⟩),.pointer (some ⟨B+3,0,none⟩)]) (by simp) (by simp[go_sem]) ?_
 refine (catch_panic B (B+1) (B+2) (B+3) x y n pv y0 x0 [] w h.nm h.pr hl h.att h.err (by omega)).mono ?_
 rintro e u' w' ⟨rfl,rfl,h1,h2,h3,h4,ho⟩
 show Leaves _ _ a.tmps R [] _ w'
 exact⟨_,results_parse a.tmps w' B ⟨#[]⟩ pred0 y x ⟨h1,h2,h3,h4⟩ rfl hp hq hr hs,hR w' (ho.mono (fun g _ hg=>by omega))⟩
theorem door_ret {R:Ending→World→Prop} (a:Act) (w:World) (B:Nat) (n:ByteArray) (pv:List Value) (x y:Int) (h:Res w B n pv y x) (hl:pv.length=5)
  (hp:a.tmps.getD 2 undef = .pointer (some ⟨B,0,none⟩)) (hq:a.tmps.getD 3 undef = .pointer (some ⟨B+1,0,none⟩)) (hr:a.tmps.getD 4 undef = .pointer (some ⟨B+2,0,none⟩)) (hs:a.tmps.getD 5 undef = .pointer (some ⟨B+3,0,none⟩))
  (hd:a.defers=[{ target:=.fn (.func 71) #[.pointer (some ⟨B,0,none⟩),.pointer (some ⟨B+1,0,none⟩),.pointer (some ⟨B+2,0,none⟩),.pointer (some ⟨B+3,0,none⟩)],args:=#[] }])
  (hR:R (.returned (.tuple #[.string n,.agg pv.toArray,.int .i64 y,.int .i64 x])) w) :
  bodyPostD Tryz.prog Tryz.f17 R .ret a w:=by
 show Leaves _ _ a.tmps R a.defers _ w
 rw[hd]
 refine leaves_cons (f:=71) (args:=#[.pointer (some ⟨B,0,none⟩),.pointer (some ⟨B+1,0,none⟩),.pointer (some ⟨B+2,0,none⟩),.pointer (some ⟨B+3,0,none⟩)]) (by simp) (by simp[go_sem]) ?_
 refine (catch_idle _ _ _ _ w).mono ?_
 rintro e u' w' ⟨rfl,rfl,rfl⟩
 show Leaves _ _ a.tmps R [] _ w'
 exact⟨_,results_parse a.tmps w' B n pv y x h hl hp hq hr hs,hR⟩
theorem door_plain {R:Ending→World→Prop} (a:Act) (w:World) (B:Nat) (n:ByteArray) (pv:List Value) (x y:Int) (h:Res w B n pv y x) (hl:pv.length=5)
  (hp:a.tmps.getD 2 undef = .pointer (some ⟨B,0,none⟩)) (hq:a.tmps.getD 3 undef = .pointer (some ⟨B+1,0,none⟩)) (hr:a.tmps.getD 4 undef = .pointer (some ⟨B+2,0,none⟩)) (hs:a.tmps.getD 5 undef = .pointer (some ⟨B+3,0,none⟩))
  (hd:a.defers=[])
  (hR:R (.returned (.tuple #[.string n,.agg pv.toArray,.int .i64 y,.int .i64 x])) w) :
  bodyPostD Tryz.prog Tryz.f17 R .ret a w:=by
 show Leaves _ _ a.tmps R a.defers _ w
 rw[hd]
 exact⟨_,results_parse a.tmps w B n pv y x h hl hp hq hr hs,hR⟩
end
section
open Go.RowKit
def ParseR (w:World) (l:List Nat) (e:Ending) (w':World):Prop:=∃ v,e = .returned (.tuple #[.string (strN (parseF l).1),v,.int .i64 ((parseF l).2.2.1:Nat),.int .i64 (parseF l).2.2.2])∧PredV w.heap.size w' (parseF l).2.1 v∧Below w.heap.size w w'
theorem Res.setAt {w:World} {B:Nat} {n:ByteArray} {pv:List Value} {y x:Int} (h:Res w B n pv y x) (z:Int):Res (w.setCell ⟨B+2,0,none⟩ (.int .i64 z)) B n pv z x :=
 ⟨h.nm.upd (upd_setCell _ _ _) (by show B≠B+2;omega),h.pr.upd (upd_setCell _ _ _) (by show B+1≠B+2;omega),h.att.set 0 _,h.err.upd (upd_setCell _ _ _) (by show B+3≠B+2;omega)⟩
theorem Res.setErr {w:World} {B:Nat} {n:ByteArray} {pv:List Value} {y x:Int} (h:Res w B n pv y x) (z:Int):Res (w.setCell ⟨B+3,0,none⟩ (.int .i64 z)) B n pv y z :=
 ⟨h.nm.upd (upd_setCell _ _ _) (by show B≠B+3;omega),h.pr.upd (upd_setCell _ _ _) (by show B+1≠B+3;omega),h.att.upd (upd_setCell _ _ _) (by show B+2≠B+3;omega),h.err.set 0 _⟩
theorem Res.setNm {w:World} {B:Nat} {n:ByteArray} {pv:List Value} {y x:Int} (h:Res w B n pv y x) (z:ByteArray):Res (w.setCell ⟨B,0,none⟩ (.string z)) B z pv y x :=
 ⟨h.nm.set 0 _,h.pr.upd (upd_setCell _ _ _) (by show B+1≠B;omega),h.att.upd (upd_setCell _ _ _) (by show B+2≠B;omega),h.err.upd (upd_setCell _ _ _) (by show B+3≠B;omega)⟩
theorem Res.setPr {w w':World} {B:Nat} {n:ByteArray} {pv qv:List Value} {y x:Int} (h:Res w B n pv y x) (hu:Upd w w' (B+1)) (hq:HasV w' (B+1) 25 qv):Res w' B n qv y x :=
 ⟨h.nm.upd hu (by omega),hq,h.att.upd hu (by omega),h.err.upd hu (by omega)⟩
theorem HasV.newAt (w:World) (t:TypeId) (cs:List Value) (g:Nat) (hg:g=w.heap.size):HasV (w.alloc (.cells cs.toArray t)) g t cs:=by subst hg;exact HasV.new w t cs
theorem Res.new (w:World):Res ((((w.alloc (.cells #[.string ⟨#[]⟩] 9)).alloc (.cells #[.int .i64 0,.string ⟨#[]⟩,.string ⟨#[]⟩,.int .i64 0,.slice none 0 0] 25)).alloc (.cells #[.int .i64 0] 3)).alloc (.cells #[.int .i64 0] 26)) w.heap.size ⟨#[]⟩ pred0 0 0:=by
 have n1:=HasV.newAt w 9 [.string ⟨#[]⟩] w.heap.size rfl
 generalize hw:w.alloc _=w1 at n1 ⊢
 have s1:w1.heap.size=w.heap.size+1:=by rw[← hw];simp
 have b2:=(Below.refl _ w1).alloc (Nat.le_refl _) (.cells #[.int .i64 0,.string ⟨#[]⟩,.string ⟨#[]⟩,.int .i64 0,.slice none 0 0] 25)
 have n2:=HasV.newAt w1 25 pred0 (w.heap.size+1) s1.symm
 have n1:=n1.step b2
 unfold pred0 at n2
 generalize hw2:w1.alloc _=w2 at n1 n2 ⊢
 have s2:w2.heap.size=w.heap.size+2:=by rw[← hw2];simp[s1]
 have b3:=(Below.refl _ w2).alloc (Nat.le_refl _) (.cells #[.int .i64 0] 3)
 have n3:=HasV.newAt w2 3 [.int .i64 0] (w.heap.size+2) s2.symm
 have n1:=n1.step b3
 have n2:=n2.step b3
 generalize hw3:w2.alloc _=w3 at n1 n2 n3 ⊢
 have s3:w3.heap.size=w.heap.size+3:=by rw[← hw3];simp[s2]
 have b4:=(Below.refl _ w3).alloc (Nat.le_refl _) (.cells #[.int .i64 0] 26)
 exact⟨n1.step b4,n2.step b4,n3.step b4,HasV.newAt w3 26 [.int .i64 0] (w.heap.size+3) s3.symm⟩
theorem Res.setP {w:World} {B:Nat} {n:ByteArray} {pv:List Value} {y x:Int} (h:Res w B n pv y x) (i:Nat) (v:Value):Res (w.setCell ⟨B+1,i,none⟩ v) B n (pv.set i v) y x :=
 ⟨h.nm.upd (upd_setCell _ _ _) (by show B≠B+1;omega),h.pr.set i v,h.att.upd (upd_setCell _ _ _) (by show B+2≠B+1;omega),h.err.upd (upd_setCell _ _ _) (by show B+3≠B+1;omega)⟩
theorem Res.drew {w:World} {B:Nat} {n:ByteArray} {pv:List Value} {y x:Int} (h:Res w B n pv y x):Res w.drew B n pv y x:=⟨h.nm,h.pr,h.att,h.err⟩
theorem _root_.Go.RowKit.Below.cellAt {B:Nat} {a w:World} (h:Below B a w) (b i:Nat) (hp:B≤b) (u:Value):Below B a (w.setCell ⟨b,i,none⟩ u):=h.setCell (p:=⟨b,i,none⟩) hp u
theorem PredC.cellAt {P:Nat→Prop} {w:World} {p:Prd} {vs:List Value} (h:PredC w P p vs) (b i:Nat) (hb:¬ P b) (v:Value):PredC (w.setCell ⟨b,i,none⟩ v) P p vs :=
 h.upd (upd_setCell _ _ _) hb
theorem PredC.drew {P:Nat→Prop} {w:World} {p:Prd} {vs:List Value} (h:PredC w P p vs):PredC w.drew P p vs:=PredC.keep (w:=w) (w':=w.drew) (fun _ _ _=>rfl) (Nat.le_refl _) (fun _ h _=>h) p vs h
theorem parW_updO {w w':World} {R cap sz i b:Nat} {ao:Option Addr} {ts:List Tok} (h:ParW w R ao cap ts sz i) (hu:Upd w w' b) (hb:b≠R) (ha:blk ao≠some b):ParW w' R ao cap ts sz i:=by
 refine⟨?_,?_⟩
 ·unfold HasP;rw[hu.block R hb.symm];exact h.blk
 ·rcases h.toks with h1 | ⟨g,off,rfl,h2,h3,h4⟩
  ·exact .inl h1
  ·exact .inr ⟨g,off,rfl,h2,by rw[hu.size];exact h3,h4.of_block (hu.block g (fun e=>ha (by rw[← e];rfl)))⟩
theorem Tab.upd {w w':World} {B b:Nat} (h:Tab w B) (hu:Upd w w' b) (hb:B≤b):Tab w' B:=h.keep (fun k hk=>hu.block k (by omega)) (by rw[hu.size];exact Nat.le_refl _)
theorem ParW.new {w:World} {B cap sz:Nat} {ao:Option Addr} {ts:List Tok} (h:OwnK w B 4 ts.length cap (ts.flatMap tokC) ao) :
  ParW (w.alloc (.cells #[.slice ao ts.length cap,.int .i64 0,.int .i64 (sz:Int)] 104)) w.heap.size ao cap ts sz 0:=by
 refine⟨heap_alloc_new w _,?_⟩
 have hb:=(Below.refl w.heap.size w).alloc (Nat.le_refl _) (.cells #[.slice ao ts.length cap,.int .i64 0,.int .i64 (sz:Int)] 104)
 cases h with
 | nil h hn hc=>exact .inl (List.length_eq_zero_iff.1 hn)
 | «at» g off h hn hc hl=>exact .inr ⟨g,off,rfl,by have:=h.lt;omega,Nat.lt_of_lt_of_le h.lt hb.size,h.cells.of_block (hb.block g h.lt)⟩
theorem take_any (w:World) (R:Nat) (ao:Option Addr) (cap:Nat) (ts:List Tok) (sz i:Nat) (s:List Nat) (h:ParW w R ao cap ts sz i) (hi:i≤ts.length) (hn:ts.length≤1000000) (hts:∀ t∈ts,TokOk t) (hs:∀ y∈s,y<256) :
  Calls Tryz.prog 72 #[.pointer (some ⟨R,0,none⟩),.string (strN s)] w fun e w'=>Only w w' (· = R)∧match takeP ts sz s i with
   | .ok j=>e = .returned (.tuple #[])∧ParW w' R ao cap ts sz j∧j≤ts.length
   | .error x=>e=failE x:=by
 unfold takeP
 by_cases hy:isP ts s i=true
 ·have hlt:=isP_lt hy
  refine (take_ok w R ao cap ts sz i s h hn hts hs hy).mono ?_
  rintro e w' ⟨h1,h2,h3⟩
  rw[if_pos hy]
  exact⟨h3,h1,h2,hlt⟩
 ·refine (take_no w R ao cap ts sz i s h hi hn hts hs (by simpa using hy)).mono ?_
  rintro e w' ⟨h1,h3⟩
  rw[if_neg hy]
  exact⟨h3,h1⟩
theorem named_any (w:World) (R:Nat) (ao:Option Addr) (cap:Nat) (ts:List Tok) (sz i B:Nat) (hT:Tab w B) (h:ParW w R ao cap ts sz i) (hi:i≤ts.length) (hn:ts.length≤1000000) (hts:∀ t∈ts,TokOk t) :
  Calls Tryz.prog 73 #[.pointer (some ⟨R,0,none⟩)] w fun e w'=>Only w w' (· = R)∧match nameP ts sz i with
   | .ok r=>e = .returned (.string (strN r.1))∧ParW w' R ao cap ts sz r.2∧r.2≤ts.length
   | .error x=>e=failE x:=by
 unfold nameP
 by_cases hy:isNamP ts i=true
 ·have hlt:=isNamP_lt hy
  refine (name_ok w R ao cap ts sz i B hT h hn hts hy).mono ?_
  rintro e w' ⟨h1,h2,h3⟩
  rw[if_pos hy]
  exact⟨h3,h1,h2,hlt⟩
 ·refine (name_no w R ao cap ts sz i B hT h hi hn hts (by simpa using hy)).mono ?_
  rintro e w' ⟨h1,h3⟩
  rw[if_neg hy]
  exact⟨h3,h1⟩
theorem predV0 (B:Nat) (w:World):PredV B w prd0 (.agg pred0.toArray):=⟨pred0,rfl,by unfold prd0 PredC;exact⟨none,0,rfl,.inl rfl⟩⟩
theorem parse_err {l:List Nat} {ts:List Tok} {a:Nat} {x:Int} {e:Int×Nat} (h:scanF l=(ts,a,x)) (hx:x=0) (hq:questP ts l.length = .error e):parseF l=([],prd0,e.2,e.1):=by
 unfold parseF;rw[h];simp only[hx,if_true,hq]
theorem parse_ok {l:List Nat} {ts:List Tok} {a:Nat} {x:Int} {r:List Nat×Prd} (h:scanF l=(ts,a,x)) (hx:x=0) (hq:questP ts l.length = .ok r):parseF l=(r.1,r.2,0,0):=by
 unfold parseF;rw[h];simp only[hx,if_true,hq]
theorem parse_scan {l:List Nat} {ts:List Tok} {a:Nat} {x:Int} (h:scanF l=(ts,a,x)) (hx:¬ x=0):parseF l=([],prd0,a,x):=by
 unfold parseF;rw[h];simp only[hx,if_false]
theorem parR_fail {w w':World} {l:List Nat} {e:Int×Nat} (hp:parseF l=([],prd0,e.2,e.1)) (hb:Below w.heap.size w w'):ParseR w l (.returned (.tuple #[.string ⟨#[]⟩,.agg pred0.toArray,.int .i64 (e.2:Int),.int .i64 e.1])) w':=by
 unfold ParseR
 rw[hp]
 exact⟨_,rfl,predV0 _ _,hb⟩
theorem parR_good {w w':World} {l nm:List Nat} {p:Prd} {v:Value} (hp:parseF l=(nm,p,0,0)) (hb:Below w.heap.size w w') (hv:PredV w.heap.size w' p v):ParseR w l (.returned (.tuple #[.string (strN nm),v,.int .i64 0,.int .i64 0])) w':=by
 unfold ParseR
 rw[hp]
 exact⟨_,rfl,hv,hb⟩
theorem parse_any (l:List Nat) (w:World) (B:Nat) (hT:Tab w B) (hl:l.length≤1000000) (hb:∀ y∈l,y<256) :
  Calls Tryz.prog 17 #[.string (strN l)] w fun e w'=>ParseR w l e w':=by
 have hmf:∀ (fn:Fn) (first cap:Array Value) (w:World),(Instr.makeFunc fn first cap).run Tryz.prog w = .ok (.func fn first cap) w:=fun _ _ _ _=>rfl
 have SZ:=ħ (strN_size l)
 have HS:=ħ (fun (w:World) (hT:Tab w B)=>scan_any l w B hT hl hb)
 have HTS:=ħ (scanF_ok l hb)
 have HN:=ħ (scanF_count l)
 have HT:=ħ hT
 obtain⟨ts,a1,x,hsc⟩:∃ ts a x,scanF l=(ts,a,x):=⟨_,_,_,rfl⟩
 rw[hsc] at HTS HN
 have HSC:=ħ hsc
 clear hT hb hsc
 have b0:=((((Below.refl w.heap.size w).alloc (Nat.le_refl _) (.cells #[.string ⟨#[]⟩] 9)).alloc (by simp) (.cells #[.int .i64 0,.string ⟨#[]⟩,.string ⟨#[]⟩,.int .i64 0,.slice none 0 0] 25)).alloc (by simp;omega) (.cells #[.int .i64 0] 3)).alloc (by simp;omega) (.cells #[.int .i64 0] 26)
 have R0:Hid (Res ((((w.alloc (.cells #[.string ⟨#[]⟩] 9)).alloc (.cells #[.int .i64 0,.string ⟨#[]⟩,.string ⟨#[]⟩,.int .i64 0,.slice none 0 0] 25)).alloc (.cells #[.int .i64 0] 3)).alloc (.cells #[.int .i64 0] 26)) w.heap.size ⟨#[]⟩ pred0 0 0):=ħ (Res.new w)
 have SZ0:Hid (((((w.alloc (.cells #[.string ⟨#[]⟩] 9)).alloc (.cells #[.int .i64 0,.string ⟨#[]⟩,.string ⟨#[]⟩,.int .i64 0,.slice none 0 0] 25)).alloc (.cells #[.int .i64 0] 3)).alloc (.cells #[.int .i64 0] 26)).heap.size=w.heap.size+4):=ħ (by simp)
 have B0:=ħ b0
 clear b0
 have SZ':=SZ.o
 generalize strN l=q at *
 go_enter_defers Tryz.func17,Tryz.ntmps17
 go_upto_region 1 with (fail)
 generalize ((((w.alloc (.cells #[.string ⟨#[]⟩] 9)).alloc (.cells #[.int .i64 0,.string ⟨#[]⟩,.string ⟨#[]⟩,.int .i64 0,.slice none 0 0] 25)).alloc (.cells #[.int .i64 0] 3)).alloc (.cells #[.int .i64 0] 26))=w0 at *
 go_wp2_with fail
 refine (HS.o w0 (HT.o.step B0.o)).mono ?_
 rintro e w1 hsw
 unfold ScanW at hsw
 rw[HSC.o] at hsw
 obtain⟨ao,cap,rfl,ho,b1⟩:=hsw
 have OWN:=ħ ho
 have R1:=ħ (R0.o.step b1)
 have B1:=ħ (B0.o.trans (b1.mono (by rw[SZ0.o];omega)))
 have T1:=ħ ((HT.o.step B0.o).step b1)
 have SZ1:Hid (w.heap.size+4≤w1.heap.size):=ħ (by have:=b1.size;rw[SZ0.o] at this;exact this)
 clear ho b1 HS
 have f0:=R1.o.att.warm 0
 have f1:=R1.o.err.warm 0
 have m0:=R1.o.att.cell 0 _ rfl
 have m1:=R1.o.err.cell 0 _ rfl
 go_upto_region 2 with (fail)
 have R2:=ħ ((R1.o.setAt a1).setErr x)
 have B2:=ħ ((B1.o.setCell (p:=⟨w.heap.size+2,0,none⟩) (by show _≤w.heap.size+2;omega) (.int .i64 (a1:Int))).setCell (p:=⟨w.heap.size+3,0,none⟩) (by show _≤w.heap.size+3;omega) (.int .i64 x))
 have b12:=((Below.refl (w.heap.size) w1).setCell (p:=⟨w.heap.size+2,0,none⟩) (by show _≤w.heap.size+2;omega) (.int .i64 (a1:Int))).setCell (p:=⟨w.heap.size+3,0,none⟩) (by show _≤w.heap.size+3;omega) (.int .i64 x)
 have SZ2:Hid (w.heap.size+4≤((w1.setCell ⟨w.heap.size+2,0,none⟩ (.int .i64 (a1:Int))).setCell ⟨w.heap.size+3,0,none⟩ (.int .i64 x)).heap.size):=ħ (by rw[World.size_setCell,World.size_setCell];exact SZ1.o)
 have AO:Hid (∀ g,blk ao=some g→w.heap.size+4≤g):=ħ (fun g e=>by have:=(OWN.o.blk_lt e).1;rw[SZ0.o] at this;exact this)
 have O2:=ħ ((OWN.o.setCell (p:=⟨w.heap.size+2,0,none⟩) (.int .i64 (a1:Int)) (fun e=>by have:=AO.o _ e;have h:w.heap.size+4≤w.heap.size+2:=this;omega)).setCell (p:=⟨w.heap.size+3,0,none⟩) (.int .i64 x) (fun e=>by have:=AO.o _ e;have h:w.heap.size+4≤w.heap.size+3:=this;omega))
 have T2:=ħ (T1.o.below b12 HT.o.size)
 clear b12 f0 f1 m0 m1 R1 B1 T1 SZ1 OWN
 generalize (w1.setCell ⟨w.heap.size+2,0,none⟩ (.int .i64 (a1:Int))).setCell ⟨w.heap.size+3,0,none⟩ (.int .i64 x)=w2 at *
 have m1:=R2.o.err.cell 0 _ rfl
 by_cases hx:x=0
 ·have HX:=ħ hx
  subst hx
  have HP1:Hid (∀ e,questP ts l.length = .error e→parseF l=([],prd0,e.2,e.1)):=ħ (fun e he=>parse_err HSC.o rfl he)
  have HP2:Hid (∀ r,questP ts l.length = .ok r→parseF l=(r.1,r.2,0,0)):=ħ (fun r he=>parse_ok HSC.o rfl he)
  go_upto_region 5 with (fail)
  clear m1
  have PW:=ħ (ParW.new (sz:=l.length) O2.o)
  have b23:=(Below.refl w2.heap.size w2).alloc (Nat.le_refl _) (.cells #[.slice ao ts.length cap,.int .i64 0,.int .i64 (l.length:Int)] 104)
  have R3:=ħ (R2.o.step b23)
  have T3:=ħ (T2.o.step b23)
  have B3:=ħ (B2.o.trans (b23.mono (by have:=SZ2.o;omega)))
  clear b23 R2 T2 B2 O2
  obtain⟨R,hR⟩:∃ R,w2.heap.size=R:=⟨_,rfl⟩
  have HR:Hid (w.heap.size+4≤R):=ħ (by have:=SZ2.o;omega)
  have HRB:Hid (B≤R):=ħ (by have:=HT.o.size;have:=HR.o;omega)
  rw[hR] at PW
  go_upto_region 6 with (fail)
  generalize w2.alloc (.cells #[.slice ao ts.length cap,.int .i64 0,.int .i64 (l.length:Int)] 104)=w3 at *
  clear hR SZ2
  have HN2:Hid (ts.length≤4000):=HN
  have HTO:Hid (∀ t∈ts,TokOk t):=HTS
  clear HN HTS
  go_wp2_with fail
  refine (take_any w3 R ao cap ts l.length 0 [113,117,101,115,116,105,111,110] PW.o (Nat.zero_le _) (by have:=HN2.o;omega) HTO.o (by decide)).mono ?_
  rintro e w4 ⟨o4,hr⟩
  have R4:=ħ (R3.o.only o4 (fun g (e:g=R)=>by have:=HR.o;omega))
  have T4:=ħ (T3.o.onlyR o4 HRB.o)
  have B4:=ħ (B3.o.trans (o4.below (B:=w.heap.size) B3.o.size (fun g (e:g=R)=>by have:=HR.o;omega)))
  clear o4 R3 T3 B3 PW
  cases ht1:takeP ts l.length [113,117,101,115,116,105,111,110] 0 with
  | error z =>
   rw[ht1] at hr
   obtain rfl:=hr
   have HP:=ħ (HP1.o z (by unfold questP;rw[ht1];rfl))
   clear ht1
   unfold failE
   go_wp2_with fail
   exact door_panic _ w4 w.heap.size _ _ _ _ _ _ R4.o rfl rfl rfl rfl rfl rfl (fun w' ho=>parR_fail HP.o (B4.o.trans (ho.below B4.o.size (fun g hg=>hg))))
  | ok j1 =>
  rw[ht1] at hr
  obtain⟨rfl,p4,hj1⟩:=hr
  have P4:=ħ p4
  have H1:=ħ ht1
  clear p4 ht1
  go_wp2_with fail
  refine (named_any w4 R ao cap ts l.length j1 B T4.o P4.o hj1 (by have:=HN2.o;omega) HTO.o).mono ?_
  rintro e w5 ⟨o5,hr⟩
  have R5:=ħ (R4.o.only o5 (fun g (e:g=R)=>by have:=HR.o;omega))
  have T5:=ħ (T4.o.onlyR o5 HRB.o)
  have B5:=ħ (B4.o.trans (o5.below (B:=w.heap.size) B4.o.size (fun g (e:g=R)=>by have:=HR.o;omega)))
  clear o5 R4 T4 B4 P4
  cases ht2:nameP ts l.length j1 with
  | error z =>
   rw[ht2] at hr
   obtain rfl:=hr
   have HP:=ħ (HP1.o z (by unfold questP;rw[H1.o];show (nameP ts l.length j1).bind _=_;rw[ht2];rfl))
   clear ht2
   unfold failE
   go_wp2_with fail
   exact door_panic _ w5 w.heap.size _ _ _ _ _ _ R5.o rfl rfl rfl rfl rfl rfl (fun w' ho=>parR_fail HP.o (B5.o.trans (ho.below B5.o.size (fun g hg=>hg))))
  | ok r1 =>
  obtain⟨nm,j2⟩:=r1
  rw[ht2] at hr
  obtain⟨rfl,p5,hj2⟩:=hr
  have P5:=ħ p5
  have H2:=ħ ht2
  clear p5 ht2
  have f0:=R5.o.nm.warm 0
  have m0:=R5.o.nm.cell 0 _ rfl
  go_upto_region 8 with (fail)
  have u6:=upd_setCell w5 ⟨w.heap.size,0,none⟩ (.string (strN nm))
  have R6:=ħ (R5.o.setNm (strN nm))
  have T6:=ħ (T5.o.upd u6 HT.o.size)
  have B6:=ħ (B5.o.cellAt w.heap.size 0 (Nat.le_refl _) (.string (strN nm)))
  have P6:=ħ (parW_updO P5.o u6 (by have:=HR.o;show w.heap.size≠R;omega) (fun e=>by have:=AO.o _ e;have h:w.heap.size+4≤w.heap.size:=this;omega))
  clear f0 m0 u6 R5 T5 B5 P5
  generalize w5.setCell ⟨w.heap.size,0,none⟩ (.string (strN nm))=w6 at *
  go_wp2_with fail
  refine (take_any w6 R ao cap ts l.length j2 [123] P6.o hj2 (by have:=HN2.o;omega) HTO.o (by decide)).mono ?_
  rintro e w7 ⟨o7,hr⟩
  have R7:=ħ (R6.o.only o7 (fun g (e:g=R)=>by have:=HR.o;omega))
  have T7:=ħ (T6.o.onlyR o7 HRB.o)
  have B7:=ħ (B6.o.trans (o7.below (B:=w.heap.size) B6.o.size (fun g (e:g=R)=>by have:=HR.o;omega)))
  clear o7 R6 T6 B6 P6
  cases ht3:takeP ts l.length [123] j2 with
  | error z =>
   rw[ht3] at hr
   obtain rfl:=hr
   have HP:=ħ (HP1.o z (by unfold questP;rw[H1.o];show (nameP ts l.length j1).bind _=_;rw[H2.o];show (takeP ts l.length [123] j2).bind _=_;rw[ht3];rfl))
   clear ht3
   unfold failE
   go_wp2_with fail
   exact door_panic _ w7 w.heap.size _ _ _ _ _ _ R7.o rfl rfl rfl rfl rfl rfl (fun w' ho=>parR_fail HP.o (B7.o.trans (ho.below B7.o.size (fun g hg=>hg))))
  | ok j3 =>
  rw[ht3] at hr
  obtain⟨rfl,p7,hj3⟩:=hr
  have P7:=ħ p7
  have H3:=ħ ht3
  have SR:Hid (R<w7.heap.size):=ħ p7.lt
  clear p7 ht3
  have HGO:=ħ (unitP_ok (sz:=l.length) HTO.o (ts.length+1))
  go_wp2_with fail
  refine (some_any w7 R ao cap ts l.length j3 B (unitP ts l.length (ts.length+1)) T7.o HRB.o P7.o hj3 (by have:=HN2.o;omega) HTO.o HGO.o (fun i w h1 h2 h3 h4=>unit_any R ao cap ts l.length B HRB.o (by have:=HN2.o;omega) HTO.o (ts.length+1) i w h2 (by omega) h3 h4)).mono ?_
  rintro e w8 ⟨o8,hr⟩
  have R8:=ħ (R7.o.only o8 (fun g (e:g=R)=>by have:=HR.o;omega))
  have T8:=ħ (T7.o.onlyR o8 HRB.o)
  have B8:=ħ (B7.o.trans (o8.below (B:=w.heap.size) B7.o.size (fun g (e:g=R)=>by have:=HR.o;omega)))
  clear o8 R7 T7 B7 P7
  cases ht4:someP ts (unitP ts l.length (ts.length+1)) j3 with
  | error z =>
   rw[ht4] at hr
   obtain rfl:=hr
   have HP:=ħ (HP1.o z (by unfold questP;rw[H1.o];show (nameP ts l.length j1).bind _=_;rw[H2.o];show (takeP ts l.length [123] j2).bind _=_;rw[H3.o];show (someP ts (unitP ts l.length (ts.length+1)) j3).bind _=_;rw[ht4];rfl))
   clear ht4
   unfold failE
   go_wp2_with fail
   exact door_panic _ w8 w.heap.size _ _ _ _ _ _ R8.o rfl rfl rfl rfl rfl rfl (fun w' ho=>parR_fail HP.o (B8.o.trans (ho.below B8.o.size (fun g hg=>hg))))
  | ok r4 =>
  obtain⟨p,j4⟩:=r4
  rw[ht4] at hr
  have hj4:j4≤ts.length:=(someP_ok HGO.o j3 (p,j4) ht4).2
  have HC:Hid (cntP p≤1000000):=ħ (by have:=(some_few (unit_few (sz:=l.length) HTO.o (ts.length+1)) j3 (p,j4) ht4).2;have:=HN2.o;simp only at *;omega)
  obtain⟨⟨v,rfl,vs,rfl,hpc⟩,p8⟩:=hr
  have P8:=ħ p8
  have PC:=ħ (hpc.mono (P':=fun g=>R<g) (fun g hg _=>by have:=SR.o;omega))
  have HL5:=ħ hpc.len
  have H4:=ħ ht4
  clear p8 hpc ht4 SR
  have HPR:=R8.o.pr
  go_wp2_with (refine wpList_store_abs rfl 25 (.tmp 3) (.tmp 32) rfl (w.heap.size+1) vs.toArray ?s1 ?s2 25 _ HPR (inf_pred _ HL5.o) ?s3 (PC.o.one) ?_;(case s1=>rfl);(case s2=>rfl);(case s3=>rw[List.size_toArray,List.size_toArray,HL5.o];rfl);intro w9 s9 u9;have S9:Hid (HasV w9 (w.heap.size+1) 25 vs):=ħ s9;have U9:=ħ u9;clear s9 u9)
  have R9:=ħ (R8.o.setPr U9.o S9.o)
  have T9:=ħ (T8.o.upd U9.o (by have:=HT.o.size;omega))
  have B9:=ħ (U9.o.below B8.o (by omega))
  have P9:=ħ (parW_updO P8.o U9.o (by have:=HR.o;omega) (fun e=>by have:=AO.o _ e;omega))
  have PC9:=ħ (PC.o.upd U9.o (by have:=HR.o;omega))
  clear HPR S9 U9 R8 T8 B8 P8 PC
  refine (take_any w9 R ao cap ts l.length j4 [125] P9.o hj4 (by have:=HN2.o;omega) HTO.o (by decide)).mono ?_
  rintro e w10 ⟨o10,hr⟩
  have R10:=ħ (R9.o.only o10 (fun g (e:g=R)=>by have:=HR.o;omega))
  have B10:=ħ (B9.o.trans (o10.below (B:=w.heap.size) B9.o.size (fun g (e:g=R)=>by have:=HR.o;omega)))
  have PC10:Hid (PredC w10 (fun g=>R<g) p vs):=ħ (PredC.keep (fun g (hg:R<g) hl=>o10.block g hl (fun (e:g=R)=>by omega)) o10.size (fun g h _=>h) p vs PC9.o)
  clear o10 R9 T9 B9 P9 PC9
  cases ht5:takeP ts l.length [125] j4 with
  | error z =>
   rw[ht5] at hr
   obtain rfl:=hr
   have HP:=ħ (HP1.o z (by unfold questP;rw[H1.o];show (nameP ts l.length j1).bind _=_;rw[H2.o];show (takeP ts l.length [123] j2).bind _=_;rw[H3.o];show (someP ts (unitP ts l.length (ts.length+1)) j3).bind _=_;rw[H4.o];show (takeP ts l.length [125] j4).bind _=_;rw[ht5];rfl))
   clear ht5
   unfold failE
   go_wp2_with fail
   exact door_panic _ w10 w.heap.size _ _ _ _ _ _ R10.o HL5.o rfl rfl rfl rfl rfl (fun w' ho=>parR_fail HP.o (B10.o.trans (ho.below B10.o.size (fun g hg=>hg))))
  | ok j5 =>
  rw[ht5] at hr
  obtain⟨rfl,p10,hj5⟩:=hr
  have P10:=ħ p10
  have HQ:Hid (questP ts l.length=(if j5<ts.length then .error (12,offP ts l.length j5) else if smallP p=true then .ok (nm,p) else .error (6,0))):=ħ (by unfold questP;rw[H1.o];show (nameP ts l.length j1).bind _=_;rw[H2.o];show (takeP ts l.length [123] j2).bind _=_;rw[H3.o];show (someP ts (unitP ts l.length (ts.length+1)) j3).bind _=_;rw[H4.o];show (takeP ts l.length [125] j4).bind _=_;rw[ht5];rfl)
  clear p10 ht5 H1 H2 H3 H4
  obtain⟨c0,c1,c2⟩:=P10.o.cells
  by_cases hj:j5<ts.length
  ·have ii:(j5:Int)<ts.length:=by omega
   have HP:=ħ (HP1.o _ (by rw[HQ.o,if_pos hj]))
   go_wp2_with fail
   refine (fail_any w10 R ao cap ts l.length j5 j5 12 P10.o hj5 (by have:=HN2.o;omega)).mono ?_
   rintro e w11 ⟨rfl,b11⟩
   have R11:=ħ (R10.o.step b11)
   have B11:=ħ (B10.o.trans (b11.mono B10.o.size))
   unfold failE
   go_wp2_with fail
   exact door_panic _ w11 w.heap.size _ _ _ _ _ _ R11.o HL5.o rfl rfl rfl rfl rfl (fun w' ho=>parR_fail (e:=(12,offP ts l.length j5)) HP.o (B11.o.trans (ho.below B11.o.size (fun g hg=>hg))))
  ·have ii:¬ ((j5:Int)<ts.length):=by omega
   go_upto_region 13 with (fail)
   clear c0 c1 c2 ii
   obtain⟨sa,sn,sc,rfl,-⟩:=PC10.o.form
   have p0:=R10.o.pr.cell 0 _ rfl
   have p1:=R10.o.pr.cell 1 _ rfl
   have p2:=R10.o.pr.cell 2 _ rfl
   have p3:=R10.o.pr.cell 3 _ rfl
   have p4:=R10.o.pr.cell 4 _ rfl
   go_wp2_with fail
   refine (small_any w10 _ p _ PC10.o HC.o).mono ?_
   rintro e w11 ⟨rfl,b11⟩
   clear p0 p1 p2 p3 p4
   have R11:=ħ (R10.o.step b11)
   have B11:=ħ (B10.o.trans (b11.mono B10.o.size))
   have PC11:=ħ (PC10.o.below b11)
   clear b11 R10 B10 PC10 P10
   have n0:=R11.o.nm.cell 0 _ rfl
   have n1:=R11.o.nm.warm 0
   have p0:=R11.o.pr.cell 0 _ rfl
   have p1:=R11.o.pr.cell 1 _ rfl
   have p2:=R11.o.pr.cell 2 _ rfl
   have p3:=R11.o.pr.cell 3 _ rfl
   have p4:=R11.o.pr.cell 4 _ rfl
   have q0:=R11.o.pr.warm 0
   have q1:=R11.o.pr.warm 1
   have q2:=R11.o.pr.warm 2
   have q3:=R11.o.pr.warm 3
   have q4:=R11.o.pr.warm 4
   have a0:=R11.o.att.cell 0 _ rfl
   have a2:=R11.o.att.warm 0
   have e0:=R11.o.err.cell 0 _ rfl
   have e1:=R11.o.err.warm 0
   cases hsm:smallP p with
   | true =>
    have HP:=ħ (HP2.o (nm,p) (by rw[HQ.o,if_neg hj,if_pos hsm]))
    clear hsm
    go_upto_region 15 with (fail)
    go_region
    go_wp2_with fail
    have hRR:=HR.o
    have RF:=((((((((R11.o.setNm (strN nm)).setP 0 (.int .i64 p.k)).setP 1 (.string (strN p.l))).setP 2 (.string (strN p.r))).setP 3 (.int .i64 p.c)).setP 4 (.slice sa sn sc)).setAt 0).setErr 0).drew
    have BF:=((((((((B11.o.cellAt w.heap.size 0 (by omega) (.string (strN nm))).cellAt (w.heap.size+1) 0 (by omega) (.int .i64 p.k)).cellAt (w.heap.size+1) 1 (by omega) (.string (strN p.l))).cellAt (w.heap.size+1) 2 (by omega) (.string (strN p.r))).cellAt (w.heap.size+1) 3 (by omega) (.int .i64 p.c)).cellAt (w.heap.size+1) 4 (by omega) (.slice sa sn sc)).cellAt (w.heap.size+2) 0 (by omega) (.int .i64 0)).cellAt (w.heap.size+3) 0 (by omega) (.int .i64 0)).drew
    have PF:=((((((((PC11.o.cellAt w.heap.size 0 (by omega) (.string (strN nm))).cellAt (w.heap.size+1) 0 (by omega) (.int .i64 p.k)).cellAt (w.heap.size+1) 1 (by omega) (.string (strN p.l))).cellAt (w.heap.size+1) 2 (by omega) (.string (strN p.r))).cellAt (w.heap.size+1) 3 (by omega) (.int .i64 p.c)).cellAt (w.heap.size+1) 4 (by omega) (.slice sa sn sc)).cellAt (w.heap.size+2) 0 (by omega) (.int .i64 0)).cellAt (w.heap.size+3) 0 (by omega) (.int .i64 0)).drew
    exact door_ret _ _ w.heap.size _ _ _ _ RF rfl rfl rfl rfl rfl rfl (parR_good HP.o BF ⟨_,rfl,PF.mono (fun g (hg:R<g) _=>by omega)⟩)
   | false =>
    have HP:=ħ (HP1.o (6,0) (by rw[HQ.o,if_neg hj,if_neg (by rw[hsm];simp)]))
    clear hsm
    go_wp2_with fail
    have RF:=((((((((R11.o.setNm ⟨#[]⟩).setP 0 (.int .i64 0)).setP 1 (.string ⟨#[]⟩)).setP 2 (.string ⟨#[]⟩)).setP 3 (.int .i64 0)).setP 4 (.slice none 0 0)).setAt 0).setErr 6)
    have BF:=((((((((B11.o.cellAt w.heap.size 0 (by omega) (.string ⟨#[]⟩)).cellAt (w.heap.size+1) 0 (by omega) (.int .i64 0)).cellAt (w.heap.size+1) 1 (by omega) (.string ⟨#[]⟩)).cellAt (w.heap.size+1) 2 (by omega) (.string ⟨#[]⟩)).cellAt (w.heap.size+1) 3 (by omega) (.int .i64 0)).cellAt (w.heap.size+1) 4 (by omega) (.slice none 0 0)).cellAt (w.heap.size+2) 0 (by omega) (.int .i64 0)).cellAt (w.heap.size+3) 0 (by omega) (.int .i64 6))
    exact door_ret _ _ w.heap.size _ _ _ _ RF rfl rfl rfl rfl rfl rfl (parR_fail (e:=(6,0)) HP.o BF)
 ·have hx2:(x != 0)=true:=by rw[bne_iff_ne];exact hx
  have HP:=ħ (parse_scan HSC.o hx)
  clear hx
  go_upto_region 3 with (fail)
  have n0:=R2.o.nm.cell 0 _ rfl
  have n1:=R2.o.nm.warm 0
  have p0:=R2.o.pr.cell 0 _ rfl
  have p1:=R2.o.pr.cell 1 _ rfl
  have p2:=R2.o.pr.cell 2 _ rfl
  have p3:=R2.o.pr.cell 3 _ rfl
  have p4:=R2.o.pr.cell 4 _ rfl
  have q0:=R2.o.pr.warm 0
  have q1:=R2.o.pr.warm 1
  have q2:=R2.o.pr.warm 2
  have q3:=R2.o.pr.warm 3
  have q4:=R2.o.pr.warm 4
  have a0:=R2.o.att.cell 0 _ rfl
  have a2:=R2.o.att.warm 0
  have e0:=R2.o.err.cell 0 _ rfl
  have e1:=R2.o.err.warm 0
  go_region
  go_wp2_with fail
  have RF:=((((((((R2.o.setNm ⟨#[]⟩).setP 0 (.int .i64 0)).setP 1 (.string ⟨#[]⟩)).setP 2 (.string ⟨#[]⟩)).setP 3 (.int .i64 0)).setP 4 (.slice none 0 0)).setAt a1).setErr x).drew
  have BF:=((((((((B2.o.cellAt w.heap.size 0 (by omega) (.string ⟨#[]⟩)).cellAt (w.heap.size+1) 0 (by omega) (.int .i64 0)).cellAt (w.heap.size+1) 1 (by omega) (.string ⟨#[]⟩)).cellAt (w.heap.size+1) 2 (by omega) (.string ⟨#[]⟩)).cellAt (w.heap.size+1) 3 (by omega) (.int .i64 0)).cellAt (w.heap.size+1) 4 (by omega) (.slice none 0 0)).cellAt (w.heap.size+2) 0 (by omega) (.int .i64 (a1:Int))).cellAt (w.heap.size+3) 0 (by omega) (.int .i64 x)).drew
  exact door_plain _ _ w.heap.size _ _ _ _ RF rfl rfl rfl rfl rfl rfl (parR_fail (e:=(x,a1)) HP.o BF)
end
section
open Go.RowKit
theorem bytesLess_map:∀ a b:List Nat,(∀ y∈a,y<256)→(∀ y∈b,y<256)→Op.bytesLess (a.map UInt8.ofNat) (b.map UInt8.ofNat)=ltL a b
 | [],[],_,_=>rfl
 | [],_::_,_,_=>rfl
 | _::_,[],_,_=>rfl
 | x::xs,y::ys,ha,hb=>by
  have hx:=ha x (by simp)
  have hy:=hb y (by simp)
  have ih:=bytesLess_map xs ys (fun z hz=>ha z (by simp[hz])) (fun z hz=>hb z (by simp[hz]))
  have e1:decide (UInt8.ofNat x<UInt8.ofNat y)=decide (x<y):=by
   rw[decide_eq_decide,UInt8.lt_iff_toNat_lt]
   simp[Nat.mod_eq_of_lt hx,Nat.mod_eq_of_lt hy]
  have e2:(UInt8.ofNat x==UInt8.ofNat y)=(x==y):=by
   rw[Bool.eq_iff_iff,beq_iff_eq,beq_iff_eq,← UInt8.toNat_inj]
   simp[Nat.mod_eq_of_lt hx,Nat.mod_eq_of_lt hy]
  simp only[List.map_cons,Op.bytesLess,ltL,e1,e2,ih]
theorem strN_less (a b:List Nat) (ha:∀ y∈a,y<256) (hb:∀ y∈b,y<256):Op.bytesLess (strN a).toList (strN b).toList=ltL a b:=by
 rw[strN_toList,strN_toList,bytesLess_map a b ha hb]
theorem cmps_any (a b:List Nat) (w:World) (ha:∀ y∈a,y<256) (hb:∀ y∈b,y<256) :
  Calls Tryz.prog 222 #[.string (strN a),.string (strN b)] w fun e w'=>e = .returned (.int .i64 (cmpL a b))∧w=w':=by
 have h1:=strN_less a b ha hb
 have h2:=strN_less b a hb ha
 have HV:=ħ (show cmpL a b=if ltL a b=true then -1 else if ltL b a=true then 1 else 0 from rfl)
 generalize cmpL a b=V at *
 cases hx:ltL a b with
 | true =>
  rw[hx] at h1 HV
  clear hx ha hb h2
  generalize strN a=s at *
  generalize strN b=t at *
  go_enter Tryz.func222,Tryz.ntmps222
  go_wp2
  go_ret
  exact⟨ret_int (by rw[HV.o];rfl),rfl⟩
 | false =>
  cases hy:ltL b a with
  | true =>
   have he:((strN a).toList==(strN b).toList)=false:=by rw[strN_eqL a b ha hb,beq_eq_false_iff_ne];rintro rfl;rw[ltL_irrefl] at hy;cases hy
   rw[hx] at h1 HV
   rw[hy] at HV
   clear hx ha hb hy h2
   generalize strN a=s at *
   generalize strN b=t at *
   go_enter Tryz.func222,Tryz.ntmps222
   go_wp2
   go_ret
   exact⟨ret_int (by rw[HV.o];rfl),rfl⟩
  | false =>
   have he:((strN a).toList==(strN b).toList)=true:=by
    rw[strN_eqL a b ha hb,beq_iff_eq]
    rcases ltL_total a b with h | h | h
    ·rw[hx] at h;cases h
    ·exact h
    ·rw[hy] at h;cases h
   have HX:Hid (V=0):=ħ (by rw[HV.o,hx,hy];rfl)
   rw[hx] at h1
   clear hx ha hb hy h2 HV
   generalize strN a=s at *
   generalize strN b=t at *
   go_enter Tryz.func222,Tryz.ntmps222
   go_wp2
   go_ret
   exact⟨ret_int HX.o.symm,rfl⟩
theorem cmpi_any (a b:Int) (w:World) :
  Calls Tryz.prog 223 #[.int .i64 a,.int .i64 b] w fun e w'=>e = .returned (.int .i64 (cmpI a b))∧w=w':=by
 have HV:=ħ (show cmpI a b=if a<b then -1 else if a=b then 0 else 1 from rfl)
 generalize cmpI a b=V at *
 go_enter Tryz.func223,Tryz.ntmps223
 go_wp2
 all_goals
  go_ret
  refine⟨ret_int ?_,rfl⟩
  rw[HV.o]
  (repeat' split)<;>first | rfl | (exfalso;omega)
theorem cmpor_any (g cp:Nat) (a b c:Int) (w:World) (h0:w.cell? ⟨g,0,none⟩=some (.int .i64 a)) (h1:w.cell? ⟨g,1,none⟩=some (.int .i64 b)) (h2:w.cell? ⟨g,2,none⟩=some (.int .i64 c)) :
  Calls Tryz.prog 221 #[.slice (some ⟨g,0,none⟩) 3 cp] w fun e w'=>e = .returned (.int .i64 (or3 a b c))∧w=w':=by
 have HV:=ħ (show or3 a b c=if a≠0 then a else if b≠0 then b else c from rfl)
 generalize or3 a b c=V at *
 have k0:∀ x:Int,x=0→(x != 0)=false:=fun x h=>by rw[h];rfl
 have k1:∀ x:Int,x≠0→(x != 0)=true:=fun x h=>by rw[bne_iff_ne];exact h
 by_cases ha:a=0
 ·have ka:=k0 a ha
  by_cases hb:b=0
  ·have kb:=k0 b hb
   have HX:Hid (V=c):=ħ (by rw[HV.o,if_neg (by simp[ha]),if_neg (by simp[hb])])
   by_cases hc:c=0
   ·have kc:=k0 c hc
    have HC:=ħ hc
    clear ha hb hc k0 k1
    go_enter Tryz.func221,Tryz.ntmps221
    go_wp2
    refine wp_loop_rounds 4 ?_
    rw[rounds_succ];go_wp2
    rw[rounds_succ];go_wp2
    rw[rounds_succ];go_wp2
    rw[rounds_succ];go_wp2
    go_ret
    exact⟨ret_int (by rw[HX.o,HC.o]),rfl⟩
   ·have kc:=k1 c hc
    clear ha hb hc k0 k1
    go_enter Tryz.func221,Tryz.ntmps221
    go_wp2
    refine wp_loop_rounds 4 ?_
    rw[rounds_succ];go_wp2
    rw[rounds_succ];go_wp2
    rw[rounds_succ];go_wp2
    go_ret
    exact⟨ret_int HX.o.symm,rfl⟩
  ·have kb:=k1 b hb
   have HX:Hid (V=b):=ħ (by rw[HV.o,if_neg (by simp[ha]),if_pos hb])
   clear ha hb k0 k1
   go_enter Tryz.func221,Tryz.ntmps221
   go_wp2
   refine wp_loop_rounds 4 ?_
   rw[rounds_succ];go_wp2
   rw[rounds_succ];go_wp2
   go_ret
   exact⟨ret_int HX.o.symm,rfl⟩
 ·have ka:=k1 a ha
  have HX:Hid (V=a):=ħ (by rw[HV.o,if_pos ha])
  clear ha k0 k1
  go_enter Tryz.func221,Tryz.ntmps221
  go_wp2
  refine wp_loop_rounds 4 ?_
  rw[rounds_succ];go_wp2
  go_ret
  exact⟨ret_int HX.o.symm,rfl⟩
end
section
open Go.RowKit
theorem numV_take_le (l:List Nat):∀ (k i:Nat),l.length-i≤k→i≤l.length→numV (l.take i)≤numV l
 | 0,i,hk,hi=>by rw[show i=l.length by omega,List.take_length];exact Nat.le_refl _
 | k+1,i,hk,hi=>by
  by_cases h:i<l.length
  ·exact Nat.le_trans (numV_mono l i h) (numV_take_le l k (i+1) (by omega) h)
  ·rw[show i=l.length by omega,List.take_length];exact Nat.le_refl _
theorem numOk_bad {l:List Nat} {i:Nat} (hi:i<l.length) (h:digB (l.getD i 0)=false):numOk l=false:=by
 rw[← numOkR_eq]
 unfold numOkR
 have:l.all digB=false:=by
  rw[List.all_eq_false]
  rw[List.getD,List.getElem?_eq_getElem hi] at h
  exact⟨l[i],List.getElem_mem hi,by rw[show digB l[i]=false from h];simp⟩
 rw[this];rfl
theorem numOk_big {l:List Nat} (h:1099511627776<numV l):numOk l=false:=by
 rw[← numOkR_eq]
 unfold numOkR
 rw[show decide (numV l≤1099511627776)=false by rw[decide_eq_false_iff_not];omega]
 simp
theorem numOk_end {l:List Nat} (hd:∀ j,j<l.length→digB (l.getD j 0)=true) (h:numV l≤1099511627776):numOk l=!(decide (l.length<1)||(decide (1<l.length)&&(l.getD 0 0==48))):=by
 rw[← numOkR_eq]
 unfold numOkR
 have:l.all digB=true:=by
  rw[List.all_eq_true]
  intro x hx
  obtain⟨i,hi,rfl⟩:=List.getElem_of_mem hx
  have:=hd i hi
  rwa [List.getD,List.getElem?_eq_getElem hi] at this
 rw[this,decide_eq_true h]
 simp
theorem numOk_short {l:List Nat} (h:l.length<1):numOk l=false:=by
 rw[← numOkR_eq];unfold numOkR;rw[decide_eq_true h];simp
theorem numOk_zero {l:List Nat} (h:1<l.length) (h0:l.getD 0 0=48):numOk l=false:=by
 rw[← numOkR_eq];unfold numOkR;rw[decide_eq_true h,h0];simp
theorem numOk_good {l:List Nat} (hd:∀ j,j<l.length→digB (l.getD j 0)=true) (h:numV l≤1099511627776) (h1:¬ l.length<1) (h2:¬ 1<l.length∨l.getD 0 0≠48):numOk l=true:=by
 rw[numOk_end hd h,decide_eq_false h1]
 rcases h2 with h2 | h2
 ·rw[decide_eq_false h2];rfl
 ·rw[show (l.getD 0 0==48)=false from beq_eq_false_iff_ne.mpr h2];simp
theorem ret_num_no {l:List Nat} (h:numOk l=false):Ending.returned (.tuple #[.int .i64 0,.bool false]) = .returned (.tuple #[.int .i64 (numF l:Nat),.bool (numOk l)]):=by
 unfold numF;rw[h];rfl
theorem ret_num_yes {l:List Nat} (h:numOk l=true):Ending.returned (.tuple #[.int .i64 (numV l:Nat),.bool true]) = .returned (.tuple #[.int .i64 (numF l:Nat),.bool (numOk l)]):=by
 unfold numF;rw[h];rfl
theorem rnumber_any (l:List Nat) (w:World) (hl:l.length≤1000000) (hb:∀ y∈l,y<256) :
  Calls Tryz.prog 206 #[.string (strN l)] w fun e w'=>e = .returned (.tuple #[.int .i64 (numF l:Nat),.bool (numOk l)])∧w=w':=by
 have SZ:=ħ (strN_size l)
 have HX:Hid (∀ i:Nat,i<l.length→∀ w,(Instr.index 9 (.string (strN l)) (.int .i64 (i:Int))).run Tryz.prog w = .ok (.int .u8 ((l.getD i 0:Nat):Int)) w):=ħ (fun i hi w=>str_at l i hi hb w)
 clear hb
 generalize strN l=t at *
 obtain⟨V,hV⟩:∃ V,Ending.returned (.tuple #[.int .i64 (numF l:Nat),.bool (numOk l)])=V:=⟨_,rfl⟩
 rw[hV]
 have HV:=ħ hV
 clear hV
 go_enter Tryz.func206,Tryz.ntmps206
 go_wp2_with fail
 go_loop [4,5] (fun a c=>∃ i U:Nat,a = .int .i64 U∧c = .int .i64 i∧i≤l.length∧U≤10995116277769∧Hid (U=numV (l.take i))∧Hid (∀ j,j<i→digB (l.getD j 0)=true)) (fun _ c=>(l.length-intOf c).toNat)
 case atStart=>exact⟨0,0,rfl,rfl,by omega,by omega,ħ rfl,ħ (fun j hj=>absurd hj (Nat.not_lt_zero _))⟩
 case round =>
  obtain⟨i,U,rfl,rfl,hi,hUb,hU,hD⟩:=hrel
  have hsz:=SZ.o
  by_cases hlt:i<l.length
  ·have hx:=HX.o i hlt
   have ii:(i:Int)<l.length:=by omega
   have HVV:=ħ (numV_take l i hlt)
   have e2:IntKind.i64.wrap ((i:Int)+1)=((i+1:Nat):Int):=IntWalk.i64_in _ (by omega)
   obtain⟨c,hc⟩:∃ c,l.getD i 0=c:=⟨_,rfl⟩
   rw[hc] at hx
   have HC:=ħ hc
   clear hc
   obtain⟨q,hq⟩:∃ q,digB c=q:=⟨_,rfl⟩
   have HQ:=ħ hq
   clear hq
   go_wp2_with fail
   refine (rdigit_any c w).mono ?_
   rintro e w1 ⟨rfl,rfl⟩
   rw[HQ.o]
   cases q with
   | false =>
    have HN:=ħ (ret_num_no (numOk_bad hlt (by rw[HC.o];exact HQ.o)))
    go_wp2
    go_ret2
    exact⟨HN.o.trans HV.o,rfl⟩
   | true =>
    by_cases hb:1099511627776<U
    ·have ib:(1099511627776:Int)<U:=by omega
     have HN:=ħ (ret_num_no (numOk_big (Nat.lt_of_lt_of_le (by rw[← hU.o];exact hb) (numV_take_le l _ i (Nat.le_refl _) hi))))
     go_wp2
     go_ret2
     exact⟨HN.o.trans HV.o,rfl⟩
    ·have ib:¬ ((1099511627776:Int)<U):=by omega
     have hd:=digB_le HQ.o
     have f1:IntKind.i64.wrap (10*(U:Int))=10*U:=IntWalk.i64_in _ (by omega)
     have f2:IntKind.i64.wrap (c:Int)=c:=IntWalk.i64_in _ (by omega)
     have f3:IntKind.i64.wrap (10*(U:Int)+c)=10*(U:Int)+c:=IntWalk.i64_in _ (by omega)
     have f4:IntKind.i64.wrap (10*(U:Int)+c-48)=((10*U+(c-48):Nat):Int):=by rw[IntWalk.i64_in _ (by omega)];omega
     go_wp2
     go_round
     case rel=>exact⟨i+1,10*U+(c-48),rfl,rfl,by omega,by omega,ħ (by rw[HVV.o,← hU.o,HC.o]),ħ (fun j hj=>by
      by_cases hji:j<i
      ·exact hD.o j hji
      ·rw[show j=i by omega,HC.o];exact HQ.o)⟩
     case measure=>simp[intOf];omega
  ·obtain rfl:i=l.length:=by omega
   have ii:¬ ((l.length:Int)<l.length):=by omega
   have HU:Hid (U=numV l):=ħ (by rw[hU.o,List.take_length])
   have HD:=ħ hD.o
   by_cases h0:l.length<1
   ·have i0:(l.length:Int)<1:=by omega
    have HN:=ħ (ret_num_no (numOk_short h0))
    clear h0
    go_wp2
    go_ret2
    exact⟨HN.o.trans HV.o,rfl⟩
   ·have i0:¬ ((l.length:Int)<1):=by omega
    by_cases h1:1<l.length
    ·have i1:(1:Int)<l.length:=by omega
     have hx:=HX.o 0 (by omega)
     simp only[Int.natCast_zero] at hx
     obtain⟨v,hv⟩:∃ v,l.getD 0 0=v:=⟨_,rfl⟩
     rw[hv] at hx
     by_cases h48:v=48
     ·have v1:((v:Int)==48)=true:=by rw[beq_iff_eq];omega
      have HN:=ħ (ret_num_no (numOk_zero h1 (hv.trans h48)))
      clear h0 h1 hv h48
      go_wp2
      go_ret2
      exact⟨HN.o.trans HV.o,rfl⟩
     ·have v1:((v:Int)==48)=false:=by rw[beq_eq_false_iff_ne];omega
      by_cases hb:1099511627776<U
      ·have ib:(1099511627776:Int)<U:=by omega
       have HN:=ħ (ret_num_no (numOk_big (by rw[← HU.o];exact hb)))
       clear h0 h1 hv h48 hb
       go_wp2
       go_ret2
       exact⟨HN.o.trans HV.o,rfl⟩
      ·have ib:¬ ((1099511627776:Int)<U):=by omega
       have HN:=ħ (ret_num_yes (numOk_good HD.o (by rw[← HU.o];omega) h0 (.inr (by rw[hv];exact h48))))
       clear h0 h1 hv h48 hb
       go_wp2
       go_ret2
       exact⟨(by rw[HU.o];exact HN.o.trans HV.o),rfl⟩
    ·have i1:¬ ((1:Int)<l.length):=by omega
     by_cases hb:1099511627776<U
     ·have ib:(1099511627776:Int)<U:=by omega
      have HN:=ħ (ret_num_no (numOk_big (by rw[← HU.o];exact hb)))
      clear h0 h1 hb
      go_wp2
      go_ret2
      exact⟨HN.o.trans HV.o,rfl⟩
     ·have ib:¬ ((1099511627776:Int)<U):=by omega
      have HN:=ħ (ret_num_yes (numOk_good HD.o (by rw[← HU.o];omega) h0 (.inl h1)))
      clear h0 h1 hb
      go_wp2
      go_ret2
      exact⟨(by rw[HU.o];exact HN.o.trans HV.o),rfl⟩
end
section
open Go.RowKit
def quoS (l:List Nat) (a:Nat):Option (List Nat×Nat):=(quoAtR l [] (a+1)).bind (fun r=>if valB r.1=true then some r else none)
theorem quoS_eq (l:List Nat) (a:Nat):quoS l a=(quoF (l.drop (a+1))).bind (fun r=>if r.1.length≤400 then some (r.1,r.2+(a+1)) else none):=by
 unfold quoS quoAtR
 rw[quoF_eq]
 cases quoR (l.drop (a+1)) with
 | none=>rfl
 | some r =>
  simp only[Option.map_some,Option.bind_some,List.nil_append,valB,Bool.and_eq_true,decide_eq_true_eq]
  by_cases h1:r.1.all plnB=true
  ·simp[h1]
  ·simp[h1]
def quoE (l:List Nat) (a:Nat):Ending:=match quoS l a with
 | some r=>.returned (.tuple #[.string (strN r.1),.int .i64 (r.2:Nat),.bool true])
 | none=>.returned (.tuple #[.string ⟨#[]⟩,.int .i64 0,.bool false])
theorem quoE_no {l:List Nat} {a:Nat} (h:quoAtR l [] (a+1)=none):quoE l a = .returned (.tuple #[.string ⟨#[]⟩,.int .i64 0,.bool false]):=by
 unfold quoE quoS;rw[h];rfl
theorem quoE_bad {l v:List Nat} {a n:Nat} (h:quoAtR l [] (a+1)=some (v,n)) (hv:valB v=false):quoE l a = .returned (.tuple #[.string ⟨#[]⟩,.int .i64 0,.bool false]):=by
 unfold quoE quoS;rw[h];simp[hv]
theorem quoE_yes {l v:List Nat} {a n:Nat} (h:quoAtR l [] (a+1)=some (v,n)) (hv:valB v=true):quoE l a = .returned (.tuple #[.string (strN v),.int .i64 (n:Nat),.bool true]):=by
 unfold quoE quoS;rw[h];simp[hv]
theorem str_one (l:List Nat) (i:Nat) (hi:i<l.length) (w:World) :
  (Instr.slice 9 (.string (strN l)) (some (.int .i64 (i:Int))) (some (.int .i64 ((i:Int)+1))) none).run Tryz.prog w = .ok (.string (strN [l.getD i 0])) w:=by
 have h:=str_part l i (i+1) (by omega) (by omega) w
 rw[take_snoc l i hi,List.drop_left' (by rw[List.length_take];omega)] at h
 exact h
theorem rquoted_any (l:List Nat) (a:Nat) (ha:a<l.length) (w:World) (hl:l.length≤1000000) (hb:∀ y∈l,y<256) :
  Calls Tryz.prog 207 #[.string (strN l),.int .i64 (a:Int)] w fun e w'=>e=quoE l a∧w=w':=by
 have SZ:=ħ (strN_size l)
 have HX:Hid (∀ i:Nat,i<l.length→∀ w,(Instr.index 9 (.string (strN l)) (.int .i64 (i:Int))).run Tryz.prog w = .ok (.int .u8 ((l.getD i 0:Nat):Int)) w):=ħ (fun i hi w=>str_at l i hi hb w)
 have HS:Hid (∀ i:Nat,i<l.length→∀ w,(Instr.slice 9 (.string (strN l)) (some (.int .i64 (i:Int))) (some (.int .i64 ((i:Int)+1))) none).run Tryz.prog w = .ok (.string (strN [l.getD i 0])) w):=ħ (fun i hi w=>str_one l i hi w)
 have HB:Hid (∀ i:Nat,i<l.length→l.getD i 0<256):=ħ (fun i hi=>by rw[List.getD,List.getElem?_eq_getElem hi];exact hb _ (List.getElem_mem hi))
 have e0:IntKind.i64.wrap ((a:Int)+1)=(a:Int)+1:=IntWalk.i64_in _ (by omega)
 clear hb
 generalize strN l=t at *
 obtain⟨V,hV⟩:∃ V,quoE l a=V:=⟨_,rfl⟩
 rw[hV]
 have HV:=ħ hV
 clear hV
 go_enter Tryz.func207,Tryz.ntmps207
 go_wp2_with fail
 go_loop [7,8] (fun s c=>∃ (n:Nat) (v:List Nat),s = .string (strN v)∧c = .int .i64 n∧n≤l.length∧Hid (v.length≤n)∧Hid (∀ y∈v,y<256)∧Hid (quoAtR l [] (a+1)=quoAtR l v n)) (fun _ c=>(l.length+1-intOf c).toNat)
 case atStart=>exact⟨a+1,[],rfl,rfl,by omega,ħ (Nat.zero_le _),ħ (by simp),ħ rfl⟩
 case round =>
  obtain⟨n,v,rfl,rfl,hn,hvl,hvb,hz⟩:=hrel
  have hsz:=SZ.o
  have e2:IntKind.i64.wrap ((n:Int)+1)=(n:Int)+1:=IntWalk.i64_in _ (by omega)
  by_cases hlt:n<l.length
  ·have hx:=HX.o n hlt
   have hs:=HS.o n hlt
   have ii:((n:Int)<l.length):=by omega
   have ij:¬ ((l.length:Int)≤n):=by omega
   obtain⟨u,hu⟩:∃ v,l.getD n 0=v:=⟨_,rfl⟩
   rw[hu] at hx hs
   have HU:=ħ hu
   have hub:=ħ (by rw[← hu];exact HB.o n hlt:u<256)
   have HA:=ħ (strN_append v [u])
   clear hu
   by_cases h34:u=34
   ·have c1:((u:Int) != 34)=false:=by rw[h34];rfl
    have hend:=ħ (hz.o.trans (quoAtR_q l v n hlt (by rw[HU.o];exact h34)))
    clear h34
    go_wp2_with fail
    refine (rvalue_any v w (by have:=hvl.o;omega) hvb.o).mono ?_
    rintro e w1 ⟨rfl,rfl⟩
    cases hvv:valB v with
    | false =>
     have HN:=ħ (quoE_bad hend.o hvv)
     clear hvv
     go_wp2
     go_ret3
     exact⟨HN.o.symm.trans HV.o,rfl⟩
    | true =>
     have HN:=ħ (quoE_yes hend.o hvv)
     clear hvv
     go_wp2
     go_ret3
     exact⟨HN.o.symm.trans HV.o,rfl⟩
   ·have c1:((u:Int) != 34)=true:=by rw[bne_iff_ne];omega
    by_cases h92:u=92
    ·have c2:((u:Int)==92)=true:=by rw[beq_iff_eq];omega
     by_cases hl1:n+1<l.length
     ·have i1:¬ ((l.length:Int)≤(n:Int)+1):=by omega
      have hx1:∀ w,(Instr.index 9 (.string t) (.int .i64 ((n:Int)+1))).run Tryz.prog w = .ok (.int .u8 ((l.getD (n+1) 0:Nat):Int)) w:=HX.o (n+1) hl1
      have hs1:∀ w,(Instr.slice 9 (.string t) (some (.int .i64 ((n:Int)+1))) (some (.int .i64 ((n:Int)+1+1))) none).run Tryz.prog w = .ok (.string (strN [l.getD (n+1) 0])) w:=HS.o (n+1) hl1
      obtain⟨d,hd⟩:∃ v,l.getD (n+1) 0=v:=⟨_,rfl⟩
      rw[hd] at hx1 hs1
      have HD:=ħ hd
      have hdb:=ħ (by rw[← hd];exact HB.o (n+1) hl1:d<256)
      have HA2:=strN_append v [d]
      have z1:¬ 9223372036854775807<(strN v).size+(strN [d]).size:=by rw[strN_size,strN_size];have:=hvl.o;show ¬ _<v.length+1;omega
      clear hd
      have e3:IntKind.i64.wrap ((n:Int)+1+1)=(n:Int)+1+1:=by rw[IntWalk.i64_in _ (by omega)]
      by_cases hdd:d=34∨d=92
      ·have hch:=ħ (hz.o.trans (quoAtR_esc l v n hlt (by rw[HU.o];exact h92) hl1 (by rw[HD.o];exact hdd)))
       clear hs HA
       by_cases hd34:d=34
       ·have f1:((d:Int) != 34)=false:=by rw[hd34];rfl
        clear hdd hd34 h92 h34
        go_wp2
        go_round
        case rel=>exact⟨n+2,v++[d],rfl,rfl,by omega,ħ (by rw[List.length_append];have:=hvl.o;show v.length+1≤n+2;omega),ħ (fun y hy=>by rcases List.mem_append.1 hy with h | h;exact hvb.o y h;rw[List.mem_singleton.1 h];exact hdb.o),ħ (by rw[hch.o,HD.o])⟩
        case measure=>simp only[intOf];omega
       ·have f1:((d:Int) != 34)=true:=by rw[bne_iff_ne];omega
        have f2:((d:Int) != 92)=false:=by rw[show d=92 by omega];rfl
        clear hdd hd34 h92 h34
        go_wp2
        go_round
        case rel=>exact⟨n+2,v++[d],rfl,rfl,by omega,ħ (by rw[List.length_append];have:=hvl.o;show v.length+1≤n+2;omega),ħ (fun y hy=>by rcases List.mem_append.1 hy with h | h;exact hvb.o y h;rw[List.mem_singleton.1 h];exact hdb.o),ħ (by rw[hch.o,HD.o])⟩
        case measure=>simp only[intOf];omega
      ·have f1:((d:Int) != 34)=true:=by rw[bne_iff_ne];omega
       have f2:((d:Int) != 92)=true:=by rw[bne_iff_ne];omega
       have HN:=ħ (quoE_no (hz.o.trans (quoAtR_esc1 l v n hlt (by rw[HU.o];exact h92) hl1 (by rw[HD.o];exact hdd))))
       clear hdd h92 h34
       go_wp2
       (try rw[Exit.noGoto_ret]);go_ret3
       exact⟨HN.o.symm.trans HV.o,rfl⟩
     ·have i1:(l.length:Int)≤(n:Int)+1:=by omega
      have HN:=ħ (quoE_no (hz.o.trans (quoAtR_esc0 l v n hlt (by rw[HU.o];exact h92) hl1)))
      clear h92 h34
      go_wp2
      (try rw[Exit.noGoto_ret]);go_ret3
      exact⟨HN.o.symm.trans HV.o,rfl⟩
    ·have c2:((u:Int)==92)=false:=by rw[beq_eq_false_iff_ne];omega
     have hch:=ħ (hz.o.trans (quoAtR_chr l v n hlt (by rw[HU.o];exact h34) (by rw[HU.o];exact h92)))
     have HA:=HA.o
     have z1:¬ 9223372036854775807<(strN v).size+(strN [u]).size:=by rw[strN_size,strN_size];have:=hvl.o;show ¬ _<v.length+1;omega
     clear h92 h34
     go_wp2
     go_round
     case rel=>exact⟨n+1,v++[u],rfl,rfl,by omega,ħ (by rw[List.length_append];have:=hvl.o;show v.length+1≤n+1;omega),ħ (fun y hy=>by rcases List.mem_append.1 hy with h | h;exact hvb.o y h;rw[List.mem_singleton.1 h];exact hub.o),ħ (by rw[hch.o,HU.o])⟩
     case measure=>simp only[intOf];omega
  ·have ii:¬ ((n:Int)<l.length):=by omega
   have ij:(l.length:Int)≤n:=by omega
   have HN:=ħ (quoE_no (hz.o.trans (quoAtR_end l v n hlt)))
   go_wp2
   (try rw[Exit.noGoto_ret]);go_ret3
   exact⟨HN.o.symm.trans HV.o,rfl⟩
end
section
open Go.RowKit
theorem drop_get {α:Type} (L:List α) (i:Nat) (d:α) (h:i<L.length):L.drop i=L.getD i d::L.drop (i+1):=by
 rw[List.drop_eq_getElem_cons h,List.getD,List.getElem?_eq_getElem h];rfl
theorem long_step {l:List Nat} {i o:Nat} (h:i<sgnsR.length):longS (sgnsR.drop i) o l=longS (sgnsR.drop (i+1)) (if o<(sgnsR.getD i []).length∧(sgnsR.getD i []).isPrefixOf l=true then (sgnsR.getD i []).length else o) l:=by
 rw[drop_get sgnsR i [] h,longS]
theorem part_prefix (l s:List Nat) (a:Nat) (h:a+s.length≤l.length):((l.take (a+s.length)).drop a==s)=s.isPrefixOf (l.drop a):=by
 rw[List.drop_take,show a+s.length-a=s.length by omega]
 exact prefix_take s (l.drop a) (by rw[List.length_drop];omega)
theorem sgn_small:∀ i,i<19→(sgnsR.getD i []).length≤2:=by decide
theorem sgn_byte:∀ i,i<19→∀ y∈sgnsR.getD i [],y<256:=by decide
theorem rsign_any (l:List Nat) (a:Nat) (ha:a<l.length) (w:World) (hl:l.length≤1000000) (hb:∀ y∈l,y<256) :
  Calls Tryz.prog 208 #[.string (strN l),.int .i64 (a:Int)] w fun e w'=>e = .returned (.int .i64 (sgnF (l.drop a):Nat))∧Below w.heap.size w w':=by
 rw[← sgnR_eq]
 have SZ:=ħ (strN_size l)
 have HS:Hid (∀ k:Nat,a+k≤l.length→∀ w,(Instr.slice 9 (.string (strN l)) (some (.int .i64 (a:Int))) (some (.int .i64 ((a:Int)+(k:Int)))) none).run Tryz.prog w = .ok (.string (strN ((l.take (a+k)).drop a))) w):=ħ (fun k hk w=>str_part l a (a+k) (by omega) hk w)
 have HE:Hid (∀ i:Nat,i<19→a+(sgnsR.getD i []).length≤l.length→((strN ((l.take (a+(sgnsR.getD i []).length)).drop a)).toList==(strN (sgnsR.getD i [])).toList)=(sgnsR.getD i []).isPrefixOf (l.drop a)):=ħ (fun i hi hk=>by
  rw[strN_eqL _ _ (fun y hy=>hb y (List.mem_of_mem_take (List.mem_of_mem_drop hy))) (sgn_byte i hi)]
  exact part_prefix l _ a hk)
 have HP:Hid (∀ i:Nat,¬ a+(sgnsR.getD i []).length≤l.length→(sgnsR.getD i []).isPrefixOf (l.drop a)=false):=ħ (fun i hk=>prefix_long _ _ (by rw[List.length_drop];omega))
 have R0:Hid (HasV (w.alloc (.cells #[.string ⟨#[40]⟩,.string ⟨#[41]⟩,.string ⟨#[123]⟩,.string ⟨#[125]⟩,.string ⟨#[44]⟩,.string ⟨#[59]⟩,.string ⟨#[58]⟩,.string ⟨#[46]⟩,.string ⟨#[46,46]⟩,.string ⟨#[61]⟩,.string ⟨#[33,61]⟩,.string ⟨#[60]⟩,.string ⟨#[60,61]⟩,.string ⟨#[62]⟩,.string ⟨#[62,61]⟩,.string ⟨#[43]⟩,.string ⟨#[45]⟩,.string ⟨#[42]⟩,.string ⟨#[47]⟩] 9)) w.heap.size 9 (sgnsR.map (fun s=>.string (strN s)))):=ħ (HasV.new w 9 (sgnsR.map (fun s=>.string (strN s))))
 have B0:=ħ ((Below.refl w.heap.size w).alloc (Nat.le_refl _) (.cells #[.string ⟨#[40]⟩,.string ⟨#[41]⟩,.string ⟨#[123]⟩,.string ⟨#[125]⟩,.string ⟨#[44]⟩,.string ⟨#[59]⟩,.string ⟨#[58]⟩,.string ⟨#[46]⟩,.string ⟨#[46,46]⟩,.string ⟨#[61]⟩,.string ⟨#[33,61]⟩,.string ⟨#[60]⟩,.string ⟨#[60,61]⟩,.string ⟨#[62]⟩,.string ⟨#[62,61]⟩,.string ⟨#[43]⟩,.string ⟨#[45]⟩,.string ⟨#[42]⟩,.string ⟨#[47]⟩] 9))
 clear hb
 generalize strN l=t at *
 unfold sgnR
 obtain⟨V,hV⟩:∃ V,longS sgnsR 0 (l.drop a)=V:=⟨_,rfl⟩
 rw[hV]
 have HV:=ħ hV
 clear hV
 go_enter Tryz.func208,Tryz.ntmps208
 go_wp2_with fail
 generalize w.alloc (.cells #[.string ⟨#[40]⟩,.string ⟨#[41]⟩,.string ⟨#[123]⟩,.string ⟨#[125]⟩,.string ⟨#[44]⟩,.string ⟨#[59]⟩,.string ⟨#[58]⟩,.string ⟨#[46]⟩,.string ⟨#[46,46]⟩,.string ⟨#[61]⟩,.string ⟨#[33,61]⟩,.string ⟨#[60]⟩,.string ⟨#[60,61]⟩,.string ⟨#[62]⟩,.string ⟨#[62,61]⟩,.string ⟨#[43]⟩,.string ⟨#[45]⟩,.string ⟨#[42]⟩,.string ⟨#[47]⟩] 9)=w1 at *
 go_loopw [6,7] (fun x c wr=>∃ (i o:Nat),x = .int .i64 o∧c = .int .i64 i∧i≤19∧o≤2∧Hid (HasV wr w.heap.size 9 (sgnsR.map (fun s=>.string (strN s))))∧Hid (Below w.heap.size w wr)∧Hid (longS (sgnsR.drop i) o (l.drop a)=V)) (fun _ c _=>(19-intOf c).toNat)
 case atStart=>exact⟨0,0,rfl,rfl,by omega,by omega,R0,B0,HV⟩
 case round =>
  obtain⟨i,o,rfl,rfl,hi,ho,hR,hB,hz⟩:=hrel
  have hsz:=SZ.o
  have e2:IntKind.i64.wrap ((i:Int)+1)=((i+1:Nat):Int):=IntWalk.i64_in _ (by omega)
  by_cases hlt:i<19
  ·have ii:(i:Int)<19:=by omega
   have hc:wr.cell? ⟨w.heap.size,i,none⟩=some (.string (strN (sgnsR.getD i []))):=hR.o.cell i _ (by rw[List.getElem?_map,List.getD,List.getElem?_eq_getElem (show i<sgnsR.length from hlt)];rfl)
   have hz2:=ħ ((long_step (l:=l.drop a) (o:=o) (show i<sgnsR.length from hlt)).symm.trans hz.o)
   have hk2:=sgn_small i hlt
   have he:=HE.o i hlt
   have hp:=HP.o i
   have hs:=HS.o (sgnsR.getD i []).length
   have hss:=strN_size (sgnsR.getD i [])
   generalize strN (sgnsR.getD i [])=S at *
   generalize (sgnsR.getD i []).isPrefixOf (l.drop a)=q at *
   generalize (sgnsR.getD i []).length=k at *
   have e3:IntKind.i64.wrap ((a:Int)+k)=(a:Int)+k:=IntWalk.i64_in _ (by omega)
   by_cases h1:o<k
   ·have d1:((o:Int)<k):=by omega
    have d1b:decide ((o:Int)<k)=true:=decide_eq_true d1
    by_cases h2:a+k≤l.length
    ·have d2:(a:Int)+k≤l.length:=by omega
     have hs2:=hs h2
     have he2:=he h2
     generalize strN ((l.take (a+k)).drop a)=X at *
     cases q with
     | true =>
      have hz3:Hid (longS (sgnsR.drop (i+1)) k (l.drop a)=V):=ħ (by have:=hz2.o;rwa [if_pos ⟨h1,rfl⟩] at this)
      clear hs he hp h1 h2 hz hz2
      go_wp2_with fail
      go_quiet (fail)
      have hB2:=ħ (below_drewN hB.o nq)
      have hR2:=ħ (hR.o.step (below_drewN (Below.refl _ wr) nq))
      clear hB hR hc
      generalize wr.drewN nq=wd at *
      go_wp2
      go_roundw
      case rel=>exact⟨i+1,k,rfl,rfl,by omega,by omega,hR2,hB2,hz3⟩
      case measure=>simp only[intOf];omega
     | false =>
      have hz3:Hid (longS (sgnsR.drop (i+1)) o (l.drop a)=V):=ħ (by have:=hz2.o;rwa [if_neg (by simp)] at this)
      clear hs he hp h1 h2 hz hz2
      go_wp2_with fail
      go_quiet (fail)
      have hB2:=ħ (below_drewN hB.o nq)
      have hR2:=ħ (hR.o.step (below_drewN (Below.refl _ wr) nq))
      clear hB hR hc
      generalize wr.drewN nq=wd at *
      go_wp2
      go_roundw
      case rel=>exact⟨i+1,o,rfl,rfl,by omega,by omega,hR2,hB2,hz3⟩
      case measure=>simp only[intOf];omega
    ·have d2:¬ ((a:Int)+k≤l.length):=by omega
     have d2b:decide ((a:Int)+k≤l.length)=false:=decide_eq_false d2
     have hq:=hp h2
     have hz3:Hid (longS (sgnsR.drop (i+1)) o (l.drop a)=V):=ħ (by have:=hz2.o;rwa [if_neg (by rw[hq];simp)] at this)
     clear hs he hp h1 h2 hq hz hz2
     go_wp2_with fail
     go_quiet (fail)
     have hB2:=ħ (below_drewN hB.o nq)
     have hR2:=ħ (hR.o.step (below_drewN (Below.refl _ wr) nq))
     clear hB hR hc
     generalize wr.drewN nq=wd at *
     go_wp2
     go_roundw
     case rel=>exact⟨i+1,o,rfl,rfl,by omega,by omega,hR2,hB2,hz3⟩
     case measure=>simp only[intOf];omega
   ·have d1:¬ ((o:Int)<k):=by omega
    have d1b:decide ((o:Int)<k)=false:=decide_eq_false d1
    have d1n:decide (o<k)=false:=decide_eq_false h1
    have hz3:Hid (longS (sgnsR.drop (i+1)) o (l.drop a)=V):=ħ (by have:=hz2.o;rwa [if_neg (fun h=>h1 h.1)] at this)
    clear hs he hp h1 hz hz2
    go_wp2_with fail
    go_quiet (fail)
    have hB2:=ħ (below_drewN hB.o nq)
    have hR2:=ħ (hR.o.step (below_drewN (Below.refl _ wr) nq))
    clear hB hR hc
    generalize wr.drewN nq=wd at *
    go_wp2
    go_roundw
    case rel=>exact⟨i+1,o,rfl,rfl,by omega,by omega,hR2,hB2,hz3⟩
    case measure=>simp only[intOf];omega
  ·obtain rfl:i=19:=by omega
   go_wp2
   go_ret
   exact⟨by rw[← hz.o];rfl,hB.o⟩
end
section
open Go.RowKit
def tokV (a:Nat) (r:Except Int (Tok×Nat)):Value:=match r with
 | .ok r=>.tuple #[.agg (tokC { r.1 with p:=a }).toArray,.int .i64 ((a+r.2:Nat):Int),.int .i64 0]
 | .error e=>.tuple #[.agg (tokC tok0).toArray,.int .i64 0,.int .i64 e]
theorem tok_bad {a:Nat} {r:Except Int (Tok×Nat)} {V:Value} {x:Int} (hV:tokV a r=V) (h:r = .error x):Ending.returned (.tuple #[.agg (tokC tok0).toArray,.int .i64 0,.int .i64 x]) = .returned V:=by
 rw[← hV,h];rfl
theorem tok_good {a n m k:Nat} {r:Except Int (Tok×Nat)} {V:Value} {κ:Int} {t:List Nat} (hV:tokV a r=V) (h:r = .ok (⟨κ,t,k,0⟩,m)) (hn:n=a+m):Ending.returned (.tuple #[.agg (tokC ⟨κ,t,k,a⟩).toArray,.int .i64 (n:Int),.int .i64 0]) = .returned V:=by
 rw[← hV,h,hn];rfl
theorem drop_getD (l:List Nat) (a j:Nat):(l.drop a).getD j 0=l.getD (a+j) 0:=by
 rw[List.getD,List.getD,List.getElem?_drop]
theorem run_part {p:Nat→Bool} {l:List Nat} {a n:Nat} (h1:a≤n) (hn:n≤l.length) (hy:∀ j,a≤j→j<n→p (l.getD j 0)=true) (hs:n<l.length→p (l.getD n 0)=false):runN p (l.drop a)=n-a:=by
 refine (runN_eq p (l.drop a) (n-a) (by rw[List.length_drop];omega) (fun i hi=>?_) (fun hi=>?_)).symm
 ·rw[drop_getD];exact hy _ (by omega) (by omega)
 ·rw[List.length_drop] at hi
  rw[drop_getD,show a+(n-a)=n by omega];exact hs (by omega)
theorem run_take {l:List Nat} {a n:Nat} (h1:a≤n):(l.drop a).take (n-a)=(l.take n).drop a:=by rw[List.drop_take]
theorem nx_name {l:List Nat} {a n:Nat} (h1:a<n) (hn:n≤l.length) (hl:letB (l.getD a 0)=true) (hy:∀ j,a≤j→j<n→innB (l.getD j 0)=true) (hs:n<l.length→innB (l.getD n 0)=false) :
  nextF (l.drop a)=if nameB ((l.take n).drop a)=true then .ok (⟨0,(l.take n).drop a,0,0⟩,n-a) else .error 3:=by
 rw[nextF_name (by rw[drop_getD];exact hl),run_part (by omega) hn hy hs,run_take (by omega)]
theorem nx_num {l:List Nat} {a n:Nat} (h1:a<n) (hn:n≤l.length) (h0:letB (l.getD a 0)=false) (hl:digB (l.getD a 0)=true) (hy:∀ j,a≤j→j<n→digB (l.getD j 0)=true) (hs:n<l.length→digB (l.getD n 0)=false) :
  nextF (l.drop a)=if numOk ((l.take n).drop a)=true then .ok (⟨1,(l.take n).drop a,numV ((l.take n).drop a),0⟩,n-a) else .error 3:=by
 rw[nextF_num (by rw[drop_getD];exact h0) (by rw[drop_getD];exact hl),run_part (by omega) hn hy hs,run_take (by omega)]
theorem runs_on {p:Nat→Bool} {l:List Nat} {a n:Nat} (h:∀ j,a≤j→j<n→p (l.getD j 0)=true) (hn:p (l.getD n 0)=true):∀ j,a≤j→j<n+1→p (l.getD j 0)=true:=by
 intro j h1 h2
 by_cases hj:j<n
 ·exact h j h1 hj
 ·rw[show j=n by omega];exact hn
theorem inn_of {c:Nat} (h:letB c=true∨digB c=true∨c=95):innB c=true:=by
 unfold innB
 rcases h with h | h | h
 ·rw[h];rfl
 ·rw[h];simp
 ·subst h;rfl
theorem inn_not {c:Nat} (h:letB c=false) (h1:digB c=false) (h2:¬ c=95):innB c=false:=by
 unfold innB;rw[h,h1];simpa using h2
theorem rtok_name (l:List Nat) (a:Nat) (ha:a<l.length) (w:World) (hl:l.length≤1000000) (hb:∀ y∈l,y<256) (hlet:letB (l.getD a 0)=true) :
  Calls Tryz.prog 141 #[.string (strN l),.int .i64 (a:Int)] w fun e w'=>e = .returned (tokV a (nextF (l.drop a)))∧Below w.heap.size w w':=by
 obtain⟨V,hV⟩:∃ V,tokV a (nextF (l.drop a))=V:=⟨_,rfl⟩
 rw[hV]
 have HV:=ħ hV
 clear hV
 have SZ:=ħ (strN_size l)
 have HX:Hid (∀ i:Nat,i<l.length→∀ w,(Instr.index 9 (.string (strN l)) (.int .i64 (i:Int))).run Tryz.prog w = .ok (.int .u8 ((l.getD i 0:Nat):Int)) w):=ħ (fun i hi w=>str_at l i hi hb w)
 have HP:Hid (∀ n:Nat,a<n→n≤l.length→∀ w,(Instr.slice 9 (.string (strN l)) (some (.int .i64 (a:Int))) (some (.int .i64 (n:Int))) none).run Tryz.prog w = .ok (.string (strN ((l.take n).drop a))) w):=ħ (fun n h1 hn w=>str_part l a n (by omega) hn w)
 have HNB:=ħ (fun (n:Nat) (w:World)=>rname_any ((l.take n).drop a) w (by rw[List.length_drop,List.length_take];omega) (fun y hy=>hb y (List.mem_of_mem_take (List.mem_of_mem_drop hy))))
 have Z0:Hid (HasT (w.alloc (.cells #[.int .i64 0,.string ⟨#[]⟩,.int .i64 0,.int .i64 0] 169)) w.heap.size tok0):=ħ (HasT.new w tok0)
 have B0:=ħ ((Below.refl w.heap.size w).alloc (Nat.le_refl _) (.cells #[.int .i64 0,.string ⟨#[]⟩,.int .i64 0,.int .i64 0] 169))
 have e0:IntKind.i64.wrap ((a:Int)+1)=(a:Int)+1:=IntWalk.i64_in _ (by omega)
 have HL:=ħ hlet
 clear hlet hb
 have hx:=HX.o a ha
 obtain⟨v,hv⟩:∃ v,l.getD a 0=v:=⟨_,rfl⟩
 rw[hv] at hx
 have HVV:=ħ hv
 clear hv
 generalize strN l=t at *
 go_enter Tryz.func141,Tryz.ntmps141
 go_wp2_with fail
 refine (rletter_any v _).mono ?_
 rintro e w1 ⟨rfl,rfl⟩
 rw[show letB v=true by rw[← HVV.o];exact HL.o]
 go_wp2_with fail
 generalize w.alloc (.cells #[.int .i64 0,.string ⟨#[]⟩,.int .i64 0,.int .i64 0] 169)=w0 at *
 clear hx
 go_loop [7] (fun c=>∃ n:Nat,c = .int .i64 n∧a<n∧n≤l.length∧Hid (∀ j,a≤j→j<n→innB (l.getD j 0)=true)) (fun c=>(l.length-intOf c).toNat)
 case atStart=>exact⟨a+1,rfl,by omega,by omega,ħ (fun j h1 h2=>by rw[show j=a by omega];exact inn_of (.inl HL.o))⟩
 case round =>
  obtain⟨n,rfl,han,hn,hy⟩:=hrel
  have hsz:=SZ.o
  have e2:IntKind.i64.wrap ((n:Int)+1)=((n+1:Nat):Int):=IntWalk.i64_in _ (by omega)
  by_cases hlt:n<l.length
  ·have ii:(n:Int)<l.length:=by omega
   have hx:=HX.o n hlt
   obtain⟨c,hc⟩:∃ c,l.getD n 0=c:=⟨_,rfl⟩
   rw[hc] at hx
   have HC:=ħ hc
   clear hc
   go_wp2_with fail
   refine (rletter_any c _).mono ?_
   rintro e w1 ⟨rfl,rfl⟩
   cases hq1:letB c with
   | true =>
    have hy2:=ħ (runs_on hy.o (by rw[HC.o];exact inn_of (.inl hq1)))
    clear hq1
    go_wp2
    go_round
    case rel=>exact⟨n+1,rfl,by omega,by omega,hy2⟩
    case measure=>simp[intOf];omega
   | false =>
    go_wp2_with fail
    refine (rdigit_any c _).mono ?_
    rintro e w1 ⟨rfl,rfl⟩
    cases hq2:digB c with
    | true =>
     have hy2:=ħ (runs_on hy.o (by rw[HC.o];exact inn_of (.inr (.inl hq2))))
     clear hq1 hq2
     go_wp2
     go_round
     case rel=>exact⟨n+1,rfl,by omega,by omega,hy2⟩
     case measure=>simp[intOf];omega
    | false =>
     by_cases h95:c=95
     ·have hy2:=ħ (runs_on hy.o (by rw[HC.o];exact inn_of (.inr (.inr h95))))
      have c1:((c:Int)==95)=true:=by rw[h95];rfl
      clear hq1 hq2 h95
      go_wp2
      go_round
      case rel=>exact⟨n+1,rfl,by omega,by omega,hy2⟩
      case measure=>simp[intOf];omega
     ·have hnx:=nx_name han hn HL.o hy.o (fun _=>by rw[HC.o];exact inn_not hq1 hq2 h95)
      have c1:((c:Int)==95)=false:=by rw[beq_eq_false_iff_ne];omega
      clear hq1 hq2 h95
      have hpt:=HP.o n han hn
      have hnb:=HNB.o n
      obtain⟨U,hU⟩:∃ U,(l.take n).drop a=U:=⟨_,rfl⟩
      rw[hU] at hpt hnb hnx
      have HNX:=ħ hnx
      clear hnx
      go_wp2_with fail
      refine (hnb _).mono ?_
      rintro e w1 ⟨rfl,rfl⟩
      cases hq:nameB U with
      | false =>
       go_wp2_with (refine wpList_store_abs rfl 169 (.tmp 4) (.tmp 50) rfl w.heap.size (tokC tok0).toArray ?s1 ?s2 169 _ Z0.o (inf_tok _) rfl (tok_one _) ?_;(case s1=>rfl);(case s2=>rfl);intro W2 s2 u2;have S2:=ħ s2;have C2:=ħ (u2.below B0.o (Nat.le_refl _));clear s2 u2)
       exact bodyPost_ret (results_cell_tmp2_row (p:=4) (u:=5) (v:=6) (by kernel_rfl) _ _ w.heap.size 169 (tokC tok0).toArray (0,0) _ rfl S2.o Tryz.underlying169 rfl (inf_tok _)) rfl ⟨tok_bad HV.o (by rw[HNX.o,if_neg (by rw[hq];simp)]),C2.o⟩
      | true =>
       go_wp2_with (refine wpList_store_abs rfl 169 (.tmp 4) (.tmp 56) rfl w.heap.size (tokC ⟨0,U,0,a⟩).toArray ?s1 ?s2 169 _ Z0.o (inf_tok _) rfl (tok_one _) ?_;(case s1=>rfl);(case s2=>rfl);intro W2 s2 u2;have S2:=ħ s2;have C2:=ħ (u2.below B0.o (Nat.le_refl _));clear s2 u2)
       exact bodyPost_ret (results_cell_tmp2_row (p:=4) (u:=5) (v:=6) (by kernel_rfl) _ _ w.heap.size 169 (tokC ⟨0,U,0,a⟩).toArray (0,0) _ rfl S2.o Tryz.underlying169 rfl (inf_tok _)) rfl ⟨tok_good HV.o (by rw[HNX.o,if_pos hq]) (by omega),C2.o⟩
  ·have ii:¬ ((n:Int)<l.length):=by omega
   have hnx:=nx_name han hn HL.o hy.o (fun h=>absurd h hlt)
   have hpt:=HP.o n han hn
   have hnb:=HNB.o n
   obtain⟨U,hU⟩:∃ U,(l.take n).drop a=U:=⟨_,rfl⟩
   rw[hU] at hpt hnb hnx
   have HNX:=ħ hnx
   clear hnx
   go_wp2_with fail
   refine (hnb _).mono ?_
   rintro e w1 ⟨rfl,rfl⟩
   cases hq:nameB U with
   | false =>
    go_wp2_with (refine wpList_store_abs rfl 169 (.tmp 4) (.tmp 50) rfl w.heap.size (tokC tok0).toArray ?s1 ?s2 169 _ Z0.o (inf_tok _) rfl (tok_one _) ?_;(case s1=>rfl);(case s2=>rfl);intro W2 s2 u2;have S2:=ħ s2;have C2:=ħ (u2.below B0.o (Nat.le_refl _));clear s2 u2)
    exact bodyPost_ret (results_cell_tmp2_row (p:=4) (u:=5) (v:=6) (by kernel_rfl) _ _ w.heap.size 169 (tokC tok0).toArray (0,0) _ rfl S2.o Tryz.underlying169 rfl (inf_tok _)) rfl ⟨tok_bad HV.o (by rw[HNX.o,if_neg (by rw[hq];simp)]),C2.o⟩
   | true =>
    go_wp2_with (refine wpList_store_abs rfl 169 (.tmp 4) (.tmp 56) rfl w.heap.size (tokC ⟨0,U,0,a⟩).toArray ?s1 ?s2 169 _ Z0.o (inf_tok _) rfl (tok_one _) ?_;(case s1=>rfl);(case s2=>rfl);intro W2 s2 u2;have S2:=ħ s2;have C2:=ħ (u2.below B0.o (Nat.le_refl _));clear s2 u2)
    exact bodyPost_ret (results_cell_tmp2_row (p:=4) (u:=5) (v:=6) (by kernel_rfl) _ _ w.heap.size 169 (tokC ⟨0,U,0,a⟩).toArray (0,0) _ rfl S2.o Tryz.underlying169 rfl (inf_tok _)) rfl ⟨tok_good HV.o (by rw[HNX.o,if_pos hq]) (by omega),C2.o⟩
theorem rtok_num (l:List Nat) (a:Nat) (ha:a<l.length) (w:World) (hl:l.length≤1000000) (hb:∀ y∈l,y<256) (hnl:letB (l.getD a 0)=false) (hlet:digB (l.getD a 0)=true) :
  Calls Tryz.prog 141 #[.string (strN l),.int .i64 (a:Int)] w fun e w'=>e = .returned (tokV a (nextF (l.drop a)))∧Below w.heap.size w w':=by
 obtain⟨V,hV⟩:∃ V,tokV a (nextF (l.drop a))=V:=⟨_,rfl⟩
 rw[hV]
 have HV:=ħ hV
 clear hV
 have SZ:=ħ (strN_size l)
 have HX:Hid (∀ i:Nat,i<l.length→∀ w,(Instr.index 9 (.string (strN l)) (.int .i64 (i:Int))).run Tryz.prog w = .ok (.int .u8 ((l.getD i 0:Nat):Int)) w):=ħ (fun i hi w=>str_at l i hi hb w)
 have HP:Hid (∀ n:Nat,a<n→n≤l.length→∀ w,(Instr.slice 9 (.string (strN l)) (some (.int .i64 (a:Int))) (some (.int .i64 (n:Int))) none).run Tryz.prog w = .ok (.string (strN ((l.take n).drop a))) w):=ħ (fun n h1 hn w=>str_part l a n (by omega) hn w)
 have HNB:=ħ (fun (n:Nat) (w:World)=>rnumber_any ((l.take n).drop a) w (by rw[List.length_drop,List.length_take];omega) (fun y hy=>hb y (List.mem_of_mem_take (List.mem_of_mem_drop hy))))
 have Z0:Hid (HasT (w.alloc (.cells #[.int .i64 0,.string ⟨#[]⟩,.int .i64 0,.int .i64 0] 169)) w.heap.size tok0):=ħ (HasT.new w tok0)
 have B0:=ħ ((Below.refl w.heap.size w).alloc (Nat.le_refl _) (.cells #[.int .i64 0,.string ⟨#[]⟩,.int .i64 0,.int .i64 0] 169))
 have e0:IntKind.i64.wrap ((a:Int)+1)=(a:Int)+1:=IntWalk.i64_in _ (by omega)
 have HL:=ħ hlet
 have HNL:=ħ hnl
 clear hlet hnl hb
 have hx:=HX.o a ha
 obtain⟨v,hv⟩:∃ v,l.getD a 0=v:=⟨_,rfl⟩
 rw[hv] at hx
 have HVV:=ħ hv
 clear hv
 generalize strN l=t at *
 go_enter Tryz.func141,Tryz.ntmps141
 go_wp2_with fail
 refine (rletter_any v _).mono ?_
 rintro e w1 ⟨rfl,rfl⟩
 rw[show letB v=false by rw[← HVV.o];exact HNL.o]
 go_wp2_with fail
 refine (rdigit_any v _).mono ?_
 rintro e w1 ⟨rfl,rfl⟩
 rw[show digB v=true by rw[← HVV.o];exact HL.o]
 go_wp2_with fail
 generalize w.alloc (.cells #[.int .i64 0,.string ⟨#[]⟩,.int .i64 0,.int .i64 0] 169)=w0 at *
 clear hx
 go_loop [7] (fun c=>∃ n:Nat,c = .int .i64 n∧a<n∧n≤l.length∧Hid (∀ j,a≤j→j<n→digB (l.getD j 0)=true)) (fun c=>(l.length-intOf c).toNat)
 case atStart=>exact⟨a+1,rfl,by omega,by omega,ħ (fun j h1 h2=>by rw[show j=a by omega];exact HL.o)⟩
 case round =>
  obtain⟨n,rfl,han,hn,hy⟩:=hrel
  have hsz:=SZ.o
  have e2:IntKind.i64.wrap ((n:Int)+1)=((n+1:Nat):Int):=IntWalk.i64_in _ (by omega)
  by_cases hlt:n<l.length
  ·have ii:(n:Int)<l.length:=by omega
   have hx:=HX.o n hlt
   obtain⟨c,hc⟩:∃ c,l.getD n 0=c:=⟨_,rfl⟩
   rw[hc] at hx
   have HC:=ħ hc
   clear hc
   go_wp2_with fail
   refine (rdigit_any c _).mono ?_
   rintro e w1 ⟨rfl,rfl⟩
   cases hq2:digB c with
   | true =>
    have hy2:=ħ (runs_on hy.o (by rw[HC.o];exact hq2))
    clear hq2
    go_wp2
    go_round
    case rel=>exact⟨n+1,rfl,by omega,by omega,hy2⟩
    case measure=>simp[intOf];omega
   | false =>
    have hnx:=nx_num han hn HNL.o HL.o hy.o (fun _=>by rw[HC.o];exact hq2)
    clear hq2
    have hpt:=HP.o n han hn
    have hnb:=HNB.o n
    obtain⟨U,hU⟩:∃ U,(l.take n).drop a=U:=⟨_,rfl⟩
    rw[hU] at hpt hnb hnx
    have HNX:=ħ hnx
    clear hnx
    go_wp2_with fail
    refine (hnb _).mono ?_
    rintro e w1 ⟨rfl,rfl⟩
    cases hq:numOk U with
    | false =>
     go_wp2_with (refine wpList_store_abs rfl 169 (.tmp 4) (.tmp 84) rfl w.heap.size (tokC tok0).toArray ?s1 ?s2 169 _ Z0.o (inf_tok _) rfl (tok_one _) ?_;(case s1=>rfl);(case s2=>rfl);intro W2 s2 u2;have S2:=ħ s2;have C2:=ħ (u2.below B0.o (Nat.le_refl _));clear s2 u2)
     exact bodyPost_ret (results_cell_tmp2_row (p:=4) (u:=5) (v:=6) (by kernel_rfl) _ _ w.heap.size 169 (tokC tok0).toArray (0,0) _ rfl S2.o Tryz.underlying169 rfl (inf_tok _)) rfl ⟨tok_bad HV.o (by rw[HNX.o,if_neg (by rw[hq];simp)]),C2.o⟩
    | true =>
     have hnf:numF U=numV U:=by unfold numF;rw[hq];rfl
     rw[hnf]
     go_wp2_with (refine wpList_store_abs rfl 169 (.tmp 4) (.tmp 91) rfl w.heap.size (tokC ⟨1,U,numV U,a⟩).toArray ?s1 ?s2 169 _ Z0.o (inf_tok _) rfl (tok_one _) ?_;(case s1=>rfl);(case s2=>rfl);intro W2 s2 u2;have S2:=ħ s2;have C2:=ħ (u2.below B0.o (Nat.le_refl _));clear s2 u2)
     exact bodyPost_ret (results_cell_tmp2_row (p:=4) (u:=5) (v:=6) (by kernel_rfl) _ _ w.heap.size 169 (tokC ⟨1,U,numV U,a⟩).toArray (0,0) _ rfl S2.o Tryz.underlying169 rfl (inf_tok _)) rfl ⟨tok_good HV.o (by rw[HNX.o,if_pos hq]) (by omega),C2.o⟩
  ·have ii:¬ ((n:Int)<l.length):=by omega
   have hnx:=nx_num han hn HNL.o HL.o hy.o (fun h=>absurd h hlt)
   have hpt:=HP.o n han hn
   have hnb:=HNB.o n
   obtain⟨U,hU⟩:∃ U,(l.take n).drop a=U:=⟨_,rfl⟩
   rw[hU] at hpt hnb hnx
   have HNX:=ħ hnx
   clear hnx
   go_wp2_with fail
   refine (hnb _).mono ?_
   rintro e w1 ⟨rfl,rfl⟩
   cases hq:numOk U with
   | false =>
    go_wp2_with (refine wpList_store_abs rfl 169 (.tmp 4) (.tmp 84) rfl w.heap.size (tokC tok0).toArray ?s1 ?s2 169 _ Z0.o (inf_tok _) rfl (tok_one _) ?_;(case s1=>rfl);(case s2=>rfl);intro W2 s2 u2;have S2:=ħ s2;have C2:=ħ (u2.below B0.o (Nat.le_refl _));clear s2 u2)
    exact bodyPost_ret (results_cell_tmp2_row (p:=4) (u:=5) (v:=6) (by kernel_rfl) _ _ w.heap.size 169 (tokC tok0).toArray (0,0) _ rfl S2.o Tryz.underlying169 rfl (inf_tok _)) rfl ⟨tok_bad HV.o (by rw[HNX.o,if_neg (by rw[hq];simp)]),C2.o⟩
   | true =>
    have hnf:numF U=numV U:=by unfold numF;rw[hq];rfl
    rw[hnf]
    go_wp2_with (refine wpList_store_abs rfl 169 (.tmp 4) (.tmp 91) rfl w.heap.size (tokC ⟨1,U,numV U,a⟩).toArray ?s1 ?s2 169 _ Z0.o (inf_tok _) rfl (tok_one _) ?_;(case s1=>rfl);(case s2=>rfl);intro W2 s2 u2;have S2:=ħ s2;have C2:=ħ (u2.below B0.o (Nat.le_refl _));clear s2 u2)
    exact bodyPost_ret (results_cell_tmp2_row (p:=4) (u:=5) (v:=6) (by kernel_rfl) _ _ w.heap.size 169 (tokC ⟨1,U,numV U,a⟩).toArray (0,0) _ rfl S2.o Tryz.underlying169 rfl (inf_tok _)) rfl ⟨tok_good HV.o (by rw[HNX.o,if_pos hq]) (by omega),C2.o⟩
end
section
open Go.RowKit
theorem quoS_quoP (l:List Nat) (a:Nat):quoS l a=(quoP (l.drop a)).map (fun r=>(r.1,a+r.2)):=by
 rw[quoS_eq]
 unfold quoP
 rw[List.tail_drop]
 cases quoF (l.drop (a+1)) with
 | none=>rfl
 | some r =>
  simp only[Option.bind_some]
  by_cases h:r.1.length≤400
  ·rw[if_pos h,if_pos h];simp only[Option.map_some,Option.some.injEq,Prod.mk.injEq,true_and];omega
  ·rw[if_neg h,if_neg h];rfl
theorem nx_str_no {l:List Nat} {a:Nat} (h0:letB (l.getD a 0)=false) (h1:digB (l.getD a 0)=false) (h2:l.getD a 0=34) (h:quoS l a=none):nextF (l.drop a) = .error 2:=by
 rw[nextF_str (by rw[drop_getD];exact h0) (by rw[drop_getD];exact h1) (by rw[drop_getD];exact h2)]
 rw[quoS_quoP] at h
 rw[Option.map_eq_none_iff.1 h]
theorem nx_str {l:List Nat} {a:Nat} {r:List Nat×Nat} (h0:letB (l.getD a 0)=false) (h1:digB (l.getD a 0)=false) (h2:l.getD a 0=34) (h:quoS l a=some r):∃ m,nextF (l.drop a) = .ok (⟨2,r.1,0,0⟩,m)∧r.2=a+m:=by
 rw[nextF_str (by rw[drop_getD];exact h0) (by rw[drop_getD];exact h1) (by rw[drop_getD];exact h2)]
 rw[quoS_quoP] at h
 cases hq:quoP (l.drop a) with
 | none=>rw[hq] at h;cases h
 | some s =>
  rw[hq] at h
  cases h
  exact⟨s.2,rfl,rfl⟩
theorem nx_sgn {l:List Nat} {a:Nat} (h0:letB (l.getD a 0)=false) (h1:digB (l.getD a 0)=false) (h2:l.getD a 0≠34) :
  nextF (l.drop a)=if sgnF (l.drop a)=0 then .error 10 else .ok (⟨3,(l.take (a+sgnF (l.drop a))).drop a,0,0⟩,sgnF (l.drop a)):=by
 rw[nextF_sgn (by rw[drop_getD];exact h0) (by rw[drop_getD];exact h1) (by rw[drop_getD];exact h2)]
 rw[← run_take (l:=l) (a:=a) (n:=a+sgnF (l.drop a)) (by omega),Nat.add_sub_cancel_left]
theorem rtok_str (l:List Nat) (a:Nat) (ha:a<l.length) (w:World) (hl:l.length≤1000000) (hb:∀ y∈l,y<256) (hlet:letB (l.getD a 0)=false) (hdig:digB (l.getD a 0)=false) (h34:l.getD a 0=34) :
  Calls Tryz.prog 141 #[.string (strN l),.int .i64 (a:Int)] w fun e w'=>e = .returned (tokV a (nextF (l.drop a)))∧Below w.heap.size w w':=by
 obtain⟨V,hV⟩:∃ V,tokV a (nextF (l.drop a))=V:=⟨_,rfl⟩
 rw[hV]
 have HV:=ħ hV
 clear hV
 have HP2:Hid (∀ n:Nat,a≤n→n≤l.length→∀ w,(Instr.slice 9 (.string (strN l)) (some (.int .i64 (a:Int))) (some (.int .i64 (n:Int))) none).run Tryz.prog w = .ok (.string (strN ((l.take n).drop a))) w):=ħ (fun n h1 hn w=>str_part l a n h1 hn w)
 have SZ:=ħ (strN_size l)
 have HX:Hid (∀ i:Nat,i<l.length→∀ w,(Instr.index 9 (.string (strN l)) (.int .i64 (i:Int))).run Tryz.prog w = .ok (.int .u8 ((l.getD i 0:Nat):Int)) w):=ħ (fun i hi w=>str_at l i hi hb w)
 have HP:Hid (∀ n:Nat,a<n→n≤l.length→∀ w,(Instr.slice 9 (.string (strN l)) (some (.int .i64 (a:Int))) (some (.int .i64 (n:Int))) none).run Tryz.prog w = .ok (.string (strN ((l.take n).drop a))) w):=ħ (fun n h1 hn w=>str_part l a n (by omega) hn w)
 have Z0:Hid (HasT (w.alloc (.cells #[.int .i64 0,.string ⟨#[]⟩,.int .i64 0,.int .i64 0] 169)) w.heap.size tok0):=ħ (HasT.new w tok0)
 have B0:=ħ ((Below.refl w.heap.size w).alloc (Nat.le_refl _) (.cells #[.int .i64 0,.string ⟨#[]⟩,.int .i64 0,.int .i64 0] 169))
 have e0:IntKind.i64.wrap ((a:Int)+1)=(a:Int)+1:=IntWalk.i64_in _ (by omega)
 have HQ:=ħ (fun (w:World)=>rquoted_any l a ha w hl hb)
 have HL:=ħ hlet
 have HD:=ħ hdig
 have H34:=ħ h34
 clear hlet hdig h34 hb
 have hx:=HX.o a ha
 obtain⟨v,hv⟩:∃ v,l.getD a 0=v:=⟨_,rfl⟩
 rw[hv] at hx
 have HVV:=ħ hv
 clear hv
 generalize strN l=t at *
 go_enter Tryz.func141,Tryz.ntmps141
 go_wp2_with fail
 refine (rletter_any v _).mono ?_
 rintro e w1 ⟨rfl,rfl⟩
 rw[show letB v=false by rw[← HVV.o];exact HL.o]
 go_wp2_with fail
 refine (rdigit_any v _).mono ?_
 rintro e w1 ⟨rfl,rfl⟩
 rw[show digB v=false by rw[← HVV.o];exact HD.o]
 have c1:((v:Int)==34)=true:=by rw[← HVV.o,H34.o];rfl
 go_wp2_with fail
 refine (HQ.o _).mono ?_
 rintro e w1 ⟨rfl,rfl⟩
 cases hq:quoS l a with
 | none =>
  have hnx:=ħ (nx_str_no HL.o HD.o H34.o hq)
  unfold quoE
  rw[hq]
  go_wp2_with (refine wpList_store_abs rfl 169 (.tmp 4) (.tmp 106) rfl w.heap.size (tokC tok0).toArray ?s1 ?s2 169 _ Z0.o (inf_tok _) rfl (tok_one _) ?_;(case s1=>rfl);(case s2=>rfl);intro W2 s2 u2;have S2:=ħ s2;have C2:=ħ (u2.below B0.o (Nat.le_refl _));clear s2 u2)
  exact bodyPost_ret (results_cell_tmp2_row (p:=4) (u:=5) (v:=6) (by kernel_rfl) _ _ w.heap.size 169 (tokC tok0).toArray (0,0) _ rfl S2.o Tryz.underlying169 rfl (inf_tok _)) rfl ⟨tok_bad HV.o hnx.o,C2.o⟩
 | some r =>
  obtain⟨m,hm,hr⟩:=nx_str HL.o HD.o H34.o hq
  unfold quoE
  rw[hq]
  clear hq
  obtain⟨U,n⟩:=r
  simp only at hm hr
  have hnx:=ħ hm
  have HN:=ħ hr
  clear hm hr
  go_wp2_with (refine wpList_store_abs rfl 169 (.tmp 4) (.tmp 109) rfl w.heap.size (tokC ⟨2,U,0,a⟩).toArray ?s1 ?s2 169 _ Z0.o (inf_tok _) rfl (tok_one _) ?_;(case s1=>rfl);(case s2=>rfl);intro W2 s2 u2;have S2:=ħ s2;have C2:=ħ (u2.below B0.o (Nat.le_refl _));clear s2 u2)
  exact bodyPost_ret (results_cell_tmp2_row (p:=4) (u:=5) (v:=6) (by kernel_rfl) _ _ w.heap.size 169 (tokC ⟨2,U,0,a⟩).toArray (0,0) _ rfl S2.o Tryz.underlying169 rfl (inf_tok _)) rfl ⟨tok_good HV.o hnx.o HN.o,C2.o⟩
theorem rtok_sgn (l:List Nat) (a:Nat) (ha:a<l.length) (w:World) (hl:l.length≤1000000) (hb:∀ y∈l,y<256) (hlet:letB (l.getD a 0)=false) (hdig:digB (l.getD a 0)=false) (h34:l.getD a 0≠34) :
  Calls Tryz.prog 141 #[.string (strN l),.int .i64 (a:Int)] w fun e w'=>e = .returned (tokV a (nextF (l.drop a)))∧Below w.heap.size w w':=by
 obtain⟨V,hV⟩:∃ V,tokV a (nextF (l.drop a))=V:=⟨_,rfl⟩
 rw[hV]
 have HV:=ħ hV
 clear hV
 have HP2:Hid (∀ n:Nat,a≤n→n≤l.length→∀ w,(Instr.slice 9 (.string (strN l)) (some (.int .i64 (a:Int))) (some (.int .i64 (n:Int))) none).run Tryz.prog w = .ok (.string (strN ((l.take n).drop a))) w):=ħ (fun n h1 hn w=>str_part l a n h1 hn w)
 have SZ:=ħ (strN_size l)
 have HX:Hid (∀ i:Nat,i<l.length→∀ w,(Instr.index 9 (.string (strN l)) (.int .i64 (i:Int))).run Tryz.prog w = .ok (.int .u8 ((l.getD i 0:Nat):Int)) w):=ħ (fun i hi w=>str_at l i hi hb w)
 have HP:Hid (∀ n:Nat,a<n→n≤l.length→∀ w,(Instr.slice 9 (.string (strN l)) (some (.int .i64 (a:Int))) (some (.int .i64 (n:Int))) none).run Tryz.prog w = .ok (.string (strN ((l.take n).drop a))) w):=ħ (fun n h1 hn w=>str_part l a n (by omega) hn w)
 have Z0:Hid (HasT (w.alloc (.cells #[.int .i64 0,.string ⟨#[]⟩,.int .i64 0,.int .i64 0] 169)) w.heap.size tok0):=ħ (HasT.new w tok0)
 have B0:=ħ ((Below.refl w.heap.size w).alloc (Nat.le_refl _) (.cells #[.int .i64 0,.string ⟨#[]⟩,.int .i64 0,.int .i64 0] 169))
 have e0:IntKind.i64.wrap ((a:Int)+1)=(a:Int)+1:=IntWalk.i64_in _ (by omega)
 have HQ:=ħ (fun (w:World)=>rsign_any l a ha w hl hb)
 have HL:=ħ hlet
 have HD:=ħ hdig
 have H34:=ħ h34
 clear hlet hdig h34 hb
 have hx:=HX.o a ha
 obtain⟨v,hv⟩:∃ v,l.getD a 0=v:=⟨_,rfl⟩
 rw[hv] at hx
 have HVV:=ħ hv
 clear hv
 generalize strN l=t at *
 go_enter Tryz.func141,Tryz.ntmps141
 go_wp2_with fail
 refine (rletter_any v _).mono ?_
 rintro e w1 ⟨rfl,rfl⟩
 rw[show letB v=false by rw[← HVV.o];exact HL.o]
 go_wp2_with fail
 refine (rdigit_any v _).mono ?_
 rintro e w1 ⟨rfl,rfl⟩
 rw[show digB v=false by rw[← HVV.o];exact HD.o]
 have c1:((v:Int)==34)=false:=by rw[beq_eq_false_iff_ne,← HVV.o];have:=H34.o;omega
 go_wp2_with fail
 refine (HQ.o _).mono ?_
 rintro e w1 ⟨rfl,b1⟩
 have hnx:=nx_sgn HL.o HD.o H34.o
 have hsl:sgnF (l.drop a)≤l.length-a:=by have:=firstS_le sgnsP (l.drop a);rw[List.length_drop] at this;exact this
 have Z0:=ħ (Z0.o.below b1 (by have h:=(Array.getElem?_eq_some_iff.1 Z0.o).1;exact h))
 have B0:=ħ (B0.o.trans (b1.mono (by simp)))
 generalize sgnF (l.drop a)=s at *
 by_cases hs:s=0
 ·subst hs
  have HNX:=ħ (hnx.trans (if_pos rfl))
  clear hnx
  go_wp2_with (refine wpList_store_abs rfl 169 (.tmp 4) (.tmp 116) rfl w.heap.size (tokC tok0).toArray ?s1 ?s2 169 _ Z0.o (inf_tok _) rfl (tok_one _) ?_;(case s1=>rfl);(case s2=>rfl);intro W2 s2 u2;have S2:=ħ s2;have C2:=ħ (u2.below B0.o (Nat.le_refl _));clear s2 u2)
  exact bodyPost_ret (results_cell_tmp2_row (p:=4) (u:=5) (v:=6) (by kernel_rfl) _ _ w.heap.size 169 (tokC tok0).toArray (0,0) _ rfl S2.o Tryz.underlying169 rfl (inf_tok _)) rfl ⟨tok_bad HV.o HNX.o,C2.o⟩
 ·have c2:((s:Int)==0)=false:=by rw[beq_eq_false_iff_ne];omega
  have HNX:=ħ (hnx.trans (if_neg hs))
  clear hnx hs
  have e3:IntKind.i64.wrap ((a:Int)+s)=((a+s:Nat):Int):=IntWalk.i64_in _ (by omega)
  have hpt:∀ w,(Instr.slice 9 (.string t) (some (.int .i64 (a:Int))) (some (.int .i64 ((a:Int)+(s:Int)))) none).run Tryz.prog w = .ok (.string (strN ((l.take (a+s)).drop a))) w:=fun w=>HP2.o (a+s) (by omega) (by omega) w
  obtain⟨U,hU⟩:∃ U,(l.take (a+s)).drop a=U:=⟨_,rfl⟩
  rw[hU] at hpt HNX
  go_wp2_with (refine wpList_store_abs rfl 169 (.tmp 4) (.tmp 125) rfl w.heap.size (tokC ⟨3,U,0,a⟩).toArray ?s1 ?s2 169 _ Z0.o (inf_tok _) rfl (tok_one _) ?_;(case s1=>rfl);(case s2=>rfl);intro W2 s2 u2;have S2:=ħ s2;have C2:=ħ (u2.below B0.o (Nat.le_refl _));clear s2 u2)
  exact bodyPost_ret (results_cell_tmp2_row (p:=4) (u:=5) (v:=6) (by kernel_rfl) _ _ w.heap.size 169 (tokC ⟨3,U,0,a⟩).toArray (0,0) _ rfl S2.o Tryz.underlying169 rfl (inf_tok _)) rfl ⟨tok_good HV.o HNX.o rfl,C2.o⟩
theorem rtoken_any (l:List Nat) (a:Nat) (ha:a<l.length) (w:World) (hl:l.length≤1000000) (hb:∀ y∈l,y<256) :
  Calls Tryz.prog 141 #[.string (strN l),.int .i64 (a:Int)] w fun e w'=>e = .returned (tokV a (nextF (l.drop a)))∧Below w.heap.size w w':=by
 cases h1:letB (l.getD a 0) with
 | true=>exact rtok_name l a ha w hl hb h1
 | false =>
  cases h2:digB (l.getD a 0) with
  | true=>exact rtok_num l a ha w hl hb h1 h2
  | false =>
   by_cases h3:l.getD a 0=34
   ·exact rtok_str l a ha w hl hb h1 h2 h3
   ·exact rtok_sgn l a ha w hl hb h1 h2 h3
end
section
open Go.RowKit
theorem rs_skip {l:List Nat} {com com':Bool} {a:Nat} {acc:List Tok} (ha:a<l.length) (h:((com&&l.getD a 0 != 10)||blkB (l.getD a 0))=true) (hc:(com&&l.getD a 0 != 10)=com'):scanC com a (l.drop a) acc=scanC com' (a+1) (l.drop (a+1)) acc:=by
 rw[drop_cons l a ha,scanC_skip com a _ _ acc h,hc]
theorem rs_open {l:List Nat} {a:Nat} {acc:List Tok} (ha:a<l.length) (h:l.getD a 0=35):scanC false a (l.drop a) acc=scanC true a (l.drop a) acc:=by
 rw[drop_cons l a ha,h,scanC_open false a _ acc rfl]
theorem rs_err {l:List Nat} {a:Nat} {acc:List Tok} {e:Int} (ha:a<l.length) (hb:blkB (l.getD a 0)=false) (h:l.getD a 0≠35) (hn:nextF (l.drop a) = .error e):scanC false a (l.drop a) acc=([],a,e):=by
 rw[drop_cons l a ha] at hn ⊢
 rw[scanC_tok false a _ _ acc (by rw[hb];rfl) h,hn]
theorem rs_tok {l:List Nat} {a:Nat} {acc:List Tok} {r:Tok×Nat} (ha:a<l.length) (hb:blkB (l.getD a 0)=false) (h:l.getD a 0≠35) (hn:nextF (l.drop a) = .ok r):scanC false a (l.drop a) acc=scanC false (a+r.2) (l.drop (a+r.2)) (acc++[{ r.1 with p:=a }]):=by
 have hd:=drop_cons l a ha
 rw[hd] at hn
 have h2:=scanC_tok false a _ (l.drop (a+1)) acc (by rw[hb];rfl) h
 rw[hn] at h2
 rw[← hd] at h2
 rw[h2]
 simp only[List.drop_drop]
def comI:Value→Int
 | .bool true=>0
 | _=>1
theorem rscan_any (l:List Nat) (w:World) (hl:l.length≤1000000) (hb:∀ y∈l,y<256) :
  Calls Tryz.prog 77 #[.string (strN l)] w fun e w'=>ScanW w w' l e:=by
 have SZ:=ħ (strN_size l)
 by_cases h4:4000<l.length
 ·have i4:(4000:Int)<l.length:=by omega
  have HF:Hid (scanF l=([],0,6)):=ħ (by unfold scanF;rw[if_pos h4])
  generalize strN l=t at *
  have hsz:=SZ.o
  go_enter Tryz.func77,Tryz.ntmps77
  go_wp2
  go_ret3
  unfold ScanW
  rw[HF.o]
  exact⟨none,0,rfl,.nil rfl rfl rfl,Below.refl _ _⟩
 have i4:¬ ((4000:Int)<l.length):=by omega
 have HF:=ħ (scanF_C l (by omega))
 have HX:Hid (∀ i:Nat,i<l.length→∀ w,(Instr.index 9 (.string (strN l)) (.int .i64 (i:Int))).run Tryz.prog w = .ok (.int .u8 ((l.getD i 0:Nat):Int)) w):=ħ (fun i hi w=>str_at l i hi hb w)
 have HN:=ħ (fun (i:Nat) (hi:i<l.length) (w:World)=>rtoken_any l i hi w hl hb)
 clear hb
 generalize strN l=t at *
 have hsz:=SZ.o
 go_enter Tryz.func77,Tryz.ntmps77
 go_wp2_with fail
 go_loopw [5,6,7] (fun s c m wr=>∃ (a k:Nat) (com:Bool) (acc:List Tok) (ao:Option Addr) (cp:Nat),s = .slice ao k cp∧c = .int .i64 a∧m = .bool com∧a≤l.length∧k≤a∧Hid (k=acc.length)∧Hid (OwnK wr w.heap.size 4 k cp (acc.flatMap tokC) ao)∧Hid (Below w.heap.size w wr)∧Hid (scanF l=scanC com a (l.drop a) acc)) (fun _ c m _=>(2*(l.length-intOf c)+comI m).toNat)
 case atStart=>exact⟨0,0,false,[],none,0,rfl,rfl,rfl,by omega,by omega,ħ rfl,ħ (.nil rfl rfl rfl),ħ (Below.refl _ _),ħ (by rw[HF.o];rfl)⟩
 case round =>
  obtain⟨a,k,com,acc,ao,cp,rfl,rfl,rfl,ha,hka,hk,ho,hw,hz⟩:=hrel
  have e1:IntKind.i64.wrap ((a:Int)+1)=((a+1:Nat):Int):=IntWalk.i64_in _ (by omega)
  by_cases hlt:a<l.length
  ·have ii:(a:Int)<l.length:=by omega
   have hx:=HX.o a hlt
   obtain⟨c,hc⟩:∃ c,l.getD a 0=c:=⟨_,rfl⟩
   rw[hc] at hx
   have HC:=ħ hc
   clear hc
   by_cases h10:c=10
   ·have c1:((c:Int)==10)=true:=by rw[h10];rfl
    have HZ:=ħ (hz.o.trans (rs_skip (com':=false) hlt (by rw[HC.o,h10];simp[blkB]) (by rw[HC.o,h10];cases com<;>rfl)))
    have HBL:Hid (blkB c=true):=ħ (by rw[h10];rfl)
    clear h10
    go_wp2_with fail
    refine (rblank_any c _).mono ?_
    rintro e w1 ⟨rfl,rfl⟩
    rw[HBL.o]
    go_wp2
    go_roundw
    case rel=>exact⟨a+1,k,false,acc,ao,cp,rfl,rfl,rfl,by omega,by omega,hk,ho,hw,HZ⟩
    case measure=>cases com<;>simp only[intOf,comI]<;>omega
   ·have c1:((c:Int)==10)=false:=by rw[beq_eq_false_iff_ne];omega
    have h10b:(c != 10)=true:=by rw[bne_iff_ne];exact h10
    cases com with
    | true =>
     have HZ:=ħ (hz.o.trans (rs_skip (com':=true) hlt (by rw[HC.o,h10b];rfl) (by rw[HC.o,h10b];rfl)))
     clear h10 h10b
     go_wp2
     go_roundw
     case rel=>exact⟨a+1,k,true,acc,ao,cp,rfl,rfl,rfl,by omega,by omega,hk,ho,hw,HZ⟩
     case measure=>simp only[intOf,comI];omega
    | false =>
     clear h10b
     go_wp2_with fail
     refine (rblank_any c _).mono ?_
     rintro e w1 ⟨rfl,rfl⟩
     cases hbl:blkB c with
     | true =>
      have HZ:=ħ (hz.o.trans (rs_skip (com':=false) hlt (by rw[HC.o,hbl];simp) rfl))
      clear hbl h10
      go_wp2
      go_roundw
      case rel=>exact⟨a+1,k,false,acc,ao,cp,rfl,rfl,rfl,by omega,by omega,hk,ho,hw,HZ⟩
      case measure=>simp only[intOf,comI];omega
     | false =>
      by_cases h35:c=35
      ·have c2:((c:Int)==35)=true:=by rw[h35];rfl
       have HZ:=ħ (hz.o.trans (rs_open hlt (by rw[HC.o];exact h35)))
       clear hbl h10 h35
       go_wp2
       go_roundw
       case rel=>exact⟨a,k,true,acc,ao,cp,rfl,rfl,rfl,by omega,by omega,hk,ho,hw,HZ⟩
       case measure=>simp only[intOf,comI];omega
      ·have c2:((c:Int)==35)=false:=by rw[beq_eq_false_iff_ne];omega
       go_wp2_with fail
       refine (HN.o a hlt _).mono ?_
       rintro e w2 ⟨rfl,hb2⟩
       cases hn:nextF (l.drop a) with
       | error x =>
        have hx2:(x != 0)=true:=by rw[bne_iff_ne];have:=nextF_err hn;omega
        have HE:=ħ (hz.o.trans (rs_err hlt (by rw[HC.o];exact hbl) (by rw[HC.o];exact h35) hn))
        have BW:=ħ (hw.o.trans (hb2.mono hw.o.size))
        clear hn hb2 hbl h10 h35
        have A2:=ħ ((Below.refl w2.heap.size w2).alloc (Nat.le_refl _) (.cells (tokC tok0).toArray 169))
        unfold tokV
        go_wp2_with (refine wpList_store_abs rfl 169 (.tmp 8) (.tmp 39) rfl w2.heap.size (tokC tok0).toArray ?s1 ?s2 169 _ (heap_alloc_new w2 _) (inf_tok _) rfl (tok_one _) ?_;(case s1=>rfl);(case s2=>rfl);intro W3 s3 u3;have C3:=ħ (u3.below A2.o (Nat.le_refl _));clear s3 u3)
        go_ret3
        unfold ScanW
        rw[HE.o]
        exact⟨none,0,rfl,.nil rfl rfl rfl,BW.o.trans (C3.o.mono BW.o.size)⟩
       | ok r =>
        obtain⟨tk,n⟩:=r
        have hlen:=nextF_len _ (by intro h2;have:=congrArg List.length h2;simp at this;omega) _ hn
        rw[List.length_drop] at hlen
        simp only at hlen
        have HE:=ħ (hz.o.trans (rs_tok hlt (by rw[HC.o];exact hbl) (by rw[HC.o];exact h35) hn))
        have BW:=ħ (hw.o.trans (hb2.mono hw.o.size))
        have O2:=ħ (ho.o.below hb2)
        have A2:=ħ ((Below.refl w2.heap.size w2).alloc (Nat.le_refl _) (.cells (tokC tok0).toArray 169))
        have hbk:Hid (blk ao≠some w2.heap.size):=ħ (fun e=>by have:=(O2.o.blk_lt e).2;omega)
        clear hn hb2 ho hbl h10 h35
        have t4:(tokC { tk with p:=a }).length=4:=rfl
        unfold tokV
        go_wp2_with (first
         | (refine wpList_store_abs rfl 169 (.tmp 8) (.tmp 39) rfl w2.heap.size (tokC { tk with p:=a }).toArray ?s1 ?s2 169 _ (heap_alloc_new w2 _) (inf_tok _) rfl (tok_one _) ?_;(case s1=>rfl);(case s2=>rfl);intro W3 s3 u3;have S3:Hid (HasT W3 w2.heap.size { tk with p:=a }):=ħ s3;have C3:=ħ (u3.below A2.o (Nat.le_refl _));clear s3 u3;have O3:=ħ (O2.o.below C3.o))
         | (refine wpList_load_row rfl 169 (.tmp 8) rfl w2.heap.size ?x1 169 (tokC { tk with p:=a }).toArray (0,0) _ S3.o Tryz.underlying169 rfl (inf_tok _) ?_;(case x1=>rfl))
         | (at_builtin;refine app_k 96 169 tokZ 4 40 Tryz.underlying96 info_tok rfl (by omega) (by omega) W3 w.heap.size rfl (.tmp 46) (.tmp 48) rfl ao cp k (acc.flatMap tokC) ?q1 O3.o ?q5 1 1 (tokC { tk with p:=a }).toArray 169 ?q2 rfl (by omega) ?q3 ?q4 ?_;(case q1=>rfl);(case q5=>exact Nat.le_trans BW.o.size C3.o.size);(case q2=>rfl);(case q3=>exact tokA_one _);(case q4=>omega);intro g5 off5 c5 wa o8 gr8 b8 or8;have O8:=ħ o8;have B8:=ħ b8;clear o8 gr8 b8 or8))
        go_roundw
        case rel=>exact⟨a+n,k+1,false,acc++[{ tk with p:=a }],some ⟨g5,off5,none⟩,c5,rfl,by go_num,rfl,by omega,by omega,ħ (by rw[List.length_append,← hk.o];rfl),ħ (by rw[List.flatMap_append];exact O8.o),ħ ((BW.o.trans (C3.o.mono BW.o.size)).trans B8.o),ħ HE.o⟩
        case measure=>simp only[intOf,comI];omega
  ·obtain rfl:a=l.length:=by omega
   have ii:¬ ((l.length:Int)<l.length):=by omega
   have HE:Hid (scanF l=(acc,0,0)):=ħ (by rw[hz.o,List.drop_length,scanC_nil])
   go_wp2
   go_ret3
   unfold ScanW
   rw[HE.o]
   exact⟨ao,cp,by rw[← hk.o];rfl,by rw[← hk.o];exact ho.o,hw.o⟩
end
section
open Go.RowKit
def HasS (w:World) (R:Nat) (ao:Option Addr) (n cap i sz:Nat) (x y:Int):Prop:=w.heap[R]?=some (.cells #[.slice ao n cap,.int .i64 (i:Int),.int .i64 (sz:Int),.int .i64 x,.int .i64 y] 111 (0,0))
structure SrcW (w:World) (R:Nat) (ao:Option Addr) (cap:Nat) (ts:List Tok) (sz i:Nat) (x y:Int):Prop where
 blk:HasS w R ao ts.length cap i sz x y
 toks:ts=[]∨∃ g off,ao=some ⟨g,off,none⟩∧g≠R∧g<w.heap.size∧Reads w g off (ts.flatMap tokC)
theorem SrcW.lt {w:World} {R cap sz i:Nat} {ao:Option Addr} {ts:List Tok} {x y:Int} (h:SrcW w R ao cap ts sz i x y):R<w.heap.size:=(Array.getElem?_eq_some_iff.1 h.blk).1
theorem SrcW.step {w w':World} {R cap sz i:Nat} {ao:Option Addr} {ts:List Tok} {x y:Int} (h:SrcW w R ao cap ts sz i x y) (hb:Below w.heap.size w w'):SrcW w' R ao cap ts sz i x y:=by
 refine⟨?_,?_⟩
 ·unfold HasS;rw[hb.block R h.lt];exact h.blk
 ·rcases h.toks with h1 | ⟨g,off,h1,h2,h3,h4⟩
  ·exact .inl h1
  ·exact .inr ⟨g,off,h1,h2,Nat.lt_of_lt_of_le h3 hb.size,h4.of_block (hb.block g h3)⟩
theorem SrcW.cells {w:World} {R cap sz i:Nat} {ao:Option Addr} {ts:List Tok} {x y:Int} (h:SrcW w R ao cap ts sz i x y):w.cell? ⟨R,0,none⟩=some (.slice ao ts.length cap)∧w.cell? ⟨R,1,none⟩=some (.int .i64 (i:Int))∧w.cell? ⟨R,2,none⟩=some (.int .i64 (sz:Int))∧w.cell? ⟨R,3,none⟩=some (.int .i64 x)∧w.cell? ⟨R,4,none⟩=some (.int .i64 y):=by
 have hb:=h.blk
 unfold HasS at hb
 exact⟨by simp[World.cell?,hb],by simp[World.cell?,hb],by simp[World.cell?,hb],by simp[World.cell?,hb],by simp[World.cell?,hb]⟩
theorem SrcW.warm {w:World} {R cap sz i:Nat} {ao:Option Addr} {ts:List Tok} {x y:Int} (h:SrcW w R ao cap ts sz i x y) (j:Nat):w.frozen? ⟨R,j,none⟩=false:=by
 have hb:=h.blk
 unfold HasS at hb
 simp[World.frozen?,hb]
theorem SrcW.turn {w:World} {R cap sz i i':Nat} {ao:Option Addr} {ts:List Tok} {x y x' y':Int} (h:SrcW w R ao cap ts sz i x y) (k:Nat) (v:Value) (hb:HasS (w.setCell ⟨R,k,none⟩ v) R ao ts.length cap i' sz x' y'):SrcW (w.setCell ⟨R,k,none⟩ v) R ao cap ts sz i' x' y':=by
 refine⟨hb,?_⟩
 rcases h.toks with h1 | ⟨g,off,h1,h2,h3,h4⟩
 ·exact .inl h1
 ·exact .inr ⟨g,off,h1,h2,by rw[World.size_setCell];exact h3,h4.of_block (heap_setCell_other _ _ _ _ h2)⟩
theorem SrcW.next {w:World} {R cap sz i:Nat} {ao:Option Addr} {ts:List Tok} {x y:Int} (h:SrcW w R ao cap ts sz i x y) (j:Nat):SrcW (w.setCell ⟨R,1,none⟩ (.int .i64 (j:Int))) R ao cap ts sz j x y :=
 h.turn 1 _ (Go.heap_setCell_same w R 1 _ _ _ h.blk)
theorem SrcW.setE {w:World} {R cap sz i:Nat} {ao:Option Addr} {ts:List Tok} {x y:Int} (h:SrcW w R ao cap ts sz i x y) (z:Int):SrcW (w.setCell ⟨R,3,none⟩ (.int .i64 z)) R ao cap ts sz i z y :=
 h.turn 3 _ (Go.heap_setCell_same w R 3 _ _ _ h.blk)
theorem SrcW.setAt {w:World} {R cap sz i:Nat} {ao:Option Addr} {ts:List Tok} {x y:Int} (h:SrcW w R ao cap ts sz i x y) (z:Int):SrcW (w.setCell ⟨R,4,none⟩ (.int .i64 z)) R ao cap ts sz i x z :=
 h.turn 4 _ (Go.heap_setCell_same w R 4 _ _ _ h.blk)
theorem SrcW.tok {w:World} {R cap sz i:Nat} {ao:Option Addr} {ts:List Tok} {x y:Int} (h:SrcW w R ao cap ts sz i x y) (k:Nat) (hk:k<ts.length):∃ g off,ao=some ⟨g,off,none⟩∧g<w.heap.size ∧
  w.cell? ⟨g,off+k*4,none⟩=some (.int .i64 (tokAt ts k).k)∧w.cell? ⟨g,off+k*4+1,none⟩=some (.string (strN (tokAt ts k).t))∧w.cell? ⟨g,off+k*4+2,none⟩=some (.int .i64 (tokAt ts k).n)∧w.cell? ⟨g,off+k*4+3,none⟩=some (.int .i64 (tokAt ts k).p)∧Reads w g (off+k*4) (tokC (tokAt ts k)):=by
 rcases h.toks with h1 | ⟨g,off,h1,h2,h3,h4⟩
 ·rw[h1] at hk;exact absurd hk (Nat.not_lt_zero _)
 ·have ht:ts[k]?=some (tokAt ts k):=by unfold tokAt;rw[List.getElem?_eq_getElem hk]
  obtain⟨a,b,c,d⟩:=tok_cells h4 k _ ht
  refine⟨g,off,h1,h3,a,b,c,d,?_⟩
  intro j u hj
  have hl:j<4:=(List.getElem?_eq_some_iff.1 hj).1
  have:=h4 (k*4+j) u (by rw[flatK_at tokC 4 tokC_len ts k j _ ht hl];exact hj)
  rwa [show off+(k*4+j)=off+k*4+j by omega] at this
theorem soff_any (w:World) (R:Nat) (ao:Option Addr) (cap:Nat) (ts:List Tok) (sz i k:Nat) (x y:Int) (h:SrcW w R ao cap ts sz k x y) (hi:i≤ts.length) (hn:ts.length≤1000000) :
  Calls Tryz.prog 145 #[.pointer (some ⟨R,0,none⟩),.int .i64 (i:Int)] w fun e w'=>e = .returned (.int .i64 (offP ts sz i:Nat))∧w=w':=by
 obtain⟨c0,c1,c2,c3,c4⟩:=h.cells
 by_cases hlt:i<ts.length
 ·obtain⟨g,off,rfl,hg,t0,t1,t2,t3,-⟩:=h.tok i hlt
  have ii:(i:Int)<ts.length:=by omega
  have HO:=ħ (offP_at (ts:=ts) (sz:=sz) (i:=i))
  rw[if_pos hlt] at HO
  generalize (tokAt ts i).p=pp at *
  clear t0 t1 t2 h
  go_enter Tryz.func145,Tryz.ntmps145
  go_wp2
  go_ret
  exact⟨ret_int (congrArg (fun n:Nat=>(n:Int)) HO.o.symm),rfl⟩
 ·have ii:¬ ((i:Int)<ts.length):=by omega
  have HO:=ħ (offP_at (ts:=ts) (sz:=sz) (i:=i))
  rw[if_neg hlt] at HO
  clear h
  go_enter Tryz.func145,Tryz.ntmps145
  go_wp2
  go_ret
  exact⟨ret_int (congrArg (fun n:Nat=>(n:Int)) HO.o.symm),rfl⟩
theorem sfail_first (w:World) (R:Nat) (ao:Option Addr) (cap:Nat) (ts:List Tok) (sz i k:Nat) (y z:Int) (h:SrcW w R ao cap ts sz k 0 y) (hi:i≤ts.length) (hn:ts.length≤1000000) :
  Calls Tryz.prog 81 #[.pointer (some ⟨R,0,none⟩),.int .i64 z,.int .i64 (i:Int)] w fun e w'=>e = .returned (.tuple #[])∧SrcW w' R ao cap ts sz k z (offP ts sz i:Nat)∧Only w w' (· = R):=by
 have H0:=ħ h
 obtain⟨c0,c1,c2,c3,c4⟩:=h.cells
 have f3:=h.warm 3
 have H1:=ħ (H0.o.setE z)
 have HF:=ħ (soff_any _ R ao cap ts sz i k z y H1.o hi hn)
 have f4:=H1.o.warm 4
 obtain⟨q,hq⟩:∃ q,offP ts sz i=q:=⟨_,rfl⟩
 rw[hq] at HF ⊢
 clear hq
 obtain⟨-,-,-,-,d4⟩:=H1.o.cells
 clear h c0 c1 c2 c4
 go_enter Tryz.func81,Tryz.ntmps81
 go_wp2_with fail
 refine HF.o.mono ?_
 rintro e w1 ⟨rfl,rfl⟩
 have OX:=ħ ((Only.refl w (· = R)).setCell (a:=⟨R,3,none⟩) (.int .i64 z) rfl)
 generalize w.setCell ⟨R,3,none⟩ (.int .i64 z)=w2 at *
 go_wp2
 go_end0
 exact⟨rfl,H1.o.setAt _,OX.o.setCell _ rfl⟩
theorem sfail_later (w:World) (R:Nat) (ao:Option Addr) (cap:Nat) (ts:List Tok) (sz k:Nat) (x y z j:Int) (h:SrcW w R ao cap ts sz k x y) (hx:x≠0) :
  Calls Tryz.prog 81 #[.pointer (some ⟨R,0,none⟩),.int .i64 z,.int .i64 j] w fun e w'=>e = .returned (.tuple #[])∧w=w':=by
 obtain⟨c0,c1,c2,c3,c4⟩:=h.cells
 have hxb:(x==0)=false:=beq_eq_false_iff_ne.mpr hx
 clear h c0 c1 c2 c4
 go_enter Tryz.func81,Tryz.ntmps81
 go_wp2
 go_end0
 exact⟨rfl,rfl⟩
end
section
open Go.RowKit
theorem sis_later (w:World) (R:Nat) (ao:Option Addr) (cap:Nat) (ts:List Tok) (sz k:Nat) (x y:Int) (s:ByteArray) (h:SrcW w R ao cap ts sz k x y) (hx:x≠0) :
  Calls Tryz.prog 142 #[.pointer (some ⟨R,0,none⟩),.string s] w fun e w'=>e = .returned (.bool false)∧Below w.heap.size w w':=by
 obtain⟨c0,c1,c2,c3,c4⟩:=h.cells
 have hxb:(x != 0)=true:=by rw[bne_iff_ne];exact hx
 clear h c0 c1 c2 c4 hx
 go_enter Tryz.func142,Tryz.ntmps142
 go_wp2_with fail
 go_quiet (fail)
 have hB:=ħ (below_drewN (Below.refl w.heap.size w) nq)
 clear c3
 generalize w.drewN nq=wd at *
 go_wp2
 go_ret
 exact⟨rfl,hB.o⟩
theorem sis_end (w:World) (R:Nat) (ao:Option Addr) (cap:Nat) (ts:List Tok) (sz k:Nat) (y:Int) (s:ByteArray) (h:SrcW w R ao cap ts sz k 0 y) (hk:¬ k<ts.length) :
  Calls Tryz.prog 142 #[.pointer (some ⟨R,0,none⟩),.string s] w fun e w'=>e = .returned (.bool false)∧Below w.heap.size w w':=by
 obtain⟨c0,c1,c2,c3,c4⟩:=h.cells
 have hkb:decide ((ts.length:Int)≤(k:Int))=true:=decide_eq_true (by omega)
 have hkc:decide (ts.length≤k)=true:=decide_eq_true (by omega)
 clear h c2 c4 hk
 go_enter Tryz.func142,Tryz.ntmps142
 go_wp2_with fail
 go_quiet (fail)
 have hB:=ħ (below_drewN (Below.refl w.heap.size w) nq)
 clear c3 c0 c1
 generalize w.drewN nq=wd at *
 go_wp2
 go_ret
 exact⟨rfl,hB.o⟩
theorem sis_at (w:World) (R:Nat) (ao:Option Addr) (cap:Nat) (ts:List Tok) (sz i:Nat) (y:Int) (s:List Nat) (h:SrcW w R ao cap ts sz i 0 y) (hlt:i<ts.length) (hn:ts.length≤1000000) (hts:∀ t∈ts,TokOk t) (hs:∀ y∈s,y<256) :
  Calls Tryz.prog 142 #[.pointer (some ⟨R,0,none⟩),.string (strN s)] w fun e w'=>e = .returned (.bool (isP ts s i))∧Below w.heap.size w w':=by
 have H0:=ħ h
 have hkb:decide ((ts.length:Int)≤(i:Int))=false:=decide_eq_false (by omega)
 have hkc:decide (ts.length≤i)=false:=decide_eq_false (by omega)
 have HV:=ħ (isP_at (ts:=ts) (s:=s) (i:=i) hlt)
 have hTK:=tokAt_ok hts hlt
 have HE:=ħ (strN_eqL (tokAt ts i).t s hTK.byte hs)
 obtain⟨V,hV⟩:∃ V,isP ts s i=V:=⟨_,rfl⟩
 rw[hV] at HV ⊢
 clear hV h hts hs hTK
 have HLT:=ħ hlt
 generalize strN s=t at *
 go_enter Tryz.func142,Tryz.ntmps142
 obtain⟨c0,c1,c2,c3,c4⟩:=H0.o.cells
 go_wp2_with fail
 go_quiet (fail)
 have H1:=ħ (H0.o.step (below_drewN (Below.refl w.heap.size w) nq))
 have B1:=ħ (below_drewN (Below.refl w.heap.size w) nq)
 clear c0 c1 c2 c3 c4
 generalize w.drewN nq=w1 at *
 go_upto_region 3 with (fail)
 obtain⟨c0,c1,c2,c3,c4⟩:=H1.o.cells
 obtain⟨g,off,hao,hg,t0,t1,t2,t3,-⟩:=H1.o.tok i HLT.o
 subst hao
 have A1:=(Below.refl w1.heap.size w1).alloc (Nat.le_refl _) (.cells #[.int .i64 0,.string ⟨#[]⟩,.int .i64 0,.int .i64 0] 169)
 have H2:=ħ (H1.o.step A1)
 have A2:=ħ A1
 clear A1
 obtain⟨d0,d1,d2,d3,d4⟩:=H2.o.cells
 obtain⟨g',off',hao,hg',u0,u1,u2,u3,-⟩:=H2.o.tok i HLT.o
 obtain⟨rfl,rfl⟩:g=g'∧off=off':=by simp only[Option.some.injEq,Addr.mk.injEq] at hao;exact⟨hao.1,hao.2.1⟩
 clear hao
 generalize tokAt ts i=T at *
 have ij:(i:Int)<ts.length:=by have:=HLT.o;omega
 clear hkb hkc
 go_region
 clear c0 c1 c2 c3 c4 d0 d1 d2 d3 d4 t0 t1 t2 t3 u0 u1 u2 u3
 obtain⟨κ,hκ⟩:∃ κ,T.k=κ:=⟨_,rfl⟩
 rw[hκ] at HV ⊢
 clear hκ
 by_cases k3:κ=3
 ·have HX:Hid (((strN T.t).toList==t.toList)=V):=ħ (by rw[HE.o,HV.o,k3];rfl)
  have k3b:(κ==3)=true:=beq_iff_eq.mpr k3
  clear k3
  go_wp2_with fail
  go_ret
  exact⟨ret_bool HX.o,(B1.o.alloc B1.o.size _).drew⟩
 ·have k3b:(κ==3)=false:=beq_eq_false_iff_ne.mpr k3
  by_cases k0:κ=0
  ·have HX:Hid (((strN T.t).toList==t.toList)=V):=ħ (by rw[HE.o,HV.o,k0];rfl)
   have k0b:(κ==0)=true:=beq_iff_eq.mpr k0
   clear k3 k0
   go_wp2_with fail
   go_ret
   exact⟨ret_bool HX.o,(B1.o.alloc B1.o.size _).drew⟩
  ·have k0b:(κ==0)=false:=beq_eq_false_iff_ne.mpr k0
   have HX:Hid (false=V):=ħ (by rw[HV.o,k3b,k0b];rfl)
   clear k3 k0
   go_wp2_with fail
   go_ret
   exact⟨ret_bool HX.o,(B1.o.alloc B1.o.size _).drew⟩
theorem sis_any (w:World) (R:Nat) (ao:Option Addr) (cap:Nat) (ts:List Tok) (sz i:Nat) (y:Int) (s:List Nat) (h:SrcW w R ao cap ts sz i 0 y) (hn:ts.length≤1000000) (hts:∀ t∈ts,TokOk t) (hs:∀ y∈s,y<256) :
  Calls Tryz.prog 142 #[.pointer (some ⟨R,0,none⟩),.string (strN s)] w fun e w'=>e = .returned (.bool (isP ts s i))∧Below w.heap.size w w':=by
 by_cases hlt:i<ts.length
 ·exact sis_at w R ao cap ts sz i y s h hlt hn hts hs
 ·have:isP ts s i=false:=by unfold isP;rw[List.getElem?_eq_none (by omega)]
  rw[this]
  exact sis_end w R ao cap ts sz i y (strN s) h hlt
end
section
open Go.RowKit
theorem SrcW.nextOnly {w:World} (R k:Nat) (v:Value):Only w (w.setCell ⟨R,k,none⟩ v) (· = R):=(Only.refl w _).setCell v rfl
theorem stake_later (w:World) (R:Nat) (ao:Option Addr) (cap:Nat) (ts:List Tok) (sz i:Nat) (x y:Int) (s:ByteArray) (h:SrcW w R ao cap ts sz i x y) (hx:x≠0) :
  Calls Tryz.prog 78 #[.pointer (some ⟨R,0,none⟩),.string s] w fun e w'=>e = .returned (.tuple #[])∧Below w.heap.size w w':=by
 have HS:=ħ (sis_later w R ao cap ts sz i x y s h hx)
 have H0:=ħ h
 clear h
 go_enter Tryz.func78,Tryz.ntmps78
 go_wp2_with fail
 refine HS.o.mono ?_
 rintro e w1 ⟨rfl,b1⟩
 have H1:=ħ (H0.o.step b1)
 have B1:=ħ b1
 clear b1 HS
 obtain⟨c0,c1,c2,c3,c4⟩:=H1.o.cells
 clear c0 c2 c3 c4
 go_wp2_with fail
 refine (sfail_later w1 R ao cap ts sz i x y 12 i H1.o hx).mono ?_
 rintro e w2 ⟨rfl,rfl⟩
 go_wp2
 go_end0
 exact⟨rfl,B1.o⟩
theorem stake_ok (w:World) (R:Nat) (ao:Option Addr) (cap:Nat) (ts:List Tok) (sz i:Nat) (y:Int) (s:List Nat) (h:SrcW w R ao cap ts sz i 0 y) (hn:ts.length≤1000000) (hts:∀ t∈ts,TokOk t) (hs:∀ y∈s,y<256) (hyes:isP ts s i=true) :
  Calls Tryz.prog 78 #[.pointer (some ⟨R,0,none⟩),.string (strN s)] w fun e w'=>e = .returned (.tuple #[])∧SrcW w' R ao cap ts sz (i+1) 0 y∧Only w w' (· = R):=by
 have HS:=ħ (sis_any w R ao cap ts sz i y s h hn hts hs)
 rw[hyes] at HS
 have hlt:=isP_lt hyes
 have e2:IntKind.i64.wrap ((i:Int)+1)=(i:Int)+1:=IntWalk.i64_in _ (by omega)
 have H0:=ħ h
 clear h hts hs hyes
 generalize strN s=t at *
 go_enter Tryz.func78,Tryz.ntmps78
 go_wp2_with fail
 refine HS.o.mono ?_
 rintro e w1 ⟨rfl,b1⟩
 have H1:=ħ (H0.o.step b1)
 have B1:=ħ b1
 clear b1 HS
 obtain⟨c0,c1,c2,c3,c4⟩:=H1.o.cells
 have f1:=H1.o.warm 1
 clear c0 c2 c3 c4
 go_wp2_with fail
 exact bodyPost_ret (results_none rfl _ _ _) rfl ⟨rfl,H1.o.next (i+1),(Only.of_below B1.o).trans (SrcW.nextOnly R 1 _)⟩
theorem stake_no (w:World) (R:Nat) (ao:Option Addr) (cap:Nat) (ts:List Tok) (sz i:Nat) (y:Int) (s:List Nat) (h:SrcW w R ao cap ts sz i 0 y) (hi:i≤ts.length) (hn:ts.length≤1000000) (hts:∀ t∈ts,TokOk t) (hs:∀ y∈s,y<256) (hno:isP ts s i=false) :
  Calls Tryz.prog 78 #[.pointer (some ⟨R,0,none⟩),.string (strN s)] w fun e w'=>e = .returned (.tuple #[])∧SrcW w' R ao cap ts sz i 12 (offP ts sz i:Nat)∧Only w w' (· = R):=by
 have HS:=ħ (sis_any w R ao cap ts sz i y s h hn hts hs)
 rw[hno] at HS
 have H0:=ħ h
 clear h hts hs hno
 generalize strN s=t at *
 go_enter Tryz.func78,Tryz.ntmps78
 go_wp2_with fail
 refine HS.o.mono ?_
 rintro e w1 ⟨rfl,b1⟩
 have H1:=ħ (H0.o.step b1)
 have B1:=ħ b1
 clear b1 HS
 obtain⟨c0,c1,c2,c3,c4⟩:=H1.o.cells
 clear c0 c2 c3 c4
 go_wp2_with fail
 refine (sfail_first w1 R ao cap ts sz i i y 12 H1.o hi hn).mono ?_
 rintro e w2 ⟨rfl,h2,o2⟩
 have H2:=ħ h2
 have O2:=ħ o2
 clear h2 o2
 go_wp2
 go_end0
 exact⟨rfl,H2.o,(Only.of_below B1.o).trans O2.o⟩
end
section
open Go.RowKit
theorem rwords_any (w:World) :
  Calls Tryz.prog 143 #[] w fun e w'=>e = .returned (.slice (some ⟨w.heap.size,0,none⟩) 8 8)∧HasV w' w.heap.size 9 (wordsL.map (fun s=>.string (strN s)))∧Below w.heap.size w w':=by
 have R0:Hid (HasV (w.alloc (.cells #[.string ⟨#[113,117,101,115,116,105,111,110]⟩,.string ⟨#[97,110,100]⟩,.string ⟨#[111,114]⟩,.string ⟨#[110,111,116]⟩,.string ⟨#[97,116]⟩,.string ⟨#[108,101,97,115,116]⟩,.string ⟨#[111,102]⟩,.string ⟨#[105,110]⟩] 9)) w.heap.size 9 (wordsL.map (fun s=>.string (strN s)))):=ħ (HasV.new w 9 (wordsL.map (fun s=>.string (strN s))))
 have B0:=ħ ((Below.refl w.heap.size w).alloc (Nat.le_refl _) (.cells #[.string ⟨#[113,117,101,115,116,105,111,110]⟩,.string ⟨#[97,110,100]⟩,.string ⟨#[111,114]⟩,.string ⟨#[110,111,116]⟩,.string ⟨#[97,116]⟩,.string ⟨#[108,101,97,115,116]⟩,.string ⟨#[111,102]⟩,.string ⟨#[105,110]⟩] 9))
 go_enter Tryz.func143,Tryz.ntmps143
 go_wp2
 go_ret
 exact⟨rfl,R0.o,B0.o⟩
theorem rhas_any (g off cp n:Nat) (L:List (List Nat)) (x:List Nat) (w:World) (hn:n=L.length) (hl:n≤1000000) (hr:Reads w g off (L.map (fun s=>Value.string (strN s)))) (hx:∀ y∈x,y<256) (hL:∀ s∈L,∀ y∈s,y<256) :
  Calls Tryz.prog 49 #[.slice (some ⟨g,off,none⟩) n cp,.string (strN x)] w fun e w'=>e = .returned (.bool (hasL L x))∧w=w':=by
 have HA:=ħ (fun j hj=>str_reads hr j hj)
 have HE:Hid (∀ j,j<n→((strN (L.getD j [])).toList==(strN x).toList)=(L.getD j []==x)):=ħ (fun j hj=>strN_eqL _ x (hL _ (by rw[List.getD,List.getElem?_eq_getElem (by omega)];exact List.getElem_mem _)) hx)
 have HN:=ħ hn
 clear hr hx hL hn
 obtain⟨V,hV⟩:∃ V,hasL L x=V:=⟨_,rfl⟩
 rw[hV]
 have HV:=ħ hV
 clear hV
 generalize strN x=t at *
 go_enter Tryz.func49,Tryz.ntmps49
 go_wp2_with fail
 go_loop [5] (fun c=>∃ i:Nat,c = .int .i64 i∧i≤n∧Hid (∀ j,j<i→(L.getD j []==x)=false)) (fun c=>(n-intOf c).toNat)
 case atStart=>exact⟨0,rfl,by omega,ħ (fun j hj=>absurd hj (Nat.not_lt_zero j))⟩
 case round =>
  obtain⟨i,rfl,hi,hz⟩:=hrel
  have e2:IntKind.i64.wrap ((i:Int)+1)=((i+1:Nat):Int):=IntWalk.i64_in _ (by omega)
  by_cases hlt:i<n
  ·have k1:=HA.o i (by rw[← HN.o];exact hlt)
   have hq:=HE.o i hlt
   have ii:(i:Int)<n:=by omega
   obtain⟨q,hv⟩:∃ q,(L.getD i []==x)=q:=⟨_,rfl⟩
   rw[hv] at hq
   have HQ:=ħ hv
   clear hv
   generalize strN (L.getD i [])=u at *
   cases q with
   | true =>
    have HX:Hid (true=V):=ħ (by
     rw[← HV.o]
     unfold hasL
     symm
     rw[List.contains_iff_mem]
     rw[← beq_iff_eq.1 HQ.o,List.getD,List.getElem?_eq_getElem (by rw[← HN.o];exact hlt)]
     exact List.getElem_mem _)
    go_wp2
    all_goals
     go_ret
     exact⟨ret_bool HX.o,rfl⟩
   | false =>
    go_wp2
    go_round
    case rel=>exact⟨i+1,rfl,by omega,ħ (fun j hj=>by
     rcases Nat.lt_or_ge j i with h | h
     ·exact hz.o j h
     ·obtain rfl:j=i:=by omega
      exact HQ.o)⟩
    case measure=>simp[intOf];omega
  ·have ii:¬ ((i:Int)<n):=by omega
   have HX:Hid (false=V):=ħ (by
    rw[← HV.o]
    unfold hasL
    symm
    rw[Bool.eq_false_iff]
    intro h
    obtain⟨j,hj,he⟩:=List.getElem_of_mem (List.contains_iff_mem.1 h)
    have:=hz.o j (by rw[HN.o] at hi hlt;omega)
    rw[List.getD,List.getElem?_eq_getElem hj,Option.getD_some,he] at this
    simp at this)
   go_wp2
   go_ret
   exact⟨ret_bool HX.o,rfl⟩
end
section
open Go.RowKit
theorem snum_later (w:World) (R:Nat) (ao:Option Addr) (cap:Nat) (ts:List Tok) (sz i:Nat) (x y:Int) (h:SrcW w R ao cap ts sz i x y) (hx:x≠0) :
  Calls Tryz.prog 295 #[.pointer (some ⟨R,0,none⟩)] w fun e w'=>e = .returned (.int .i64 0)∧Below w.heap.size w w':=by
 have H0:=ħ h
 obtain⟨c0,c1,c2,c3,c4⟩:=h.cells
 have hxb:(x==0)=false:=beq_eq_false_iff_ne.mpr hx
 have HX:=ħ hx
 clear h c0 c1 c2 c4 hx
 go_enter Tryz.func295,Tryz.ntmps295
 go_wp2_with fail
 go_quiet (fail)
 have hB:=ħ (below_drewN (Below.refl w.heap.size w) nq)
 have H1:=ħ (H0.o.step hB.o)
 clear c3
 generalize w.drewN nq=wd at *
 obtain⟨c0,c1,c2,c3,c4⟩:=H1.o.cells
 clear c0 c2 c3 c4
 go_wp2_with fail
 refine (sfail_later wd R ao cap ts sz i x y 12 i H1.o HX.o).mono ?_
 rintro e w2 ⟨rfl,rfl⟩
 go_wp2
 go_ret
 exact⟨rfl,hB.o⟩
theorem snum_end (w:World) (R:Nat) (ao:Option Addr) (cap:Nat) (ts:List Tok) (sz i:Nat) (y:Int) (h:SrcW w R ao cap ts sz i 0 y) (hk:¬ i<ts.length) (hi:i≤ts.length) (hn:ts.length≤1000000) :
  Calls Tryz.prog 295 #[.pointer (some ⟨R,0,none⟩)] w fun e w'=>e = .returned (.int .i64 0)∧SrcW w' R ao cap ts sz i 12 (offP ts sz i:Nat)∧Only w w' (· = R):=by
 have H0:=ħ h
 obtain⟨c0,c1,c2,c3,c4⟩:=h.cells
 have hkb:decide ((i:Int)<(ts.length:Int))=false:=decide_eq_false (by omega)
 have hkc:decide (i<ts.length)=false:=decide_eq_false hk
 clear h c2 c4 hk
 go_enter Tryz.func295,Tryz.ntmps295
 go_wp2_with fail
 go_quiet (fail)
 have hB:=ħ (below_drewN (Below.refl w.heap.size w) nq)
 have H1:=ħ (H0.o.step hB.o)
 clear c3 c0 c1
 generalize w.drewN nq=wd at *
 obtain⟨c0,c1,c2,c3,c4⟩:=H1.o.cells
 clear c0 c2 c3 c4
 go_wp2_with fail
 refine (sfail_first wd R ao cap ts sz i i y 12 H1.o hi hn).mono ?_
 rintro e w2 ⟨rfl,h2,o2⟩
 have H2:=ħ h2
 have O2:=ħ o2
 clear h2 o2
 go_wp2
 go_ret
 exact⟨rfl,H2.o,(Only.of_below hB.o).trans O2.o⟩
theorem snum_at (w:World) (R:Nat) (ao:Option Addr) (cap:Nat) (ts:List Tok) (sz i:Nat) (y:Int) (h:SrcW w R ao cap ts sz i 0 y) (hlt:i<ts.length) (hn:ts.length≤1000000) :
  Calls Tryz.prog 295 #[.pointer (some ⟨R,0,none⟩)] w fun e w'=>Only w w' (· = R) ∧
   (isNumP ts i=true→e = .returned (.int .i64 (valP ts i:Nat))∧SrcW w' R ao cap ts sz (i+1) 0 y)∧(isNumP ts i=false→e = .returned (.int .i64 0)∧SrcW w' R ao cap ts sz i 12 (offP ts sz i:Nat)):=by
 have H0:=ħ h
 have hkb:decide ((i:Int)<(ts.length:Int))=true:=decide_eq_true (by omega)
 have hkc:decide (i<ts.length)=true:=decide_eq_true hlt
 have HV:=ħ (isNumP_at (ts:=ts) (i:=i) hlt)
 have HVV:=ħ (valP_at (ts:=ts) (i:=i) hlt)
 have e2:IntKind.i64.wrap ((i:Int)+1)=(i:Int)+1:=IntWalk.i64_in _ (by omega)
 obtain⟨V,hV⟩:∃ V,isNumP ts i=V:=⟨_,rfl⟩
 obtain⟨N,hN⟩:∃ N,valP ts i=N:=⟨_,rfl⟩
 rw[hV] at HV ⊢
 rw[hN] at HVV ⊢
 clear hV hN h
 have HLT:=ħ hlt
 go_enter Tryz.func295,Tryz.ntmps295
 obtain⟨c0,c1,c2,c3,c4⟩:=H0.o.cells
 go_wp2_with fail
 go_quiet (fail)
 have H1:=ħ (H0.o.step (below_drewN (Below.refl w.heap.size w) nq))
 have B1:=ħ (below_drewN (Below.refl w.heap.size w) nq)
 clear c0 c1 c2 c3 c4
 generalize w.drewN nq=w1 at *
 go_upto_region 2 with (fail)
 obtain⟨c0,c1,c2,c3,c4⟩:=H1.o.cells
 obtain⟨g,off,hao,hg,t0,t1,t2,t3,-⟩:=H1.o.tok i HLT.o
 subst hao
 have A1:=(Below.refl w1.heap.size w1).alloc (Nat.le_refl _) (.cells #[.int .i64 0,.string ⟨#[]⟩,.int .i64 0,.int .i64 0] 169)
 have H2:=ħ (H1.o.step A1)
 clear A1
 obtain⟨d0,d1,d2,d3,d4⟩:=H2.o.cells
 obtain⟨g',off',hao,hg',u0,u1,u2,u3,-⟩:=H2.o.tok i HLT.o
 obtain⟨rfl,rfl⟩:g=g'∧off=off':=by simp only[Option.some.injEq,Addr.mk.injEq] at hao;exact⟨hao.1,hao.2.1⟩
 clear hao
 generalize tokAt ts i=T at *
 have ij:(i:Int)<ts.length:=by have:=HLT.o;omega
 clear hkb hkc
 go_region
 clear c0 c1 c2 c3 c4 d0 d1 d2 d3 d4 t0 t1 t2 t3 u0 u1 u2 u3 H2
 have T3:Hid (HasT (w1.alloc (.cells #[.int .i64 T.k,.string (strN T.t),.int .i64 T.n,.int .i64 T.p] 169)).drew w1.heap.size T):=ħ (HasT.new w1 T)
 have A3:=ħ (((Below.refl w1.heap.size w1).alloc (Nat.le_refl _) (.cells #[.int .i64 T.k,.string (strN T.t),.int .i64 T.n,.int .i64 T.p] 169)).drew)
 have H3:=ħ (H1.o.step A3.o)
 generalize (w1.alloc (.cells #[.int .i64 T.k,.string (strN T.t),.int .i64 T.n,.int .i64 T.p] 169)).drew=w3 at *
 obtain⟨c0,c1,c2,c3,c4⟩:=H3.o.cells
 obtain⟨q0,q1,q2,q3⟩:=T3.o.cells
 have f1:=H3.o.warm 1
 clear c0 c2 c3 c4 q1 q3
 obtain⟨κ,hκ⟩:∃ κ,T.k=κ:=⟨_,rfl⟩
 rw[hκ] at HV q0 ⊢
 clear hκ
 by_cases k1:κ=1
 ·have hV:V=true:=by rw[HV.o,k1];rfl
  have k1b:(κ==1)=true:=beq_iff_eq.mpr k1
  have HVT:=ħ hV
  have q4:=(cell_set_other w3 ⟨R,1,none⟩ (.int .i64 ((i:Int)+1)) ⟨w1.heap.size,2,none⟩ (by have:=H1.o.lt;show w1.heap.size≠R;omega)).trans q2
  clear k1 hV
  go_wp2_with fail
  go_ret
  refine⟨((Only.of_below B1.o).step A3.o).trans (SrcW.nextOnly R 1 _),fun _=>⟨ret_int (by rw[HVV.o]),H3.o.next (i+1)⟩,fun hf=>?_⟩
  rw[HVT.o] at hf;cases hf
 ·have k1b:(κ==1)=false:=beq_eq_false_iff_ne.mpr k1
  have HVF:Hid (V=false):=ħ (by rw[HV.o];exact k1b)
  clear k1
  go_wp2_with fail
  refine (sfail_first w3 R _ cap ts sz i i y 12 H3.o (Nat.le_of_lt HLT.o) hn).mono ?_
  rintro e w4 ⟨rfl,h4,o4⟩
  have H4:=ħ h4
  have O4:=ħ o4
  clear h4 o4
  go_wp2
  go_ret
  refine⟨((Only.of_below B1.o).step A3.o).trans O4.o,fun hf=>?_,fun _=>⟨rfl,H4.o⟩⟩
  rw[HVF.o] at hf;cases hf
theorem snum_any (w:World) (R:Nat) (ao:Option Addr) (cap:Nat) (ts:List Tok) (sz i:Nat) (y:Int) (h:SrcW w R ao cap ts sz i 0 y) (hi:i≤ts.length) (hn:ts.length≤1000000) :
  Calls Tryz.prog 295 #[.pointer (some ⟨R,0,none⟩)] w fun e w'=>Only w w' (· = R)∧match numP ts sz i with
   | .ok r=>e = .returned (.int .i64 (r.1:Nat))∧SrcW w' R ao cap ts sz r.2 0 y
   | .error z=>e = .returned (.int .i64 0)∧SrcW w' R ao cap ts sz i z.1 (z.2:Nat):=by
 by_cases hlt:i<ts.length
 ·refine (snum_at w R ao cap ts sz i y h hlt hn).mono ?_
  rintro e w' ⟨o,h1,h2⟩
  cases hq:isNumP ts i with
  | true=>rw[numP_yes hq];exact⟨o,h1 hq⟩
  | false=>rw[numP_no hq];exact⟨o,h2 hq⟩
 ·have hq:isNumP ts i=false:=by unfold isNumP;rw[List.getElem?_eq_none (by omega)]
  refine (snum_end w R ao cap ts sz i y h hlt hi hn).mono ?_
  rintro e w' ⟨h1,h2,o⟩
  rw[numP_no hq]
  exact⟨o,h1,h2⟩
end
end Go.Proofs.YtmkdfbelbcocpaaGreatDoor
