import Derived.Defers
import Derived.Recover
import Derived.Test.YtmkdfbelbcocpaaGreatDoorCD11
import Derived.Test.YtmkdfbelbcocpaaGreatDoorCD0
set_option linter.unusedVariables false
set_option linter.unusedSimpArgs false
set_option maxHeartbeats 4000000
set_option maxRecDepth 100000
namespace Go.Proofs.YtmkdfbelbcocpaaGreatDoor
section
open Go.RowKit
theorem Zlz (w:World) (P:Nat→Prop) (p:Prd) (vs:List Value) (h:Zai w P p vs) (hc:Za8 p≤1000000) :
  Calls Tryz.prog 76 #[.agg vs.toArray] w fun e w'=>e = .returned (.bool (Zeh p))∧Below w.heap.size w w':=by
 obtain⟨a,n,c,rfl,-⟩:=h.form
 have h2:=h.mono (P':=fun g=>g<w.heap.size) (fun g _ hl=>hl)
 have b1:=((Below.refl w.heap.size w).alloc (Nat.le_refl _) (.cells #[.int .i64 p.k,.string (Zad p.l),.string (Zad p.r),.int .i64 p.c,.slice a n c] 25)).alloc (by simp) (.cells #[.int .i64 100] 3)
 have PX:=ħ (h2.below b1)
 have QX:Hid (Zah ((w.alloc (.cells #[.int .i64 p.k,.string (Zad p.l),.string (Zad p.r),.int .i64 p.c,.slice a n c] 25)).alloc (.cells #[.int .i64 100] 3)) (w.heap.size+1) 3 [.int .i64 ((100:Nat):Int)]):=ħ (heap_alloc2_new w _ _)
 have BX:=ħ b1
 clear h h2 b1
 generalize p.k=q0 at *
 generalize Zad p.l=q1 at *
 generalize Zad p.r=q2 at *
 generalize p.c=q3 at *
 go_enter Tryz.func76,Tryz.ntmps76
 go_wp2_with fail
 generalize (w.alloc (.cells #[.int .i64 q0,.string q1,.string q2,.int .i64 q3,.slice a n c] 25)).alloc (.cells #[.int .i64 100] 3)=wx at *
 refine (Zqa 12 p wx _ _ (w.heap.size+1) 100 (by omega) (by omega) hc PX.o QX.o (fun g hg=>by omega)).mono ?_
 rintro e w2 ⟨o2,h1,h0⟩
 have B2:=ħ (BX.o.trans (o2.below (B:=w.heap.size) BX.o.size (fun g hg=>by omega)))
 by_cases hs:Za8 p≤100∧Zsd p≤12
 ·obtain⟨rfl,-⟩:=h1 hs
  have HS:Hid (Zeh p=true):=ħ (by unfold Zeh;rw[decide_eq_true hs.1,decide_eq_true hs.2];rfl)
  clear h1 h0 hs o2
  go_wp2
  go_ret
  exact⟨Zag HS.o.symm,B2.o⟩
 ·obtain rfl:=h0 hs
  have HS:Hid (Zeh p=false):=ħ (by
   unfold Zeh
   rw[Bool.eq_false_iff]
   intro h
   simp only[Bool.and_eq_true,decide_eq_true_eq] at h
   exact hs h)
  clear h1 h0 hs o2
  go_wp2
  go_ret
  exact⟨Zag HS.o.symm,B2.o⟩
theorem Zso (w:World) (x y:Int):(Instr.typeAssert (.iface 100 (.agg #[.int .i64 x,.int .i64 y])) 20 100 true).run Tryz.prog w = .ok (.tuple #[.agg #[.int .i64 x,.int .i64 y],.bool true]) w:=by kernel_rfl
theorem Z2l (w:World) (v:Value):(binOp .neq 20 (.iface 100 v) .nilIface).run Tryz.prog w = .ok (.bool true) w:=by kernel_rfl
theorem Z5o (a b c d v:Value):#[a,b,c,d]++((Array.replicate 19 undef).setIfInBounds 3 v).setIfInBounds 0 v=#[a,b,c,d,v,undef,undef,v,undef,undef,undef,undef,undef,undef,undef,undef,undef,undef,undef,undef,undef,undef,undef]:=by
 simp[Array.replicate,List.replicate]
theorem Z56 {P:Program} {c:Code} {Q:Exit→Act→World→Prop} {a:Act} {w:World} (h:∀ Q':Exit→Act→World→Prop,Q'=Q→c.wp P Q' a w):c.wp P Q a w:=h Q rfl
theorem Zsp (nb pb ab eb:Nat) (x y:Int) (n0:ByteArray) (v0:List Value) (a0 e0:Int) (older:List PanicEntry) (w:World) (hn:Zah w nb 9 [.string n0]) (hp:Zah w pb 25 v0) (hv0:v0.length=5) (ha:Zah w ab 3 [.int .i64 a0]) (he:Zah w eb 26 [.int .i64 e0])
  (h1:nb≠pb∧nb≠ab∧nb≠eb∧pb≠ab∧pb≠eb∧ab≠eb) :
  CallsD Tryz.prog 71 #[.pointer (some ⟨nb,0,none⟩),.pointer (some ⟨pb,0,none⟩),.pointer (some ⟨ab,0,none⟩),.pointer (some ⟨eb,0,none⟩)] (.panicking ({ v:=.iface 100 (.agg #[.int .i64 x,.int .i64 y]),recovered:=false }::older)) w fun e u' w' =>
   e = .returned (.tuple #[])∧u' = .panicking ({ v:=.iface 100 (.agg #[.int .i64 x,.int .i64 y]),recovered:=true }::older) ∧
   Zah w' nb 9 [.string ⟨#[]⟩]∧Zah w' pb 25 Zb0∧Zah w' ab 3 [.int .i64 y]∧Zah w' eb 26 [.int .i64 x]∧Only w w' (fun g=>g=nb∨g=pb∨g=ab∨g=eb):=by
 refine callsD_of_wpS Tryz.func71 rfl fun c₀ cs hu=>?_
 apply wpS_seq
 apply wpS_region
 simp[wpOpsS,go_sem,recoverD,hu,Tryz.ntmps71,Exit.thenS]
 refine wpS_of_wp (Z56 ?_)
 intro QQ hQ
 have HQ:=ħ hQ
 clear hQ
 have HU:=ħ hu
 clear hu
 rw[Z5o]
 have t1:=Zso
 have t2:=Z2l
 have N0:=ħ hn
 have V0:=ħ hp
 have A0:=ħ ha
 have E0:=ħ he
 have H1:=ħ h1
 clear hn hp ha he h1
 have BL:Hid (nb<w.heap.size∧pb<w.heap.size∧ab<w.heap.size∧eb<w.heap.size):=ħ ⟨N0.o.lt,V0.o.lt,A0.o.lt,E0.o.lt⟩
 go_wp2_with fail
 have bx:=(Below.refl w.heap.size w).alloc (Nat.le_refl _) (.cells #[.int .i64 x,.int .i64 y] 100)
 have X1:Hid (Zah (w.alloc (.cells #[.int .i64 x,.int .i64 y] 100)) w.heap.size 100 [.int .i64 x,.int .i64 y]):=ħ (heap_alloc_new w _)
 have N1:=ħ (N0.o.step bx)
 have V1:=ħ (V0.o.step bx)
 have A1:=ħ (A0.o.step bx)
 have E1:=ħ (E0.o.step bx)
 have O1:=ħ (Only.of_below (p:=fun g=>g=nb∨g=pb∨g=ab∨g=eb) bx)
 clear bx N0 V0 A0 E0 t1 t2
 generalize w.alloc (.cells #[.int .i64 x,.int .i64 y] 100)=w1 at *
 have x0:=X1.o.cell 0 _ rfl
 have x1:=X1.o.cell 1 _ rfl
 refine Zaw [0,1,2,3,4] [5,6,7,8] (fun w'=>w'.cell? ⟨w.heap.size,0,none⟩=some (.int .i64 x)∧w'.cell? ⟨w.heap.size,1,none⟩=some (.int .i64 y)) (by kernel_rfl) (by kernel_rfl) (by kernel_rfl) (fun c a d v w' hh=>by rw[HQ.o] at hh ⊢;cases d<;>exact hh) ⟨x0,x1⟩ ?_
 simp only[Zbx,List.filterMap_cons,List.filterMap_nil,List.getElem?_cons_zero,List.getElem?_cons_succ,Option.map_some,List.map_cons,List.map_nil]
 apply Exists.intro
 refine⟨?hh,?ht⟩
 case hh =>
  intro w' hw'
  obtain⟨d0,d1⟩:=hw'
  repeat still_step
  exact wpStill_nil rfl
 case ht =>
  have BD:Below w1.heap.size w1 w1.drew:=(Below.refl w1.heap.size w1).drew
  have X2:=ħ (X1.o.step BD)
  have N2:=ħ (N1.o.step BD)
  have V2:=ħ (V1.o.step BD)
  have A2:=ħ (A1.o.step BD)
  have E2:=ħ (E1.o.step BD)
  have O2:=ħ (O1.o.step BD)
  clear BD X1 N1 V1 A1 E1 O1
  generalize w1.drew=w2 at *
  refine Zaf ?_
  have m:=N2.o.cell 0 _ rfl
  have f:=N2.o.warm 0
  go_wp2_with fail
  clear m f
  have U3:=ħ (Zaj w2 ⟨nb,0,none⟩ (.string ⟨#[]⟩))
  have N3:Hid (Zah (w2.setCell ⟨nb,0,none⟩ (.string ⟨#[]⟩)) nb 9 [.string ⟨#[]⟩]):=ħ (N2.o.set 0 _)
  have V3:=ħ (V2.o.upd U3.o (fun e=>H1.o.1 e.symm))
  have A3:=ħ (A2.o.upd U3.o (fun e=>H1.o.2.1 e.symm))
  have E3:=ħ (E2.o.upd U3.o (fun e=>H1.o.2.2.1 e.symm))
  have X3:=ħ (X2.o.upd U3.o (by have:=BL.o;show w.heap.size≠nb;omega))
  have O3:=ħ (O2.o.setCell (a:=⟨nb,0,none⟩) (.string ⟨#[]⟩) (.inl rfl))
  clear U3 N2 V2 A2 E2 X2 O2
  generalize w2.setCell ⟨nb,0,none⟩ (.string ⟨#[]⟩)=w3 at *
  refine Zaa ⟨⟨X3.o.cell 0 _ rfl,X3.o.cell 1 _ rfl⟩,?_⟩
  refine Zaf ?_
  go_wp2_with (refine Zab rfl 25 (.tmp 1) (.tmp 18) rfl pb Zb0.toArray ?s1 ?s2 25 _ V3.o (Zae _ rfl) ?s3 (by simp[Zb0,Value.oneCell']) ?_;(case s1=>rfl);(case s2=>rfl);(case s3=>rw[List.size_toArray,hv0];rfl);intro w4 s4 u4;have V4:Hid (Zah w4 pb 25 Zb0):=ħ s4;have U4:=ħ u4;clear s4 u4)
  have N4:=ħ (N3.o.upd U4.o H1.o.1)
  have A4:=ħ (A3.o.upd U4.o (fun e=>H1.o.2.2.2.1 e.symm))
  have E4:=ħ (E3.o.upd U4.o (fun e=>H1.o.2.2.2.2.1 e.symm))
  have X4:=ħ (X3.o.upd U4.o (by have:=BL.o;omega))
  have O4:=ħ (O3.o.trans (U4.o.only (.inr (.inl rfl))))
  clear N3 V3 A3 E3 X3 O3 U4
  refine Zaa ⟨⟨X4.o.cell 0 _ rfl,X4.o.cell 1 _ rfl⟩,?_⟩
  refine Zaf ?_
  have m:=A4.o.cell 0 _ rfl
  have f:=A4.o.warm 0
  go_wp2_with fail
  clear m f
  have U5:=ħ (Zaj w4 ⟨ab,0,none⟩ (.int .i64 y))
  have A5:Hid (Zah (w4.setCell ⟨ab,0,none⟩ (.int .i64 y)) ab 3 [.int .i64 y]):=ħ (A4.o.set 0 _)
  have N5:=ħ (N4.o.upd U5.o H1.o.2.1)
  have V5:=ħ (V4.o.upd U5.o H1.o.2.2.2.1)
  have E5:=ħ (E4.o.upd U5.o (fun e=>H1.o.2.2.2.2.2 e.symm))
  have X5:=ħ (X4.o.upd U5.o (by have:=BL.o;show w.heap.size≠ab;omega))
  have O5:=ħ (O4.o.setCell (a:=⟨ab,0,none⟩) (.int .i64 y) (.inr (.inr (.inl rfl))))
  clear U5 N4 V4 A4 E4 X4 O4
  generalize w4.setCell ⟨ab,0,none⟩ (.int .i64 y)=w5 at *
  refine Zaa ⟨⟨X5.o.cell 0 _ rfl,X5.o.cell 1 _ rfl⟩,?_⟩
  refine Zaz ?_
  have m:=E5.o.cell 0 _ rfl
  have f:=E5.o.warm 0
  go_wp2_with fail
  clear m f
  have U6:=ħ (Zaj w5 ⟨eb,0,none⟩ (.int .i64 x))
  have E6:Hid (Zah (w5.setCell ⟨eb,0,none⟩ (.int .i64 x)) eb 26 [.int .i64 x]):=ħ (E5.o.set 0 _)
  have N6:=ħ (N5.o.upd U6.o H1.o.2.2.1)
  have V6:=ħ (V5.o.upd U6.o H1.o.2.2.2.2.1)
  have A6:=ħ (A5.o.upd U6.o H1.o.2.2.2.2.2)
  have O6:=ħ (O5.o.setCell (a:=⟨eb,0,none⟩) (.int .i64 x) (.inr (.inr (.inr rfl))))
  rw[HQ.o]
  exact⟨rfl,_,rfl,_,results_none rfl _ _ _,rfl,rfl,N6.o,V6.o,A6.o,E6.o,O6.o⟩
theorem Zvu (a b c d:Value) (w:World) :
  CallsD Tryz.prog 71 #[a,b,c,d] .returning w fun e u' w'=>e = .returned (.tuple #[])∧u' = .returning∧w'=w:=by
 refine callsD_of_wpS Tryz.func71 rfl fun c₀ cs hu=>?_
 apply wpS_seq
 apply wpS_region
 simp[wpOpsS,go_sem,recoverD,hu,Tryz.ntmps71,Exit.thenS]
 rw[Z5o]
 apply wpS_seq
 apply wpS_region
 simp[wpOpsS,go_sem,Exit.thenS]
 refine wpS_cond (t:=false) (by simp[Act.eval,Array.replicate]) ?_
 simp only[Bool.false_eq_true,if_false]
 refine wpS_of_wp (wp_skip ?_)
 cases c₀
 simp_all [bodyPostS,results,Tryz.results71]
end
section
open Go.RowKit
structure Res (w:World) (B:Nat) (n:ByteArray) (pv:List Value) (y x:Int):Prop where
 nm:Zah w B 9 [.string n]
 pr:Zah w (B+1) 25 pv
 att:Zah w (B+2) 3 [.int .i64 y]
 err:Zah w (B+3) 26 [.int .i64 x]
theorem Res.below {w w':World} {B C:Nat} {n:ByteArray} {pv:List Value} {y x:Int} (h:Res w B n pv y x) (hb:Below C w w') (hC:B+4≤C):Res w' B n pv y x :=
 ⟨h.nm.below hb (by omega),h.pr.below hb (by omega),h.att.below hb (by omega),h.err.below hb (by omega)⟩
theorem Res.step {w w':World} {B:Nat} {n:ByteArray} {pv:List Value} {y x:Int} (h:Res w B n pv y x) (hb:Below w.heap.size w w'):Res w' B n pv y x :=
 ⟨h.nm.step hb,h.pr.step hb,h.att.step hb,h.err.step hb⟩
theorem Res.only {w w':World} {B:Nat} {p:Nat→Prop} {n:ByteArray} {pv:List Value} {y x:Int} (h:Res w B n pv y x) (hb:Only w w' p) (hp:∀ g,p g→B+4≤g):Res w' B n pv y x :=
 ⟨h.nm.only hb (fun e=>by have:=hp _ e;omega),h.pr.only hb (fun e=>by have:=hp _ e;omega),h.att.only hb (fun e=>by have:=hp _ e;omega),h.err.only hb (fun e=>by have:=hp _ e;omega)⟩
theorem Z2m (w:World) (g:Nat) (n:ByteArray) (h:Zah w g 9 [.string n]):(loadVar 9 ⟨g,0,none⟩).run Tryz.prog w = .ok (.string n) w:=by
 have hc:=h.cell 0 _ rfl
 simp[loadVar,go_sem,hc]
theorem Z2n (w:World) (g:Nat) (n:Int) (h:Zah w g 3 [.int .i64 n]):(loadVar 3 ⟨g,0,none⟩).run Tryz.prog w = .ok (.int .i64 n) w:=by
 have hc:=h.cell 0 _ rfl
 simp[loadVar,go_sem,hc]
theorem Z2o (w:World) (g:Nat) (n:Int) (h:Zah w g 26 [.int .i64 n]):(loadVar 26 ⟨g,0,none⟩).run Tryz.prog w = .ok (.int .i64 n) w:=by
 have hc:=h.cell 0 _ rfl
 simp[loadVar,go_sem,hc]
theorem Zo2 {P:Program} {fn:Func} {p q r s:Tmp} {t1 t2 t3 t4:TypeId} (h:fn.results=#[.cell p t1,.cell q t2,.cell r t3,.cell s t4]) (tmps:Array Value) (w:World) (a b c d:Addr) (v1 v2 v3 v4:Value)
  (hp:tmps.getD p undef = .pointer (some a)) (hq:tmps.getD q undef = .pointer (some b)) (hr:tmps.getD r undef = .pointer (some c)) (hs:tmps.getD s undef = .pointer (some d))
  (h1:(loadVar t1 a).run P w = .ok v1 w) (h2:(loadVar t2 b).run P w = .ok v2 w) (h3:(loadVar t3 c).run P w = .ok v3 w) (h4:(loadVar t4 d).run P w = .ok v4 w) :
  (results fn tmps).run P w = .ok (.tuple #[v1,v2,v3,v4]) w:=by
 simp only[Array.getD_eq_getD_getElem?] at hp hq hr hs
 simp[results,h,hp,hq,hr,hs,asAddr,h1,h2,h3,h4]
theorem Zgf (tmps:Array Value) (w:World) (B:Nat) (n:ByteArray) (pv:List Value) (y x:Int) (h:Res w B n pv y x) (hl:pv.length=5)
  (hp:tmps.getD 2 undef = .pointer (some ⟨B,0,none⟩)) (hq:tmps.getD 3 undef = .pointer (some ⟨B+1,0,none⟩)) (hr:tmps.getD 4 undef = .pointer (some ⟨B+2,0,none⟩)) (hs:tmps.getD 5 undef = .pointer (some ⟨B+3,0,none⟩)) :
  (results Tryz.f17 tmps).run Tryz.prog w = .ok (.tuple #[.string n,.agg pv.toArray,.int .i64 y,.int .i64 x]) w :=
 Zo2 (by kernel_rfl) tmps w _ _ _ _ _ _ _ _ hp hq hr hs (Z2m _ _ _ h.nm) (run_loadVar_row w (B+1) _ _ _ (0,0) _ h.pr Tryz.underlying25 rfl (Zae _ hl)) (Z2n _ _ _ h.att) (Z2o _ _ _ h.err)
theorem Zes {R:Ending→World→Prop} (a:Act) (w:World) (B:Nat) (n:ByteArray) (pv:List Value) (y0 x0 x y:Int) (h:Res w B n pv y0 x0) (hl:pv.length=5)
  (hp:a.tmps.getD 2 undef = .pointer (some ⟨B,0,none⟩)) (hq:a.tmps.getD 3 undef = .pointer (some ⟨B+1,0,none⟩)) (hr:a.tmps.getD 4 undef = .pointer (some ⟨B+2,0,none⟩)) (hs:a.tmps.getD 5 undef = .pointer (some ⟨B+3,0,none⟩))
  (hd:a.defers=[{ target:=.fn (.func 71) #[.pointer (some ⟨B,0,none⟩),.pointer (some ⟨B+1,0,none⟩),.pointer (some ⟨B+2,0,none⟩),.pointer (some ⟨B+3,0,none⟩)],args:=#[] }])
  (hR:∀ w',Only w w' (fun g=>B≤g)→R (.returned (.tuple #[.string ⟨#[]⟩,.agg Zb0.toArray,.int .i64 y,.int .i64 x])) w') :
  bodyPostD Tryz.prog Tryz.f17 R (.panic [{ v:=.iface 100 (.agg #[.int .i64 x,.int .i64 y]),recovered:=false }]) a w:=by
 show Leaves _ _ a.tmps R a.defers _ w
 rw[hd]
 refine leaves_cons (f:=71) (args:=#[.pointer (some ⟨B,0,none⟩),.pointer (some ⟨B+1,0,none⟩),.pointer (some ⟨B+2,0,none⟩),.pointer (some ⟨B+3,0,none⟩)]) (by simp) (by simp[go_sem]) ?_
 refine (Zsp B (B+1) (B+2) (B+3) x y n pv y0 x0 [] w h.nm h.pr hl h.att h.err (by omega)).mono ?_
 rintro e u' w' ⟨rfl,rfl,h1,h2,h3,h4,ho⟩
 show Leaves _ _ a.tmps R [] _ w'
 exact⟨_,Zgf a.tmps w' B ⟨#[]⟩ Zb0 y x ⟨h1,h2,h3,h4⟩ rfl hp hq hr hs,hR w' (ho.mono (fun g _ hg=>by omega))⟩
theorem Zua {R:Ending→World→Prop} (a:Act) (w:World) (B:Nat) (n:ByteArray) (pv:List Value) (x y:Int) (h:Res w B n pv y x) (hl:pv.length=5)
  (hp:a.tmps.getD 2 undef = .pointer (some ⟨B,0,none⟩)) (hq:a.tmps.getD 3 undef = .pointer (some ⟨B+1,0,none⟩)) (hr:a.tmps.getD 4 undef = .pointer (some ⟨B+2,0,none⟩)) (hs:a.tmps.getD 5 undef = .pointer (some ⟨B+3,0,none⟩))
  (hd:a.defers=[{ target:=.fn (.func 71) #[.pointer (some ⟨B,0,none⟩),.pointer (some ⟨B+1,0,none⟩),.pointer (some ⟨B+2,0,none⟩),.pointer (some ⟨B+3,0,none⟩)],args:=#[] }])
  (hR:R (.returned (.tuple #[.string n,.agg pv.toArray,.int .i64 y,.int .i64 x])) w) :
  bodyPostD Tryz.prog Tryz.f17 R .ret a w:=by
 show Leaves _ _ a.tmps R a.defers _ w
 rw[hd]
 refine leaves_cons (f:=71) (args:=#[.pointer (some ⟨B,0,none⟩),.pointer (some ⟨B+1,0,none⟩),.pointer (some ⟨B+2,0,none⟩),.pointer (some ⟨B+3,0,none⟩)]) (by simp) (by simp[go_sem]) ?_
 refine (Zvu _ _ _ _ w).mono ?_
 rintro e u' w' ⟨rfl,rfl,rfl⟩
 show Leaves _ _ a.tmps R [] _ w'
 exact⟨_,Zgf a.tmps w' B n pv y x h hl hp hq hr hs,hR⟩
theorem Zvv {R:Ending→World→Prop} (a:Act) (w:World) (B:Nat) (n:ByteArray) (pv:List Value) (x y:Int) (h:Res w B n pv y x) (hl:pv.length=5)
  (hp:a.tmps.getD 2 undef = .pointer (some ⟨B,0,none⟩)) (hq:a.tmps.getD 3 undef = .pointer (some ⟨B+1,0,none⟩)) (hr:a.tmps.getD 4 undef = .pointer (some ⟨B+2,0,none⟩)) (hs:a.tmps.getD 5 undef = .pointer (some ⟨B+3,0,none⟩))
  (hd:a.defers=[])
  (hR:R (.returned (.tuple #[.string n,.agg pv.toArray,.int .i64 y,.int .i64 x])) w) :
  bodyPostD Tryz.prog Tryz.f17 R .ret a w:=by
 show Leaves _ _ a.tmps R a.defers _ w
 rw[hd]
 exact⟨_,Zgf a.tmps w B n pv y x h hl hp hq hr hs,hR⟩
end
section
open Go.RowKit
def Znz (w:World) (l:List Nat) (e:Ending) (w':World):Prop:=∃ v,e = .returned (.tuple #[.string (Zad (Zce l).1),v,.int .i64 ((Zce l).2.2.1:Nat),.int .i64 (Zce l).2.2.2])∧Zpt w.heap.size w' (Zce l).2.1 v∧Below w.heap.size w w'
theorem Res.setAt {w:World} {B:Nat} {n:ByteArray} {pv:List Value} {y x:Int} (h:Res w B n pv y x) (z:Int):Res (w.setCell ⟨B+2,0,none⟩ (.int .i64 z)) B n pv z x :=
 ⟨h.nm.upd (Zaj _ _ _) (by show B≠B+2;omega),h.pr.upd (Zaj _ _ _) (by show B+1≠B+2;omega),h.att.set 0 _,h.err.upd (Zaj _ _ _) (by show B+3≠B+2;omega)⟩
theorem Res.setErr {w:World} {B:Nat} {n:ByteArray} {pv:List Value} {y x:Int} (h:Res w B n pv y x) (z:Int):Res (w.setCell ⟨B+3,0,none⟩ (.int .i64 z)) B n pv y z :=
 ⟨h.nm.upd (Zaj _ _ _) (by show B≠B+3;omega),h.pr.upd (Zaj _ _ _) (by show B+1≠B+3;omega),h.att.upd (Zaj _ _ _) (by show B+2≠B+3;omega),h.err.set 0 _⟩
theorem Res.setNm {w:World} {B:Nat} {n:ByteArray} {pv:List Value} {y x:Int} (h:Res w B n pv y x) (z:ByteArray):Res (w.setCell ⟨B,0,none⟩ (.string z)) B z pv y x :=
 ⟨h.nm.set 0 _,h.pr.upd (Zaj _ _ _) (by show B+1≠B;omega),h.att.upd (Zaj _ _ _) (by show B+2≠B;omega),h.err.upd (Zaj _ _ _) (by show B+3≠B;omega)⟩
theorem Res.setPr {w w':World} {B:Nat} {n:ByteArray} {pv qv:List Value} {y x:Int} (h:Res w B n pv y x) (hu:Upd w w' (B+1)) (hq:Zah w' (B+1) 25 qv):Res w' B n qv y x :=
 ⟨h.nm.upd hu (by omega),hq,h.att.upd hu (by omega),h.err.upd hu (by omega)⟩
theorem Zah.newAt (w:World) (t:TypeId) (cs:List Value) (g:Nat) (hg:g=w.heap.size):Zah (w.alloc (.cells cs.toArray t)) g t cs:=by subst hg;exact Zah.new w t cs
theorem Res.new (w:World):Res ((((w.alloc (.cells #[.string ⟨#[]⟩] 9)).alloc (.cells #[.int .i64 0,.string ⟨#[]⟩,.string ⟨#[]⟩,.int .i64 0,.slice none 0 0] 25)).alloc (.cells #[.int .i64 0] 3)).alloc (.cells #[.int .i64 0] 26)) w.heap.size ⟨#[]⟩ Zb0 0 0:=by
 have n1:=Zah.newAt w 9 [.string ⟨#[]⟩] w.heap.size rfl
 generalize hw:w.alloc _=w1 at n1 ⊢
 have s1:w1.heap.size=w.heap.size+1:=by rw[← hw];simp
 have b2:=(Below.refl _ w1).alloc (Nat.le_refl _) (.cells #[.int .i64 0,.string ⟨#[]⟩,.string ⟨#[]⟩,.int .i64 0,.slice none 0 0] 25)
 have n2:=Zah.newAt w1 25 Zb0 (w.heap.size+1) s1.symm
 have n1:=n1.step b2
 unfold Zb0 at n2
 generalize hw2:w1.alloc _=w2 at n1 n2 ⊢
 have s2:w2.heap.size=w.heap.size+2:=by rw[← hw2];simp[s1]
 have b3:=(Below.refl _ w2).alloc (Nat.le_refl _) (.cells #[.int .i64 0] 3)
 have n3:=Zah.newAt w2 3 [.int .i64 0] (w.heap.size+2) s2.symm
 have n1:=n1.step b3
 have n2:=n2.step b3
 generalize hw3:w2.alloc _=w3 at n1 n2 n3 ⊢
 have s3:w3.heap.size=w.heap.size+3:=by rw[← hw3];simp[s2]
 have b4:=(Below.refl _ w3).alloc (Nat.le_refl _) (.cells #[.int .i64 0] 26)
 exact⟨n1.step b4,n2.step b4,n3.step b4,Zah.newAt w3 26 [.int .i64 0] (w.heap.size+3) s3.symm⟩
theorem Res.setP {w:World} {B:Nat} {n:ByteArray} {pv:List Value} {y x:Int} (h:Res w B n pv y x) (i:Nat) (v:Value):Res (w.setCell ⟨B+1,i,none⟩ v) B n (pv.set i v) y x :=
 ⟨h.nm.upd (Zaj _ _ _) (by show B≠B+1;omega),h.pr.set i v,h.att.upd (Zaj _ _ _) (by show B+2≠B+1;omega),h.err.upd (Zaj _ _ _) (by show B+3≠B+1;omega)⟩
theorem Res.drew {w:World} {B:Nat} {n:ByteArray} {pv:List Value} {y x:Int} (h:Res w B n pv y x):Res w.drew B n pv y x:=⟨h.nm,h.pr,h.att,h.err⟩
theorem _root_.Go.RowKit.Below.cellAt {B:Nat} {a w:World} (h:Below B a w) (b i:Nat) (hp:B≤b) (u:Value):Below B a (w.setCell ⟨b,i,none⟩ u):=h.setCell (p:=⟨b,i,none⟩) hp u
theorem Zai.cellAt {P:Nat→Prop} {w:World} {p:Prd} {vs:List Value} (h:Zai w P p vs) (b i:Nat) (hb:¬ P b) (v:Value):Zai (w.setCell ⟨b,i,none⟩ v) P p vs :=
 h.upd (Zaj _ _ _) hb
theorem Zai.drew {P:Nat→Prop} {w:World} {p:Prd} {vs:List Value} (h:Zai w P p vs):Zai w.drew P p vs:=Zai.keep (w:=w) (w':=w.drew) (fun _ _ _=>rfl) (Nat.le_refl _) (fun _ h _=>h) p vs h
theorem Zqb {w w':World} {R cap sz i b:Nat} {ao:Option Addr} {ts:List Tok} (h:ParW w R ao cap ts sz i) (hu:Upd w w' b) (hb:b≠R) (ha:blk ao≠some b):ParW w' R ao cap ts sz i:=by
 refine⟨?_,?_⟩
 ·unfold Z7e;rw[hu.block R hb.symm];exact h.blk
 ·rcases h.toks with h1 | ⟨g,off,rfl,h2,h3,h4⟩
  ·exact .inl h1
  ·exact .inr ⟨g,off,rfl,h2,by rw[hu.size];exact h3,h4.of_block (hu.block g (fun e=>ha (by rw[← e];rfl)))⟩
theorem Tab.upd {w w':World} {B b:Nat} (h:Tab w B) (hu:Upd w w' b) (hb:B≤b):Tab w' B:=h.keep (fun k hk=>hu.block k (by omega)) (by rw[hu.size];exact Nat.le_refl _)
theorem ParW.new {w:World} {B cap sz:Nat} {ao:Option Addr} {ts:List Tok} (h:OwnK w B 4 ts.length cap (ts.flatMap Zbw) ao) :
  ParW (w.alloc (.cells #[.slice ao ts.length cap,.int .i64 0,.int .i64 (sz:Int)] 104)) w.heap.size ao cap ts sz 0:=by
 refine⟨heap_alloc_new w _,?_⟩
 have hb:=(Below.refl w.heap.size w).alloc (Nat.le_refl _) (.cells #[.slice ao ts.length cap,.int .i64 0,.int .i64 (sz:Int)] 104)
 cases h with
 | nil h hn hc=>exact .inl (List.length_eq_zero_iff.1 hn)
 | «at» g off h hn hc hl=>exact .inr ⟨g,off,rfl,by have:=h.lt;omega,Nat.lt_of_lt_of_le h.lt hb.size,h.cells.of_block (hb.block g h.lt)⟩
theorem Zo3 (w:World) (R:Nat) (ao:Option Addr) (cap:Nat) (ts:List Tok) (sz i:Nat) (s:List Nat) (h:ParW w R ao cap ts sz i) (hi:i≤ts.length) (hn:ts.length≤1000000) (hts:∀ t∈ts,TokOk t) (hs:∀ y∈s,y<256) :
  Calls Tryz.prog 72 #[.pointer (some ⟨R,0,none⟩),.string (Zad s)] w fun e w'=>Only w w' (· = R)∧match Zbi ts sz s i with
   | .ok j=>e = .returned (.tuple #[])∧ParW w' R ao cap ts sz j∧j≤ts.length
   | .error x=>e=Za0 x:=by
 unfold Zbi
 by_cases hy:isP ts s i=true
 ·have hlt:=Zbv hy
  refine (Zfu w R ao cap ts sz i s h hn hts hs hy).mono ?_
  rintro e w' ⟨h1,h2,h3⟩
  rw[if_pos hy]
  exact⟨h3,h1,h2,hlt⟩
 ·refine (Zfv w R ao cap ts sz i s h hi hn hts hs (by simpa using hy)).mono ?_
  rintro e w' ⟨h1,h3⟩
  rw[if_neg hy]
  exact⟨h3,h1⟩
theorem Zx2 (w:World) (R:Nat) (ao:Option Addr) (cap:Nat) (ts:List Tok) (sz i B:Nat) (hT:Tab w B) (h:ParW w R ao cap ts sz i) (hi:i≤ts.length) (hn:ts.length≤1000000) (hts:∀ t∈ts,TokOk t) :
  Calls Tryz.prog 73 #[.pointer (some ⟨R,0,none⟩)] w fun e w'=>Only w w' (· = R)∧match Zgd ts sz i with
   | .ok r=>e = .returned (.string (Zad r.1))∧ParW w' R ao cap ts sz r.2∧r.2≤ts.length
   | .error x=>e=Za0 x:=by
 unfold Zgd
 by_cases hy:Zd8 ts i=true
 ·have hlt:=Zew hy
  refine (Zmz w R ao cap ts sz i B hT h hn hts hy).mono ?_
  rintro e w' ⟨h1,h2,h3⟩
  rw[if_pos hy]
  exact⟨h3,h1,h2,hlt⟩
 ·refine (Zm0 w R ao cap ts sz i B hT h hi hn hts (by simpa using hy)).mono ?_
  rintro e w' ⟨h1,h3⟩
  rw[if_neg hy]
  exact⟨h3,h1⟩
theorem Z7y (B:Nat) (w:World):Zpt B w Z18 (.agg Zb0.toArray):=⟨Zb0,rfl,by unfold Z18 Zai;exact⟨none,0,rfl,.inl rfl⟩⟩
theorem Zx3 {l:List Nat} {ts:List Tok} {a:Nat} {x:Int} {e:Int×Nat} (h:Zfb l=(ts,a,x)) (hx:x=0) (hq:Zgm ts l.length = .error e):Zce l=([],Z18,e.2,e.1):=by
 unfold Zce;rw[h];simp only[hx,if_true,hq]
theorem Z2p {l:List Nat} {ts:List Tok} {a:Nat} {x:Int} {r:List Nat×Prd} (h:Zfb l=(ts,a,x)) (hx:x=0) (hq:Zgm ts l.length = .ok r):Zce l=(r.1,r.2,0,0):=by
 unfold Zce;rw[h];simp only[hx,if_true,hq]
theorem Zvw {l:List Nat} {ts:List Tok} {a:Nat} {x:Int} (h:Zfb l=(ts,a,x)) (hx:¬ x=0):Zce l=([],Z18,a,x):=by
 unfold Zce;rw[h];simp only[hx,if_false]
theorem Zd9 {w w':World} {l:List Nat} {e:Int×Nat} (hp:Zce l=([],Z18,e.2,e.1)) (hb:Below w.heap.size w w'):Znz w l (.returned (.tuple #[.string ⟨#[]⟩,.agg Zb0.toArray,.int .i64 (e.2:Int),.int .i64 e.1])) w':=by
 unfold Znz
 rw[hp]
 exact⟨_,rfl,Z7y _ _,hb⟩
theorem Zx4 {w w':World} {l nm:List Nat} {p:Prd} {v:Value} (hp:Zce l=(nm,p,0,0)) (hb:Below w.heap.size w w') (hv:Zpt w.heap.size w' p v):Znz w l (.returned (.tuple #[.string (Zad nm),v,.int .i64 0,.int .i64 0])) w':=by
 unfold Znz
 rw[hp]
 exact⟨_,rfl,hv,hb⟩
theorem Zx5 (l:List Nat) (w:World) (B:Nat) (hT:Tab w B) (hl:l.length≤1000000) (hb:∀ y∈l,y<256) :
  Calls Tryz.prog 17 #[.string (Zad l)] w fun e w'=>Znz w l e w':=by
 have hmf:∀ (fn:Fn) (first cap:Array Value) (w:World),(Instr.makeFunc fn first cap).run Tryz.prog w = .ok (.func fn first cap) w:=fun _ _ _ _=>rfl
 have SZ:=ħ (Zaq l)
 have HS:=ħ (fun (w:World) (hT:Tab w B)=>Z5e l w B hT hl hb)
 have HTS:=ħ (Z2b l hb)
 have HN:=ħ (Zse l)
 have HT:=ħ hT
 obtain⟨ts,a1,x,hsc⟩:∃ ts a x,Zfb l=(ts,a,x):=⟨_,_,_,rfl⟩
 rw[hsc] at HTS HN
 have HSC:=ħ hsc
 clear hT hb hsc
 have b0:=((((Below.refl w.heap.size w).alloc (Nat.le_refl _) (.cells #[.string ⟨#[]⟩] 9)).alloc (by simp) (.cells #[.int .i64 0,.string ⟨#[]⟩,.string ⟨#[]⟩,.int .i64 0,.slice none 0 0] 25)).alloc (by simp;omega) (.cells #[.int .i64 0] 3)).alloc (by simp;omega) (.cells #[.int .i64 0] 26)
 have R0:Hid (Res ((((w.alloc (.cells #[.string ⟨#[]⟩] 9)).alloc (.cells #[.int .i64 0,.string ⟨#[]⟩,.string ⟨#[]⟩,.int .i64 0,.slice none 0 0] 25)).alloc (.cells #[.int .i64 0] 3)).alloc (.cells #[.int .i64 0] 26)) w.heap.size ⟨#[]⟩ Zb0 0 0):=ħ (Res.new w)
 have SZ0:Hid (((((w.alloc (.cells #[.string ⟨#[]⟩] 9)).alloc (.cells #[.int .i64 0,.string ⟨#[]⟩,.string ⟨#[]⟩,.int .i64 0,.slice none 0 0] 25)).alloc (.cells #[.int .i64 0] 3)).alloc (.cells #[.int .i64 0] 26)).heap.size=w.heap.size+4):=ħ (by simp)
 have B0:=ħ b0
 clear b0
 have SZ':=SZ.o
 generalize Zad l=q at *
 go_enter_defers Tryz.func17,Tryz.ntmps17
 go_upto_region 1 with (fail)
 generalize ((((w.alloc (.cells #[.string ⟨#[]⟩] 9)).alloc (.cells #[.int .i64 0,.string ⟨#[]⟩,.string ⟨#[]⟩,.int .i64 0,.slice none 0 0] 25)).alloc (.cells #[.int .i64 0] 3)).alloc (.cells #[.int .i64 0] 26))=w0 at *
 go_wp2_with fail
 refine (HS.o w0 (HT.o.step B0.o)).mono ?_
 rintro e w1 hsw
 unfold Z1r at hsw
 rw[HSC.o] at hsw
 obtain⟨ao,cap,rfl,ho,b1⟩:=hsw
 have OWN:=ħ ho
 have R1:=ħ (R0.o.step b1)
 have B1:=ħ (B0.o.trans (b1.mono (by rw[SZ0.o];omega)))
 have T1:=ħ ((HT.o.step B0.o).step b1)
 have SZ1:Hid (w.heap.size+4≤w1.heap.size):=ħ (by have:=b1.size;rw[SZ0.o] at this;exact this)
 clear ho b1 HS
 have f0:=R1.o.att.warm 0
 have f1:=R1.o.err.warm 0
 have m0:=R1.o.att.cell 0 _ rfl
 have m1:=R1.o.err.cell 0 _ rfl
 go_upto_region 2 with (fail)
 have R2:=ħ ((R1.o.setAt a1).setErr x)
 have B2:=ħ ((B1.o.setCell (p:=⟨w.heap.size+2,0,none⟩) (by show _≤w.heap.size+2;omega) (.int .i64 (a1:Int))).setCell (p:=⟨w.heap.size+3,0,none⟩) (by show _≤w.heap.size+3;omega) (.int .i64 x))
 have b12:=((Below.refl (w.heap.size) w1).setCell (p:=⟨w.heap.size+2,0,none⟩) (by show _≤w.heap.size+2;omega) (.int .i64 (a1:Int))).setCell (p:=⟨w.heap.size+3,0,none⟩) (by show _≤w.heap.size+3;omega) (.int .i64 x)
 have SZ2:Hid (w.heap.size+4≤((w1.setCell ⟨w.heap.size+2,0,none⟩ (.int .i64 (a1:Int))).setCell ⟨w.heap.size+3,0,none⟩ (.int .i64 x)).heap.size):=ħ (by rw[World.size_setCell,World.size_setCell];exact SZ1.o)
 have AO:Hid (∀ g,blk ao=some g→w.heap.size+4≤g):=ħ (fun g e=>by have:=(OWN.o.blk_lt e).1;rw[SZ0.o] at this;exact this)
 have O2:=ħ ((OWN.o.setCell (p:=⟨w.heap.size+2,0,none⟩) (.int .i64 (a1:Int)) (fun e=>by have:=AO.o _ e;have h:w.heap.size+4≤w.heap.size+2:=this;omega)).setCell (p:=⟨w.heap.size+3,0,none⟩) (.int .i64 x) (fun e=>by have:=AO.o _ e;have h:w.heap.size+4≤w.heap.size+3:=this;omega))
 have T2:=ħ (T1.o.below b12 HT.o.size)
 clear b12 f0 f1 m0 m1 R1 B1 T1 SZ1 OWN
 generalize (w1.setCell ⟨w.heap.size+2,0,none⟩ (.int .i64 (a1:Int))).setCell ⟨w.heap.size+3,0,none⟩ (.int .i64 x)=w2 at *
 have m1:=R2.o.err.cell 0 _ rfl
 by_cases hx:x=0
 ·have HX:=ħ hx
  subst hx
  have HP1:Hid (∀ e,Zgm ts l.length = .error e→Zce l=([],Z18,e.2,e.1)):=ħ (fun e he=>Zx3 HSC.o rfl he)
  have HP2:Hid (∀ r,Zgm ts l.length = .ok r→Zce l=(r.1,r.2,0,0)):=ħ (fun r he=>Z2p HSC.o rfl he)
  go_upto_region 5 with (fail)
  clear m1
  have PW:=ħ (ParW.new (sz:=l.length) O2.o)
  have b23:=(Below.refl w2.heap.size w2).alloc (Nat.le_refl _) (.cells #[.slice ao ts.length cap,.int .i64 0,.int .i64 (l.length:Int)] 104)
  have R3:=ħ (R2.o.step b23)
  have T3:=ħ (T2.o.step b23)
  have B3:=ħ (B2.o.trans (b23.mono (by have:=SZ2.o;omega)))
  clear b23 R2 T2 B2 O2
  obtain⟨R,hR⟩:∃ R,w2.heap.size=R:=⟨_,rfl⟩
  have HR:Hid (w.heap.size+4≤R):=ħ (by have:=SZ2.o;omega)
  have HRB:Hid (B≤R):=ħ (by have:=HT.o.size;have:=HR.o;omega)
  rw[hR] at PW
  go_upto_region 6 with (fail)
  generalize w2.alloc (.cells #[.slice ao ts.length cap,.int .i64 0,.int .i64 (l.length:Int)] 104)=w3 at *
  clear hR SZ2
  have HN2:Hid (ts.length≤4000):=HN
  have HTO:Hid (∀ t∈ts,TokOk t):=HTS
  clear HN HTS
  go_wp2_with fail
  refine (Zo3 w3 R ao cap ts l.length 0 [113,117,101,115,116,105,111,110] PW.o (Nat.zero_le _) (by have:=HN2.o;omega) HTO.o (by decide)).mono ?_
  rintro e w4 ⟨o4,hr⟩
  have R4:=ħ (R3.o.only o4 (fun g (e:g=R)=>by have:=HR.o;omega))
  have T4:=ħ (T3.o.onlyR o4 HRB.o)
  have B4:=ħ (B3.o.trans (o4.below (B:=w.heap.size) B3.o.size (fun g (e:g=R)=>by have:=HR.o;omega)))
  clear o4 R3 T3 B3 PW
  cases ht1:Zbi ts l.length [113,117,101,115,116,105,111,110] 0 with
  | error z =>
   rw[ht1] at hr
   obtain rfl:=hr
   have HP:=ħ (HP1.o z (by unfold Zgm;rw[ht1];rfl))
   clear ht1
   unfold Za0
   go_wp2_with fail
   exact Zes _ w4 w.heap.size _ _ _ _ _ _ R4.o rfl rfl rfl rfl rfl rfl (fun w' ho=>Zd9 HP.o (B4.o.trans (ho.below B4.o.size (fun g hg=>hg))))
  | ok j1 =>
  rw[ht1] at hr
  obtain⟨rfl,p4,hj1⟩:=hr
  have P4:=ħ p4
  have H1:=ħ ht1
  clear p4 ht1
  go_wp2_with fail
  refine (Zx2 w4 R ao cap ts l.length j1 B T4.o P4.o hj1 (by have:=HN2.o;omega) HTO.o).mono ?_
  rintro e w5 ⟨o5,hr⟩
  have R5:=ħ (R4.o.only o5 (fun g (e:g=R)=>by have:=HR.o;omega))
  have T5:=ħ (T4.o.onlyR o5 HRB.o)
  have B5:=ħ (B4.o.trans (o5.below (B:=w.heap.size) B4.o.size (fun g (e:g=R)=>by have:=HR.o;omega)))
  clear o5 R4 T4 B4 P4
  cases ht2:Zgd ts l.length j1 with
  | error z =>
   rw[ht2] at hr
   obtain rfl:=hr
   have HP:=ħ (HP1.o z (by unfold Zgm;rw[H1.o];show (Zgd ts l.length j1).bind _=_;rw[ht2];rfl))
   clear ht2
   unfold Za0
   go_wp2_with fail
   exact Zes _ w5 w.heap.size _ _ _ _ _ _ R5.o rfl rfl rfl rfl rfl rfl (fun w' ho=>Zd9 HP.o (B5.o.trans (ho.below B5.o.size (fun g hg=>hg))))
  | ok r1 =>
  obtain⟨nm,j2⟩:=r1
  rw[ht2] at hr
  obtain⟨rfl,p5,hj2⟩:=hr
  have P5:=ħ p5
  have H2:=ħ ht2
  clear p5 ht2
  have f0:=R5.o.nm.warm 0
  have m0:=R5.o.nm.cell 0 _ rfl
  go_upto_region 8 with (fail)
  have u6:=Zaj w5 ⟨w.heap.size,0,none⟩ (.string (Zad nm))
  have R6:=ħ (R5.o.setNm (Zad nm))
  have T6:=ħ (T5.o.upd u6 HT.o.size)
  have B6:=ħ (B5.o.cellAt w.heap.size 0 (Nat.le_refl _) (.string (Zad nm)))
  have P6:=ħ (Zqb P5.o u6 (by have:=HR.o;show w.heap.size≠R;omega) (fun e=>by have:=AO.o _ e;have h:w.heap.size+4≤w.heap.size:=this;omega))
  clear f0 m0 u6 R5 T5 B5 P5
  generalize w5.setCell ⟨w.heap.size,0,none⟩ (.string (Zad nm))=w6 at *
  go_wp2_with fail
  refine (Zo3 w6 R ao cap ts l.length j2 [123] P6.o hj2 (by have:=HN2.o;omega) HTO.o (by decide)).mono ?_
  rintro e w7 ⟨o7,hr⟩
  have R7:=ħ (R6.o.only o7 (fun g (e:g=R)=>by have:=HR.o;omega))
  have T7:=ħ (T6.o.onlyR o7 HRB.o)
  have B7:=ħ (B6.o.trans (o7.below (B:=w.heap.size) B6.o.size (fun g (e:g=R)=>by have:=HR.o;omega)))
  clear o7 R6 T6 B6 P6
  cases ht3:Zbi ts l.length [123] j2 with
  | error z =>
   rw[ht3] at hr
   obtain rfl:=hr
   have HP:=ħ (HP1.o z (by unfold Zgm;rw[H1.o];show (Zgd ts l.length j1).bind _=_;rw[H2.o];show (Zbi ts l.length [123] j2).bind _=_;rw[ht3];rfl))
   clear ht3
   unfold Za0
   go_wp2_with fail
   exact Zes _ w7 w.heap.size _ _ _ _ _ _ R7.o rfl rfl rfl rfl rfl rfl (fun w' ho=>Zd9 HP.o (B7.o.trans (ho.below B7.o.size (fun g hg=>hg))))
  | ok j3 =>
  rw[ht3] at hr
  obtain⟨rfl,p7,hj3⟩:=hr
  have P7:=ħ p7
  have H3:=ħ ht3
  have SR:Hid (R<w7.heap.size):=ħ p7.lt
  clear p7 ht3
  have HGO:=ħ (Zos (sz:=l.length) HTO.o (ts.length+1))
  go_wp2_with fail
  refine (Zpu w7 R ao cap ts l.length j3 B (Zdg ts l.length (ts.length+1)) T7.o HRB.o P7.o hj3 (by have:=HN2.o;omega) HTO.o HGO.o (fun i w h1 h2 h3 h4=>Zt8 R ao cap ts l.length B HRB.o (by have:=HN2.o;omega) HTO.o (ts.length+1) i w h2 (by omega) h3 h4)).mono ?_
  rintro e w8 ⟨o8,hr⟩
  have R8:=ħ (R7.o.only o8 (fun g (e:g=R)=>by have:=HR.o;omega))
  have T8:=ħ (T7.o.onlyR o8 HRB.o)
  have B8:=ħ (B7.o.trans (o8.below (B:=w.heap.size) B7.o.size (fun g (e:g=R)=>by have:=HR.o;omega)))
  clear o8 R7 T7 B7 P7
  cases ht4:Zfc ts (Zdg ts l.length (ts.length+1)) j3 with
  | error z =>
   rw[ht4] at hr
   obtain rfl:=hr
   have HP:=ħ (HP1.o z (by unfold Zgm;rw[H1.o];show (Zgd ts l.length j1).bind _=_;rw[H2.o];show (Zbi ts l.length [123] j2).bind _=_;rw[H3.o];show (Zfc ts (Zdg ts l.length (ts.length+1)) j3).bind _=_;rw[ht4];rfl))
   clear ht4
   unfold Za0
   go_wp2_with fail
   exact Zes _ w8 w.heap.size _ _ _ _ _ _ R8.o rfl rfl rfl rfl rfl rfl (fun w' ho=>Zd9 HP.o (B8.o.trans (ho.below B8.o.size (fun g hg=>hg))))
  | ok r4 =>
  obtain⟨p,j4⟩:=r4
  rw[ht4] at hr
  have hj4:j4≤ts.length:=(Zid HGO.o j3 (p,j4) ht4).2
  have HC:Hid (Za8 p≤1000000):=ħ (by have:=(Zot (Zou (sz:=l.length) HTO.o (ts.length+1)) j3 (p,j4) ht4).2;have:=HN2.o;simp only at *;omega)
  obtain⟨⟨v,rfl,vs,rfl,hpc⟩,p8⟩:=hr
  have P8:=ħ p8
  have PC:=ħ (hpc.mono (P':=fun g=>R<g) (fun g hg _=>by have:=SR.o;omega))
  have HL5:=ħ hpc.len
  have H4:=ħ ht4
  clear p8 hpc ht4 SR
  have HPR:=R8.o.pr
  go_wp2_with (refine Zab rfl 25 (.tmp 3) (.tmp 32) rfl (w.heap.size+1) vs.toArray ?s1 ?s2 25 _ HPR (Zae _ HL5.o) ?s3 (PC.o.one) ?_;(case s1=>rfl);(case s2=>rfl);(case s3=>rw[List.size_toArray,List.size_toArray,HL5.o];rfl);intro w9 s9 u9;have S9:Hid (Zah w9 (w.heap.size+1) 25 vs):=ħ s9;have U9:=ħ u9;clear s9 u9)
  have R9:=ħ (R8.o.setPr U9.o S9.o)
  have T9:=ħ (T8.o.upd U9.o (by have:=HT.o.size;omega))
  have B9:=ħ (U9.o.below B8.o (by omega))
  have P9:=ħ (Zqb P8.o U9.o (by have:=HR.o;omega) (fun e=>by have:=AO.o _ e;omega))
  have PC9:=ħ (PC.o.upd U9.o (by have:=HR.o;omega))
  clear HPR S9 U9 R8 T8 B8 P8 PC
  refine (Zo3 w9 R ao cap ts l.length j4 [125] P9.o hj4 (by have:=HN2.o;omega) HTO.o (by decide)).mono ?_
  rintro e w10 ⟨o10,hr⟩
  have R10:=ħ (R9.o.only o10 (fun g (e:g=R)=>by have:=HR.o;omega))
  have B10:=ħ (B9.o.trans (o10.below (B:=w.heap.size) B9.o.size (fun g (e:g=R)=>by have:=HR.o;omega)))
  have PC10:Hid (Zai w10 (fun g=>R<g) p vs):=ħ (Zai.keep (fun g (hg:R<g) hl=>o10.block g hl (fun (e:g=R)=>by omega)) o10.size (fun g h _=>h) p vs PC9.o)
  clear o10 R9 T9 B9 P9 PC9
  cases ht5:Zbi ts l.length [125] j4 with
  | error z =>
   rw[ht5] at hr
   obtain rfl:=hr
   have HP:=ħ (HP1.o z (by unfold Zgm;rw[H1.o];show (Zgd ts l.length j1).bind _=_;rw[H2.o];show (Zbi ts l.length [123] j2).bind _=_;rw[H3.o];show (Zfc ts (Zdg ts l.length (ts.length+1)) j3).bind _=_;rw[H4.o];show (Zbi ts l.length [125] j4).bind _=_;rw[ht5];rfl))
   clear ht5
   unfold Za0
   go_wp2_with fail
   exact Zes _ w10 w.heap.size _ _ _ _ _ _ R10.o HL5.o rfl rfl rfl rfl rfl (fun w' ho=>Zd9 HP.o (B10.o.trans (ho.below B10.o.size (fun g hg=>hg))))
  | ok j5 =>
  rw[ht5] at hr
  obtain⟨rfl,p10,hj5⟩:=hr
  have P10:=ħ p10
  have HQ:Hid (Zgm ts l.length=(if j5<ts.length then .error (12,Zdu ts l.length j5) else if Zeh p=true then .ok (nm,p) else .error (6,0))):=ħ (by unfold Zgm;rw[H1.o];show (Zgd ts l.length j1).bind _=_;rw[H2.o];show (Zbi ts l.length [123] j2).bind _=_;rw[H3.o];show (Zfc ts (Zdg ts l.length (ts.length+1)) j3).bind _=_;rw[H4.o];show (Zbi ts l.length [125] j4).bind _=_;rw[ht5];rfl)
  clear p10 ht5 H1 H2 H3 H4
  obtain⟨c0,c1,c2⟩:=P10.o.cells
  by_cases hj:j5<ts.length
  ·have ii:(j5:Int)<ts.length:=by omega
   have HP:=ħ (HP1.o _ (by rw[HQ.o,if_pos hj]))
   go_wp2_with fail
   refine (Zcj w10 R ao cap ts l.length j5 j5 12 P10.o hj5 (by have:=HN2.o;omega)).mono ?_
   rintro e w11 ⟨rfl,b11⟩
   have R11:=ħ (R10.o.step b11)
   have B11:=ħ (B10.o.trans (b11.mono B10.o.size))
   unfold Za0
   go_wp2_with fail
   exact Zes _ w11 w.heap.size _ _ _ _ _ _ R11.o HL5.o rfl rfl rfl rfl rfl (fun w' ho=>Zd9 (e:=(12,Zdu ts l.length j5)) HP.o (B11.o.trans (ho.below B11.o.size (fun g hg=>hg))))
  ·have ii:¬ ((j5:Int)<ts.length):=by omega
   go_upto_region 13 with (fail)
   clear c0 c1 c2 ii
   obtain⟨sa,sn,sc,rfl,-⟩:=PC10.o.form
   have p0:=R10.o.pr.cell 0 _ rfl
   have p1:=R10.o.pr.cell 1 _ rfl
   have p2:=R10.o.pr.cell 2 _ rfl
   have p3:=R10.o.pr.cell 3 _ rfl
   have p4:=R10.o.pr.cell 4 _ rfl
   go_wp2_with fail
   refine (Zlz w10 _ p _ PC10.o HC.o).mono ?_
   rintro e w11 ⟨rfl,b11⟩
   clear p0 p1 p2 p3 p4
   have R11:=ħ (R10.o.step b11)
   have B11:=ħ (B10.o.trans (b11.mono B10.o.size))
   have PC11:=ħ (PC10.o.below b11)
   clear b11 R10 B10 PC10 P10
   have n0:=R11.o.nm.cell 0 _ rfl
   have n1:=R11.o.nm.warm 0
   have p0:=R11.o.pr.cell 0 _ rfl
   have p1:=R11.o.pr.cell 1 _ rfl
   have p2:=R11.o.pr.cell 2 _ rfl
   have p3:=R11.o.pr.cell 3 _ rfl
   have p4:=R11.o.pr.cell 4 _ rfl
   have q0:=R11.o.pr.warm 0
   have q1:=R11.o.pr.warm 1
   have q2:=R11.o.pr.warm 2
   have q3:=R11.o.pr.warm 3
   have q4:=R11.o.pr.warm 4
   have a0:=R11.o.att.cell 0 _ rfl
   have a2:=R11.o.att.warm 0
   have e0:=R11.o.err.cell 0 _ rfl
   have e1:=R11.o.err.warm 0
   cases hsm:Zeh p with
   | true =>
    have HP:=ħ (HP2.o (nm,p) (by rw[HQ.o,if_neg hj,if_pos hsm]))
    clear hsm
    go_upto_region 15 with (fail)
    go_region
    go_wp2_with fail
    have hRR:=HR.o
    have RF:=((((((((R11.o.setNm (Zad nm)).setP 0 (.int .i64 p.k)).setP 1 (.string (Zad p.l))).setP 2 (.string (Zad p.r))).setP 3 (.int .i64 p.c)).setP 4 (.slice sa sn sc)).setAt 0).setErr 0).drew
    have BF:=((((((((B11.o.cellAt w.heap.size 0 (by omega) (.string (Zad nm))).cellAt (w.heap.size+1) 0 (by omega) (.int .i64 p.k)).cellAt (w.heap.size+1) 1 (by omega) (.string (Zad p.l))).cellAt (w.heap.size+1) 2 (by omega) (.string (Zad p.r))).cellAt (w.heap.size+1) 3 (by omega) (.int .i64 p.c)).cellAt (w.heap.size+1) 4 (by omega) (.slice sa sn sc)).cellAt (w.heap.size+2) 0 (by omega) (.int .i64 0)).cellAt (w.heap.size+3) 0 (by omega) (.int .i64 0)).drew
    have PF:=((((((((PC11.o.cellAt w.heap.size 0 (by omega) (.string (Zad nm))).cellAt (w.heap.size+1) 0 (by omega) (.int .i64 p.k)).cellAt (w.heap.size+1) 1 (by omega) (.string (Zad p.l))).cellAt (w.heap.size+1) 2 (by omega) (.string (Zad p.r))).cellAt (w.heap.size+1) 3 (by omega) (.int .i64 p.c)).cellAt (w.heap.size+1) 4 (by omega) (.slice sa sn sc)).cellAt (w.heap.size+2) 0 (by omega) (.int .i64 0)).cellAt (w.heap.size+3) 0 (by omega) (.int .i64 0)).drew
    exact Zua _ _ w.heap.size _ _ _ _ RF rfl rfl rfl rfl rfl rfl (Zx4 HP.o BF ⟨_,rfl,PF.mono (fun g (hg:R<g) _=>by omega)⟩)
   | false =>
    have HP:=ħ (HP1.o (6,0) (by rw[HQ.o,if_neg hj,if_neg (by rw[hsm];simp)]))
    clear hsm
    go_wp2_with fail
    have RF:=((((((((R11.o.setNm ⟨#[]⟩).setP 0 (.int .i64 0)).setP 1 (.string ⟨#[]⟩)).setP 2 (.string ⟨#[]⟩)).setP 3 (.int .i64 0)).setP 4 (.slice none 0 0)).setAt 0).setErr 6)
    have BF:=((((((((B11.o.cellAt w.heap.size 0 (by omega) (.string ⟨#[]⟩)).cellAt (w.heap.size+1) 0 (by omega) (.int .i64 0)).cellAt (w.heap.size+1) 1 (by omega) (.string ⟨#[]⟩)).cellAt (w.heap.size+1) 2 (by omega) (.string ⟨#[]⟩)).cellAt (w.heap.size+1) 3 (by omega) (.int .i64 0)).cellAt (w.heap.size+1) 4 (by omega) (.slice none 0 0)).cellAt (w.heap.size+2) 0 (by omega) (.int .i64 0)).cellAt (w.heap.size+3) 0 (by omega) (.int .i64 6))
    exact Zua _ _ w.heap.size _ _ _ _ RF rfl rfl rfl rfl rfl rfl (Zd9 (e:=(6,0)) HP.o BF)
 ·have hx2:(x != 0)=true:=by rw[bne_iff_ne];exact hx
  have HP:=ħ (Zvw HSC.o hx)
  clear hx
  go_upto_region 3 with (fail)
  have n0:=R2.o.nm.cell 0 _ rfl
  have n1:=R2.o.nm.warm 0
  have p0:=R2.o.pr.cell 0 _ rfl
  have p1:=R2.o.pr.cell 1 _ rfl
  have p2:=R2.o.pr.cell 2 _ rfl
  have p3:=R2.o.pr.cell 3 _ rfl
  have p4:=R2.o.pr.cell 4 _ rfl
  have q0:=R2.o.pr.warm 0
  have q1:=R2.o.pr.warm 1
  have q2:=R2.o.pr.warm 2
  have q3:=R2.o.pr.warm 3
  have q4:=R2.o.pr.warm 4
  have a0:=R2.o.att.cell 0 _ rfl
  have a2:=R2.o.att.warm 0
  have e0:=R2.o.err.cell 0 _ rfl
  have e1:=R2.o.err.warm 0
  go_region
  go_wp2_with fail
  have RF:=((((((((R2.o.setNm ⟨#[]⟩).setP 0 (.int .i64 0)).setP 1 (.string ⟨#[]⟩)).setP 2 (.string ⟨#[]⟩)).setP 3 (.int .i64 0)).setP 4 (.slice none 0 0)).setAt a1).setErr x).drew
  have BF:=((((((((B2.o.cellAt w.heap.size 0 (by omega) (.string ⟨#[]⟩)).cellAt (w.heap.size+1) 0 (by omega) (.int .i64 0)).cellAt (w.heap.size+1) 1 (by omega) (.string ⟨#[]⟩)).cellAt (w.heap.size+1) 2 (by omega) (.string ⟨#[]⟩)).cellAt (w.heap.size+1) 3 (by omega) (.int .i64 0)).cellAt (w.heap.size+1) 4 (by omega) (.slice none 0 0)).cellAt (w.heap.size+2) 0 (by omega) (.int .i64 (a1:Int))).cellAt (w.heap.size+3) 0 (by omega) (.int .i64 x)).drew
  exact Zvv _ _ w.heap.size _ _ _ _ RF rfl rfl rfl rfl rfl rfl (Zd9 (e:=(x,a1)) HP.o BF)
end
section
open Go.RowKit
theorem Zij:∀ a b:List Nat,(∀ y∈a,y<256)→(∀ y∈b,y<256)→Op.bytesLess (a.map UInt8.ofNat) (b.map UInt8.ofNat)=ltL a b
 | [],[],_,_=>rfl
 | [],_::_,_,_=>rfl
 | _::_,[],_,_=>rfl
 | x::xs,y::ys,ha,hb=>by
  have hx:=ha x (by simp)
  have hy:=hb y (by simp)
  have ih:=Zij xs ys (fun z hz=>ha z (by simp[hz])) (fun z hz=>hb z (by simp[hz]))
  have e1:decide (UInt8.ofNat x<UInt8.ofNat y)=decide (x<y):=by
   rw[decide_eq_decide,UInt8.lt_iff_toNat_lt]
   simp[Nat.mod_eq_of_lt hx,Nat.mod_eq_of_lt hy]
  have e2:(UInt8.ofNat x==UInt8.ofNat y)=(x==y):=by
   rw[Bool.eq_iff_iff,beq_iff_eq,beq_iff_eq,← UInt8.toNat_inj]
   simp[Nat.mod_eq_of_lt hx,Nat.mod_eq_of_lt hy]
  simp only[List.map_cons,Op.bytesLess,ltL,e1,e2,ih]
theorem Ze1 (a b:List Nat) (ha:∀ y∈a,y<256) (hb:∀ y∈b,y<256):Op.bytesLess (Zad a).toList (Zad b).toList=ltL a b:=by
 rw[Zb6,Zb6,Zij a b ha hb]
theorem Zub (a b:List Nat) (w:World) (ha:∀ y∈a,y<256) (hb:∀ y∈b,y<256) :
  Calls Tryz.prog 222 #[.string (Zad a),.string (Zad b)] w fun e w'=>e = .returned (.int .i64 (Zsi a b))∧w=w':=by
 have h1:=Ze1 a b ha hb
 have h2:=Ze1 b a hb ha
 have HV:=ħ (show Zsi a b=if ltL a b=true then -1 else if ltL b a=true then 1 else 0 from rfl)
 generalize Zsi a b=V at *
 cases hx:ltL a b with
 | true =>
  rw[hx] at h1 HV
  clear hx ha hb h2
  generalize Zad a=s at *
  generalize Zad b=t at *
  go_enter Tryz.func222,Tryz.ntmps222
  go_wp2
  go_ret
  exact⟨Za2 (by rw[HV.o];rfl),rfl⟩
 | false =>
  cases hy:ltL b a with
  | true =>
   have he:((Zad a).toList==(Zad b).toList)=false:=by rw[Zd6 a b ha hb,beq_eq_false_iff_ne];rintro rfl;rw[Za4] at hy;cases hy
   rw[hx] at h1 HV
   rw[hy] at HV
   clear hx ha hb hy h2
   generalize Zad a=s at *
   generalize Zad b=t at *
   go_enter Tryz.func222,Tryz.ntmps222
   go_wp2
   go_ret
   exact⟨Za2 (by rw[HV.o];rfl),rfl⟩
  | false =>
   have he:((Zad a).toList==(Zad b).toList)=true:=by
    rw[Zd6 a b ha hb,beq_iff_eq]
    rcases Zey a b with h | h | h
    ·rw[hx] at h;cases h
    ·exact h
    ·rw[hy] at h;cases h
   have HX:Hid (V=0):=ħ (by rw[HV.o,hx,hy];rfl)
   rw[hx] at h1
   clear hx ha hb hy h2 HV
   generalize Zad a=s at *
   generalize Zad b=t at *
   go_enter Tryz.func222,Tryz.ntmps222
   go_wp2
   go_ret
   exact⟨Za2 HX.o.symm,rfl⟩
theorem Zuc (a b:Int) (w:World) :
  Calls Tryz.prog 223 #[.int .i64 a,.int .i64 b] w fun e w'=>e = .returned (.int .i64 (Znr a b))∧w=w':=by
 have HV:=ħ (show Znr a b=if a<b then -1 else if a=b then 0 else 1 from rfl)
 generalize Znr a b=V at *
 go_enter Tryz.func223,Tryz.ntmps223
 go_wp2
 all_goals
  go_ret
  refine⟨Za2 ?_,rfl⟩
  rw[HV.o]
  (repeat' split)<;>first | rfl | (exfalso;omega)
theorem Zx6 (g cp:Nat) (a b c:Int) (w:World) (h0:w.cell? ⟨g,0,none⟩=some (.int .i64 a)) (h1:w.cell? ⟨g,1,none⟩=some (.int .i64 b)) (h2:w.cell? ⟨g,2,none⟩=some (.int .i64 c)) :
  Calls Tryz.prog 221 #[.slice (some ⟨g,0,none⟩) 3 cp] w fun e w'=>e = .returned (.int .i64 (or3 a b c))∧w=w':=by
 have HV:=ħ (show or3 a b c=if a≠0 then a else if b≠0 then b else c from rfl)
 generalize or3 a b c=V at *
 have k0:∀ x:Int,x=0→(x != 0)=false:=fun x h=>by rw[h];rfl
 have k1:∀ x:Int,x≠0→(x != 0)=true:=fun x h=>by rw[bne_iff_ne];exact h
 by_cases ha:a=0
 ·have ka:=k0 a ha
  by_cases hb:b=0
  ·have kb:=k0 b hb
   have HX:Hid (V=c):=ħ (by rw[HV.o,if_neg (by simp[ha]),if_neg (by simp[hb])])
   by_cases hc:c=0
   ·have kc:=k0 c hc
    have HC:=ħ hc
    clear ha hb hc k0 k1
    go_enter Tryz.func221,Tryz.ntmps221
    go_wp2
    refine wp_loop_rounds 4 ?_
    rw[rounds_succ];go_wp2
    rw[rounds_succ];go_wp2
    rw[rounds_succ];go_wp2
    rw[rounds_succ];go_wp2
    go_ret
    exact⟨Za2 (by rw[HX.o,HC.o]),rfl⟩
   ·have kc:=k1 c hc
    clear ha hb hc k0 k1
    go_enter Tryz.func221,Tryz.ntmps221
    go_wp2
    refine wp_loop_rounds 4 ?_
    rw[rounds_succ];go_wp2
    rw[rounds_succ];go_wp2
    rw[rounds_succ];go_wp2
    go_ret
    exact⟨Za2 HX.o.symm,rfl⟩
  ·have kb:=k1 b hb
   have HX:Hid (V=b):=ħ (by rw[HV.o,if_neg (by simp[ha]),if_pos hb])
   clear ha hb k0 k1
   go_enter Tryz.func221,Tryz.ntmps221
   go_wp2
   refine wp_loop_rounds 4 ?_
   rw[rounds_succ];go_wp2
   rw[rounds_succ];go_wp2
   go_ret
   exact⟨Za2 HX.o.symm,rfl⟩
 ·have ka:=k1 a ha
  have HX:Hid (V=a):=ħ (by rw[HV.o,if_pos ha])
  clear ha k0 k1
  go_enter Tryz.func221,Tryz.ntmps221
  go_wp2
  refine wp_loop_rounds 4 ?_
  rw[rounds_succ];go_wp2
  go_ret
  exact⟨Za2 HX.o.symm,rfl⟩
end
section
open Go.RowKit
theorem Z2q (g off cp n:Nat) (L:List (List Nat)) (x:List Nat) (w:World) (hn:n=L.length) (hl:n≤1000000) (hr:Za3 w g off (L.map (fun s=>Value.string (Zad s)))) (hx:∀ y∈x,y<256) (hL:∀ s∈L,∀ y∈s,y<256) :
  Calls Tryz.prog 49 #[.slice (some ⟨g,off,none⟩) n cp,.string (Zad x)] w fun e w'=>e = .returned (.bool (Z1s L x))∧w=w':=by
 have HA:=ħ (fun j hj=>Zr0 hr j hj)
 have HE:Hid (∀ j,j<n→((Zad (L.getD j [])).toList==(Zad x).toList)=(L.getD j []==x)):=ħ (fun j hj=>Zd6 _ x (hL _ (by rw[List.getD,List.getElem?_eq_getElem (by omega)];exact List.getElem_mem _)) hx)
 have HN:=ħ hn
 clear hr hx hL hn
 obtain⟨V,hV⟩:∃ V,Z1s L x=V:=⟨_,rfl⟩
 rw[hV]
 have HV:=ħ hV
 clear hV
 generalize Zad x=t at *
 go_enter Tryz.func49,Tryz.ntmps49
 go_wp2_with fail
 go_loop [5] (fun c=>∃ i:Nat,c = .int .i64 i∧i≤n∧Hid (∀ j,j<i→(L.getD j []==x)=false)) (fun c=>(n-intOf c).toNat)
 case atStart=>exact⟨0,rfl,by omega,ħ (fun j hj=>absurd hj (Nat.not_lt_zero j))⟩
 case round =>
  obtain⟨i,rfl,hi,hz⟩:=hrel
  have e2:IntKind.i64.wrap ((i:Int)+1)=((i+1:Nat):Int):=IntWalk.i64_in _ (by omega)
  by_cases hlt:i<n
  ·have k1:=HA.o i (by rw[← HN.o];exact hlt)
   have hq:=HE.o i hlt
   have ii:(i:Int)<n:=by omega
   obtain⟨q,hv⟩:∃ q,(L.getD i []==x)=q:=⟨_,rfl⟩
   rw[hv] at hq
   have HQ:=ħ hv
   clear hv
   generalize Zad (L.getD i [])=u at *
   cases q with
   | true =>
    have HX:Hid (true=V):=ħ (by
     rw[← HV.o]
     unfold Z1s
     symm
     rw[List.contains_iff_mem]
     rw[← beq_iff_eq.1 HQ.o,List.getD,List.getElem?_eq_getElem (by rw[← HN.o];exact hlt)]
     exact List.getElem_mem _)
    go_wp2
    all_goals
     go_ret
     exact⟨Zag HX.o,rfl⟩
   | false =>
    go_wp2
    go_round
    case rel=>exact⟨i+1,rfl,by omega,ħ (fun j hj=>by
     rcases Nat.lt_or_ge j i with h | h
     ·exact hz.o j h
     ·obtain rfl:j=i:=by omega
      exact HQ.o)⟩
    case measure=>simp[intOf];omega
  ·have ii:¬ ((i:Int)<n):=by omega
   have HX:Hid (false=V):=ħ (by
    rw[← HV.o]
    unfold Z1s
    symm
    rw[Bool.eq_false_iff]
    intro h
    obtain⟨j,hj,he⟩:=List.getElem_of_mem (List.contains_iff_mem.1 h)
    have:=hz.o j (by rw[HN.o] at hi hlt;omega)
    rw[List.getD,List.getElem?_eq_getElem hj,Option.getD_some,he] at this
    simp at this)
   go_wp2
   go_ret
   exact⟨Zag HX.o,rfl⟩
end
section
open Go.RowKit
section
variable {P:Program} {ops:Array Oper} {Q:Exit→Act→World→Prop} {md:Region.Mode} {S:World→Prop} {early:List Nat}
def Zud:Op→Bool
 | .move _=>true
 | .assign _=>true
 | .load _ _=>true
 | .fieldAddr _ _ _=>true
 | .indexAddr _ _ _=>true
 | .nilCheck _=>true
 | .build _ _=>true
 | .binOp _ _ _ _ _=>true
 | _=>false
theorem Zqc {P:Program} {ρ:Operand→Value} {o:Oper} (h:Zud o.op=true) {w w':World} {n:Next} (hr:(execOp ρ o).run P w = .ok n w'):∃ v,n = .value v:=by
 unfold execOp at hr
 cases hop:o.op with
 | move x=>rw[hop] at hr;simp only[Sem.run_pure] at hr;cases hr;exact⟨_,rfl⟩
 | assign x=>rw[hop] at hr;simp only[Sem.run_pure] at hr;cases hr;exact⟨_,rfl⟩
 | load t a=>rw[hop] at hr;exact Zdr _ hr
 | build t ps=>rw[hop] at hr;exact Zdr _ hr
 | fieldAddr t a f=>rw[hop] at hr;exact Zdr _ hr
 | binOp b t x y u=>rw[hop] at hr;exact Zdr _ hr
 | indexAddr t a f=>rw[hop] at hr;exact Zdr _ hr
 | nilCheck x =>
  rw[hop] at hr
  have hpure:∀ v:Value,(pure (Next.value v):Sem Next).run P w = .ok n w'→∃ v,n = .value v:=fun v h=>by
   simp only[Sem.run_pure] at h
   cases h
   exact⟨v,rfl⟩
  dsimp only at hr
  split at hr
  ·simp[runtimePanic] at hr
  ·simp[runtimePanic] at hr
  ·simp[runtimePanic] at hr
  ·split at hr
   ·simp[runtimePanic] at hr
   ·have hand:∀ {α:Type} (r:Result α) (f:α→World→Result Next),(∀ a w1,f a w1 = .ok n w'→∃ v,n = .value v)→r.andThen f = .ok n w'→∃ v,n = .value v:=fun r f hf h=>by
     cases r with
     | ok a w1=>exact hf a w1 h
     | halt x w1=>simp only[Result.andThen] at h;cases h
    simp only[Sem.run_bind] at hr
    refine hand _ _ (fun a w1 h=>?_) hr
    refine hand _ _ (fun a w1 h=>?_) h
    split at h
    ·simp only[Sem.run_bind] at h
     refine hand _ _ (fun a w1 h=>?_) h
     simp only[Sem.run_pure] at h;cases h;exact⟨_,rfl⟩
    ·simp only[Sem.run_pure] at h;cases h;exact⟨_,rfl⟩
   ·exact hpure _ hr
  ·exact hpure _ hr
 | _=>rw[hop] at h;cases h
def Z2r (sz:Nat):List Oper→Bool
 | []=>true
 | o::l=>Zud o.op&&(match o.dst with | some d=>decide (d<sz)&&l.all (fun o'=>o'.dst != some d) | none=>false)&&Z2r sz l
theorem Zik {F:Act} {fuel:Nat} (hsel:Region.noSelect ops=true) (hQ:∀ c a (d:Option Tmp) v w,Q (.panic c) (a.put d v) w→Q (.panic c) a w) :
  ∀ (l:List (Nat×Oper)) (listed:Array Bool) (a:Act) (w:World),(∀ p∈l,ops[p.1]?=some p.2)→Ztp md ops early l listed=true→Z2r a.tmps.size (l.map (·.2))=true →
   (∀ w',S w'→wpStill P ops w' (fun a'=>a'=F) (l.map (·.2)) a)→S w→Zfn P md ops Q S early fuel (Z7j l listed) F w→Zfn P md ops Q S early (l.length+fuel) listed a w
 | [],listed,a,w,_,_,_,h,hS,H=>by
  have:a=F:=h w hS
  subst this
  rw[show ([]:List (Nat×Oper)).length+fuel=fuel by simp]
  exact H
 | (k,o)::l,listed,a,w,hl,hB,hD,h,hS,H=>by
  have h0:ops[k]?=some o:=hl (k,o) (by simp)
  have hl':∀ p∈l,ops[p.1]?=some p.2:=fun p hp=>hl p (List.mem_cons_of_mem _ hp)
  have key:∀ w',S w'→∃ v,YieldsAt P ops w' o v a∧wpStill P ops w' (fun a'=>a'=F) (l.map (·.2)) (a.put o.dst v):=fun w' hw'=>by
   have hst:stOp P ops w' k (wpStill P ops w' (fun a'=>a'=F) (l.map (·.2))) a:=by unfold stOp;simp only[h0];exact h w' hw'
   exact yieldsAt_of_stOp h0 hst
  simp only[Ztp,Bool.and_eq_true] at hB
  obtain⟨⟨⟨hf,hr⟩,ho⟩,hB'⟩:=hB
  simp only[List.map_cons,Z2r,Bool.and_eq_true] at hD
  obtain⟨⟨hvo,hd1⟩,hD'⟩:=hD
  cases hdst:o.dst with
  | none=>rw[hdst] at hd1;cases hd1
  | some d =>
   rw[hdst] at hd1
   simp only[Bool.and_eq_true,decide_eq_true_eq] at hd1
   have hv:∀ w' v,wpStill P ops w' (fun a'=>a'=F) (l.map (·.2)) (a.put o.dst v)→v=(F.tmps[d]?).getD undef:=fun w' v hk=>by
    rw[Zhe d l _ hl' hd1.2 hk,hdst]
    simp only[Act.put]
    rw[Array.getElem?_setIfInBounds_self_of_lt hd1.1]
    rfl
   have hy:YieldsIf P ops S o ((F.tmps[d]?).getD undef) a:=by
    have hval:∀ w',S w'→(Region.wanted o (yielded ops a.tmps)=true∧(execOp a.eval o).run P w' = .ok (.value ((F.tmps[d]?).getD undef)) w')∨(Region.wanted o (yielded ops a.tmps)=false∧(F.tmps[d]?).getD undef=undef):=fun w' hw'=>by
     obtain⟨v,hy,hk⟩:=key w' hw'
     obtain rfl:=hv w' v hk
     rcases hy with ⟨h1,h2 | ⟨h2,_⟩ | ⟨f,args,h2,_⟩⟩ | h1
     ·exact .inl ⟨h1,h2⟩
     ·obtain⟨_,h3⟩:=Zqc hvo h2;cases h3
     ·obtain⟨_,h3⟩:=Zqc hvo h2;cases h3
     ·exact .inr h1
    rcases hval w hS with ⟨h1,_⟩ | h1
    ·refine .inl ⟨h1,fun w' hw'=>?_⟩
     rcases hval w' hw' with h2 | h2
     ·exact h2.2
     ·rw[h1] at h2;cases h2.1
    ·exact .inr h1
   rw[show ((k,o)::l).length+fuel=(l.length+fuel)+1 by simp;omega]
   refine Zm1 k h0 (by simp[hsel,hf,ho];simpa using hr) (fun c a w hh=>hQ c a _ _ w hh) hS hy ?_
   refine Zik hsel hQ l _ _ w hl' hB' (by rw[Zvn];exact hD') (fun w' hw'=>?_) hS H
   obtain⟨v',hy',hk'⟩:=key w' hw'
   rw[← hv w' v' hk']
   exact hk'
def Zfr (P:Program) (ops:Array Oper) (Q:Exit→Act→World→Prop) (S:World→Prop):List Oper→Act→World→Prop
 | [],a,w=>Q .normal a w
 | o::l,a,w=>wpList P ops (Zjb (fun a' w'=>S w'∧Zfr P ops Q S l a' w') Q) [o] a w
theorem Zbp {o:Oper} {l:List Oper} {a:Act} {w:World} (h:wpList P ops (Zjb (fun a' w'=>S w'∧Zfr P ops Q S l a' w') Q) [o] a w):Zfr P ops Q S (o::l) a w:=h
theorem Zj5:∀ (l:List (Nat×Oper)) (listed:Array Bool) (a:Act) (w:World),(∀ p∈l,ops[p.1]?=some p.2)→Z50 md ops l listed=true →
  Zfr P ops Q S (l.map (·.2)) a w→Zfn P md ops Q S early l.length listed a w
 | [],listed,a,w,_,hB,h=>Zh7 hB h 0
 | (k,o)::l,listed,a,w,hl,hB,h=>by
  have h0:ops[k]?=some o:=hl (k,o) (by simp)
  rw[show ((k,o)::l).length=l.length+1 from rfl]
  rw[Z50] at hB
  simp only[Bool.and_eq_true] at hB
  have hr:Region.ready md ops listed=[k]:=by simpa using hB.1
  have h:wpList P ops (Zjb (fun a' w'=>S w'∧Zfr P ops Q S (l.map (·.2)) a' w') Q) [o] a w:=h
  have hrec:=fun a' w'=>Zj5 l (listed.setIfInBounds k true) a' w' (fun p hp=>hl p (List.mem_cons_of_mem _ hp)) hB.2
  have h3:wpOp P ops Q k (fun a' w'=>S w'∧Zfr P ops Q S (l.map (·.2)) a' w') a w:=by
   unfold wpOp
   simp only[h0]
   unfold wpList at h
   split
   ·rename_i hw
    rw[if_pos hw] at h
    exact h.imp Zm2 id
   ·rename_i hw
    rw[if_neg hw] at h
    exact h
  refine⟨fun h1=>(by rw[hr] at h1;cases h1),fun j hj=>?_⟩
  rw[hr] at hj
  obtain rfl:j=k:=by simpa using hj
  exact wpOp_mono (fun a' w' hq=>⟨fun _=>hq.1,hrec a' w' hq.2⟩) h3
theorem Ze2 {id:Nat} {a:Act} {w:World} {l:List Oper} (hd tl:List Nat) (S:World→Prop) (hm:P.follows .mixedOrders=true)
  (hB:(Region.noSelect l.toArray&&Ztp .any l.toArray (hd++tl) (Zbx l hd) (Array.replicate l.length false)&&Z50 .any l.toArray (Zbx l tl) (Z7j (Zbx l hd) (Array.replicate l.length false))&&decide ((Zbx l hd).length+(Zbx l tl).length=l.length))=true)
  (hD:Z2r a.tmps.size ((Zbx l hd).map (·.2))=true) (hQ:∀ c a (d:Option Tmp) v w,Q (.panic c) (a.put d v) w→Q (.panic c) a w) (hS:S w.drew)
  (h:∃ F,(∀ w',S w'→wpStill P l.toArray w' (fun a'=>a'=F) ((Zbx l hd).map (·.2)) a)∧Zfr P l.toArray Q S ((Zbx l tl).map (·.2)) F w.drew):(Code.region id l.toArray true).wp P Q a w:=by
 obtain⟨F,h1,h2⟩:=h
 simp only[Bool.and_eq_true,decide_eq_true_eq] at hB
 obtain⟨⟨⟨hsel,hh⟩,hs⟩,hlen⟩:=hB
 refine Zm3 S (hd++tl) hm ?_
 have hsz:l.toArray.size=l.length:=by simp
 have H1:=Zj5 (P:=P) (md:=.any) (ops:=l.toArray) (Q:=Q) (S:=S) (early:=(hd++tl)) (Zbx l tl) (Z7j (Zbx l hd) (Array.replicate l.length false)) F w.drew (fun p hp=>by simpa using Zjc hp) hs h2
 have H2:=Zik (P:=P) (md:=.any) (ops:=l.toArray) (Q:=Q) (S:=S) (early:=(hd++tl)) (F:=F) (fuel:=(Zbx l tl).length) hsel hQ (Zbx l hd) (Array.replicate l.length false) a w.drew
  (fun p hp=>by simpa using Zjc hp) hh hD h1 hS H1
 rw[hlen] at H2
 rw[hsz]
 exact H2
end
end
section
open Go.RowKit
end
end Go.Proofs.YtmkdfbelbcocpaaGreatDoor
