import Derived.Test.YtbcgocpihobjnaaGreatDoorCO34
set_option linter.unusedVariables false
set_option linter.unusedSimpArgs false
set_option maxHeartbeats 32000000
set_option maxRecDepth 100000
namespace Go.Proofs.YtbcgocpihobjnaaGreatDoor
section
open Go.RowKit Go.Sort Go.Maps
def Zo2 (w w':World) (T:Tbl) (e:Ending):Prop:=Below w.heap.size w w' ∧
 match Zch T T.U 0 Zlm with
 | .ok s=>∃ AV,e = .returned (.tuple #[.slice (some ⟨AV,0,none⟩) T.U T.U,.slice none 0 0])∧Zaf w' AV 3 (ivs ((List.range T.U).map s.a))∧w.heap.size≤AV
 | .error r=>∃ g off cap,e = .returned (.tuple #[.slice none 0 0,.slice (some ⟨g,off,none⟩) r.length cap])∧OwnK w' w.heap.size 1 r.length cap (((r.map Int.ofNat).mergeSort leI).flatMap Zbf) (some ⟨g,off,none⟩)
def Zs1:List Value:=List.replicate 16 (Value.map none)
theorem Zs2 (w:World):(Instr.makeSlice 187 (.int .i64 16) (.int .i64 16)).run Tryz.prog w = .ok (.slice (some ⟨w.heap.size,0,none⟩) 16 16) (w.alloc (.cells Zs1.toArray 188)):=by
 have h:=run_make_row' (P:=Tryz.prog) 187 188 (.map none) 8 Tryz.underlying187 (by kernel_rfl) rfl .i64 .i64 16 (by omega) (by omega) w
 have e:madeCells #[Value.map none] 16=Zs1.toArray:=by
  unfold Zs1
  apply Array.ext
  ·simp[madeCells]
  ·intro i h1 h2
   simp only[List.getElem_toArray,List.getElem_replicate]
   simp[madeCells,Nat.mod_one]
 rw[e] at h
 exact h
theorem Zqb (w:World) (x:Int) (g o c N:Nat) (hg:w.cell? ⟨g,o,none⟩=some (.int .i64 x)) (hgl:g<w.heap.size) (hN2:N≤1000) :
  Calls Tryz.prog 167 #[.slice (some ⟨g,o,none⟩) 1 c,.int .i64 (N:Int)] w fun e w'=>(∃ L,e = .returned (.slice (some ⟨L,0,none⟩) N N)∧Zaf w' L 3 (ivs (List.replicate N x))∧w.heap.size≤L)∧Below w.heap.size w w':=by
 cases N with
 | zero=>exact Znm w x g o c hg hgl
 | succ N=>exact Zp9 w x g o c (N+1) hg hgl (by omega) hN2
theorem OwnK.low {w:World} {B B' k n cap:Nat} {xs:List Value} {p:Option Addr} (h:OwnK w B k n cap xs p) (hB:B'≤B):OwnK w B' k n cap xs p:=by
 cases h with
 | nil h1 h2 h3=>exact .nil h1 h2 h3
 | «at» g off h1 h2 h3 h4=>exact .at g off { h1 with own:=Nat.le_trans hB h1.own } h2 h3 h4
theorem Zmm (w:World) (g:Nat) (v:Value) (h:w.cell? ⟨g,0,none⟩=some v):(loadVar 33 ⟨g,0,none⟩).run Tryz.prog w = .ok v w:=by
 simp[loadVar,go_sem,h]
theorem Zfg {fn:Func} (hf:fn.results=#[.cell 2 33,.tmp 3]) (tmps:Array Value) (w:World) (g:Nat) (v u:Value) (hp:tmps.getD 2 undef = .pointer (some ⟨g,0,none⟩)) (hu:tmps.getD 3 undef=u) (h:w.cell? ⟨g,0,none⟩=some v) :
  (results fn tmps).run Tryz.prog w = .ok (.tuple #[v,u]) w:=by
 rw[results_cell_tmp hf,hp,hu]
 simp[asAddr,Zmm w g v h,Result.andThen]
theorem Zfh (r:List Nat):Za4 r=(r.map Int.ofNat).flatMap Zbf:=by
 induction r with
 | nil=>rfl
 | cons x r ih =>
  show Value.int .i64 (x:Int)::Za4 r=Zbf (Int.ofNat x)++(r.map Int.ofNat).flatMap Zbf
  rw[ih];rfl
theorem PlcW.start {w0 wr:World} {s0 GV L nm nu A:Nat} {f:Nat→Nat} (hs0:w0.heap.size=s0) (hL:s0+2<L∧L<GV) (hsz:GV+2≤wr.heap.size) (hB:Below s0 w0 wr)
  (RB:Zaf wr s0 102 [.pointer (some ⟨A,0,none⟩)]) (AB:Zaf wr (s0+1) 33 [.slice (some ⟨L,0,none⟩) nu nu]) (LV:Zaf wr L 3 (ivs (List.replicate nu (-1))))
  (GB:Zaf wr (GV+1) 187 [.slice (some ⟨GV,0,none⟩) 16 16]) (GV':Zaf wr GV 188 ((List.range 16).map (fun j=>Value.map (some (f j)))))
  (HM:∀ j,j<16→Zim wr (f j) 0 nm (fun _=>.slice none 0 0)∧GV+2≤f j) (HF:∀ j j',j<16→j'<16→j≠j'→f j≠f j') :
  PlcD w0.heap.size (wr.heap.size+4) ⟨wr.heap.size+2,s0,wr.heap.size+1,wr.heap.size,GV+1,GV,s0+1,L,wr.heap.size+3,A,f⟩ ∧
  PlcW w0 (((((wr.alloc (.cells (bvs (List.replicate nm false)).toArray 4)).alloc (.cells #[.slice (some ⟨wr.heap.size,0,none⟩) nm nm] 87)).alloc (.cells #[.slice none 0 0] 33)).alloc (.cells #[.nilFunc] 114)).setCell ⟨wr.heap.size+3,0,none⟩ (.func (.func 168) #[] (PlcB.ptrs ⟨wr.heap.size+2,s0,wr.heap.size+1,wr.heap.size,GV+1,GV,s0+1,L,wr.heap.size+3,A,f⟩))) (wr.heap.size+4) ⟨wr.heap.size+2,s0,wr.heap.size+1,wr.heap.size,GV+1,GV,s0+1,L,wr.heap.size+3,A,f⟩ nu nm (fun _ _=>[]) (fun _=>-1) (fun _=>false) [] 0 (fun _ _=>none) (fun _ _=>0) none 0:=by
 have hfl:∀ j,j<16→f j<wr.heap.size:=fun j hj=>(HM j hj).1.lt
 refine⟨⟨fun g hg=>?_,fun i hi=>⟨by have:=(HM i hi).2;show _≤f i;omega,by have:=hfl i hi;show f i<_;omega⟩,fun g hg=>?_,fun g hg=>?_,fun g hg=>?_,fun i hi g hg=>?_,fun i j hi hj hne=>HF i j hi hj hne⟩,?_⟩
 ·simp only[List.mem_cons,List.not_mem_nil,or_false] at hg
  rcases hg with rfl | rfl | rfl | rfl | rfl | rfl | rfl | rfl | rfl<;>constructor<;>omega
 ·simp only[List.mem_cons,List.not_mem_nil,or_false] at hg
  show g≠wr.heap.size+2
  rcases hg with rfl | rfl | rfl | rfl | rfl | rfl | rfl | rfl<;>omega
 ·simp only[List.mem_cons,List.not_mem_nil,or_false] at hg
  show g≠wr.heap.size
  rcases hg with rfl | rfl | rfl | rfl | rfl | rfl | rfl | rfl<;>omega
 ·simp only[List.mem_cons,List.not_mem_nil,or_false] at hg
  show g≠L
  rcases hg with rfl | rfl | rfl | rfl | rfl | rfl | rfl | rfl<;>omega
 ·simp only[List.mem_cons,List.not_mem_nil,or_false] at hg
  have h1:=(HM i hi).2
  have h2:=hfl i hi
  show g≠f i
  rcases hg with rfl | rfl | rfl | rfl | rfl | rfl | rfl | rfl | rfl<;>omega
 ·obtain⟨Z,hZ⟩:∃ Z,wr.heap.size=Z:=⟨_,rfl⟩
  rw[hZ]
  have e1:(wr.alloc (.cells (bvs (List.replicate nm false)).toArray 4)).heap.size=Z+1:=by rw[World.size_alloc,hZ]
  have n1:Zaf (wr.alloc (.cells (bvs (List.replicate nm false)).toArray 4)) Z 4 (bvs (List.replicate nm false)):=Zaf.newAt _ _ _ _ hZ.symm
  have b1:Below Z wr (wr.alloc (.cells (bvs (List.replicate nm false)).toArray 4)):=(Below.refl _ _).alloc (Nat.le_of_eq hZ.symm) _
  generalize wr.alloc (.cells (bvs (List.replicate nm false)).toArray 4)=x1 at *
  have e2:(x1.alloc (.cells #[.slice (some ⟨Z,0,none⟩) nm nm] 87)).heap.size=Z+2:=by rw[World.size_alloc,e1]
  have n2:Zaf (x1.alloc (.cells #[.slice (some ⟨Z,0,none⟩) nm nm] 87)) (Z+1) 87 [.slice (some ⟨Z,0,none⟩) nm nm]:=Zaf.newAt _ _ _ _ e1.symm
  have b2:Below (Z+1) x1 (x1.alloc (.cells #[.slice (some ⟨Z,0,none⟩) nm nm] 87)):=(Below.refl _ _).alloc (Nat.le_of_eq e1.symm) _
  generalize x1.alloc (.cells #[.slice (some ⟨Z,0,none⟩) nm nm] 87)=x2 at *
  have e3:(x2.alloc (.cells #[.slice none 0 0] 33)).heap.size=Z+3:=by rw[World.size_alloc,e2]
  have n3:Zaf (x2.alloc (.cells #[.slice none 0 0] 33)) (Z+2) 33 [.slice none 0 0]:=Zaf.newAt _ _ _ _ e2.symm
  have b3:Below (Z+2) x2 (x2.alloc (.cells #[.slice none 0 0] 33)):=(Below.refl _ _).alloc (Nat.le_of_eq e2.symm) _
  generalize x2.alloc (.cells #[.slice none 0 0] 33)=x3 at *
  have e4:(x3.alloc (.cells #[.nilFunc] 114)).heap.size=Z+4:=by rw[World.size_alloc,e3]
  have n4:Zaf (x3.alloc (.cells #[.nilFunc] 114)) (Z+3) 114 [.nilFunc]:=Zaf.newAt _ _ _ _ e3.symm
  have b4:Below (Z+3) x3 (x3.alloc (.cells #[.nilFunc] 114)):=(Below.refl _ _).alloc (Nat.le_of_eq e3.symm) _
  generalize x3.alloc (.cells #[.nilFunc] 114)=x4 at *
  have b14:Below Z wr x4:=((b1.trans (b2.mono (by omega))).trans (b3.mono (by omega))).trans (b4.mono (by omega))
  have on:=(Only.refl x4 (· = Z+3)).setCell (a:=⟨Z+3,0,none⟩) (.func (.func 168) #[] (PlcB.ptrs ⟨Z+2,s0,Z+1,Z,GV+1,GV,s0+1,L,Z+3,A,f⟩)) rfl
  have old:∀ {g:Nat} {t:TypeId} {cs:List Value},Zaf wr g t cs→Zaf (x4.setCell ⟨Z+3,0,none⟩ (.func (.func 168) #[] (PlcB.ptrs ⟨Z+2,s0,Z+1,Z,GV+1,GV,s0+1,L,Z+3,A,f⟩))) g t cs:=fun {g t cs} h=>by
   have hl:=h.lt
   exact (h.below b14 (by omega)).only on (by omega)
  refine⟨?_,.nil rfl rfl rfl,old RB,?_,?_,old GB,old GV',fun i hi=>?_,fun i m hi hm=>.nil rfl rfl rfl,fun i m i' m' _ _ _ _ _ g e=>(by cases e),fun i m _ _ g e=>(by cases e),old AB,?_,n4.set 0 _,?_,by rw[World.size_setCell,e4];exact Nat.le_refl _⟩
  ·exact (n3.below b4 (by omega)).only on (by omega)
  ·exact ((n2.below b3 (by omega)).below b4 (by omega)).only on (by omega)
  ·have h:=(((n1.below b2 (by omega)).below b3 (by omega)).below b4 (by omega)).only on (by omega)
   rw[List.map_const',List.length_range]
   exact h
  ·have h:=(HM i hi).1
   have hl:=h.lt
   exact (h.of_block (b14.block _ (by omega))).of_block (on.block _ (by omega) (by show ¬ (f i=Z+3);omega))
  ·have:=old LV
   rw[List.map_const',List.length_range]
   exact this
  ·rw[hs0]
   have h1:Below s0 w0 x4:=hB.trans (b14.mono (by omega))
   rw[← hs0] at h1
   have:=Only.later h1 on (fun g hg=>by rw[hg];omega)
   rwa [hs0] at this
theorem Zs3 (w:World) (A:Nat) (c:Crw) (H C:List (List Bool)) (hr:Za9 w A c H C) (hok:ReckOk c C) :
  Calls Tryz.prog 119 #[.pointer (some ⟨A,0,none⟩)] w fun e w'=>Zo2 w w' (Zat c C) e:=by
 have HR:=ħ hr
 have HOK:=ħ hok
 have hU:=hok.nu
 have hM:=hok.nm
 have hCl:=hok.len
 obtain⟨qo,mo,uo,ho,co,qc,mc,uc,hc,cc,hA,hR,-⟩:=hr
 have AW:=ħ (fun W (hW:Below w.heap.size w W)=>hA.step hW)
 unfold Zdw at AW
 rw[hCl] at AW
 have HTU:Hid ((Zat c C).U=c.us.length):=ħ rfl
 have HTM:Hid ((Zat c C).M=c.ms.length):=ħ rfl
 clear hA hR hok hCl
 generalize hnq:c.qs.length=nq at *
 generalize hnm2:c.ms.length=nm at *
 generalize hnu2:c.us.length=nu at *
 generalize H.length=nh at *
 have HNM:=ħ hnm2
 have HNU:=ħ hnu2
 clear hnq hnm2 hnu2
 have HPL:=ħ (fun B b=>Zs0 w B b c H C)
 have HW16:Hid (∀ k,k<nu→(Zat c C).win k<16):=ħ (fun k hk=>by
  rw[← HNU.o] at hk
  have h1:=HOK.o.win c.us[k] (List.getElem_mem hk)
  show (c.us.getD k ⟨0,0,0,0⟩).w.toNat<16
  rw[List.getD_eq_getElem?_getD,List.getElem?_eq_getElem hk,Option.getD_some]
  omega)
 go_enter Tryz.func119,Tryz.ntmps119
 go_upto_region 1 with (fail)
 obtain⟨s0,hs0⟩:∃ y,w.heap.size=y:=⟨_,rfl⟩
 have RB:Hid (Zaf ((w.alloc (.cells #[.pointer (some ⟨A,0,none⟩)] 102)).alloc (.cells #[.slice none 0 0] 33)) s0 102 [.pointer (some ⟨A,0,none⟩)]):=ħ (by
  rw[← hs0]
  exact (Zaf.new w _ [.pointer (some ⟨A,0,none⟩)]).step ((Below.refl _ _).alloc (Nat.le_refl _) _))
 have AB:Hid (Zaf ((w.alloc (.cells #[.pointer (some ⟨A,0,none⟩)] 102)).alloc (.cells #[.slice none 0 0] 33)) (s0+1) 33 [.slice none 0 0]):=ħ (by
  have:=Zaf.new (w.alloc (.cells #[.pointer (some ⟨A,0,none⟩)] 102)) 33 [.slice none 0 0]
  rw[World.size_alloc,hs0] at this
  exact this)
 have BW:Hid (Below s0 w ((w.alloc (.cells #[.pointer (some ⟨A,0,none⟩)] 102)).alloc (.cells #[.slice none 0 0] 33))):=ħ (by
  rw[← hs0]
  exact ((Below.refl _ _).alloc (Nat.le_refl _) _).alloc (by rw[World.size_alloc];omega) _)
 have SZ:Hid (s0+2≤((w.alloc (.cells #[.pointer (some ⟨A,0,none⟩)] 102)).alloc (.cells #[.slice none 0 0] 33)).heap.size):=ħ (by rw[World.size_alloc,World.size_alloc];omega)
 have HS0:=ħ hs0
 rw[hs0] at AW ⊢
 generalize (w.alloc (.cells #[.pointer (some ⟨A,0,none⟩)] 102)).alloc (.cells #[.slice none 0 0] 33)=w1 at *
 clear hs0
 have bn:=(Below.refl w1.heap.size w1).alloc (Nat.le_refl _) (.cells #[.int .i64 (-1)] 3)
 have rb:=(RB.o.step bn).cell 0 _ rfl
 have a4:=(AW.o _ (BW.o.trans (bn.mono (by have:=SZ.o;omega)))).cell 4 _ rfl
 have n1:(w1.alloc (.cells #[.int .i64 (-1)] 3)).cell? ⟨w1.heap.size,0,none⟩=some (.int .i64 (-1)):=(Zaf.new w1 3 [.int .i64 (-1)]).cell 0 _ rfl
 have HRP:=ħ (Zqb _ (-1) w1.heap.size 0 1 nu n1 (by rw[World.size_alloc];omega) hU)
 have HBN:=ħ bn
 clear bn n1
 go_wp2_with fail
 refine HRP.o.mono ?_
 intro e w2 hq
 obtain⟨⟨L,rfl,hL,hLl⟩,hb2⟩:=hq
 have BN2:=ħ (HBN.o.trans (hb2.mono HBN.o.size))
 have LV:=ħ hL
 have HLS:Hid (s0+2<L):=ħ (by have h1:=SZ.o;rw[World.size_alloc] at hLl;omega)
 clear rb a4 hb2 hL hLl HBN HRP
 have ab:=(AB.o.step BN2.o).cell 0 _ rfl
 have af:=(AB.o.step BN2.o).warm 0
 go_upto_region 2 with (fail)
 clear ab af
 have on:=(Only.refl w2 (· = s0+1)).setCell (a:=⟨s0+1,0,none⟩) (.slice (some ⟨L,0,none⟩) nu nu) rfl
 have AB3:=ħ ((AB.o.step BN2.o).set 0 (.slice (some ⟨L,0,none⟩) nu nu))
 simp only[List.set_cons_zero] at AB3
 have RB3:=ħ ((RB.o.step BN2.o).only on (by omega))
 have LV3:=ħ (LV.o.only on (fun e=>by have:=HLS.o;omega))
 have B3:Hid (Below s0 w (w2.setCell ⟨s0+1,0,none⟩ (.slice (some ⟨L,0,none⟩) nu nu))):=ħ ((BW.o.trans (BN2.o.mono (by have:=SZ.o;omega))).setCell (by show s0≤s0+1;omega) _)
 clear on AB RB LV BW BN2 SZ
 generalize w2.setCell ⟨s0+1,0,none⟩ (.slice (some ⟨L,0,none⟩) nu nu)=w3 at *
 have hmk:=Zs2
 go_upto_region 3 with (fail)
 clear hmk
 obtain⟨GV,hGV⟩:∃ y,w3.heap.size=y:=⟨_,rfl⟩
 rw[hGV]
 have HGV:=ħ hGV
 obtain⟨w4,hw4⟩:∃ y,(w3.alloc (.cells Zs1.toArray 188)).alloc (.cells #[.slice (some ⟨GV,0,none⟩) 16 16] 187)=y:=⟨_,rfl⟩
 have BA:Hid (Below GV w3 w4):=ħ (by
  rw[← hGV,← hw4]
  exact ((Below.refl _ _).alloc (Nat.le_refl _) _).alloc (by rw[World.size_alloc];omega) _)
 have SZ4:Hid (w4.heap.size=GV+2):=ħ (by rw[← hw4,World.size_alloc,World.size_alloc,hGV])
 have GB4:Hid (Zaf w4 (GV+1) 187 [.slice (some ⟨GV,0,none⟩) 16 16]):=ħ (by
  rw[← hw4]
  exact Zaf.newAt _ _ _ _ (by rw[World.size_alloc,hGV]))
 have GV4:Hid (Zaf w4 GV 188 ((List.range 16).map (fun j=>if j<0 then Value.map (some 0) else .map none))):=ħ (by
  rw[← hw4,← hGV]
  have h1:=Zaf.new w3 188 Zs1
  have h2:=h1.step ((Below.refl _ _).alloc (Nat.le_refl _) (.cells #[.slice (some ⟨w3.heap.size,0,none⟩) 16 16] 187))
  exact h2)
 rw[hw4]
 clear hw4
 have AB4:=ħ (AB3.o.below BA.o (by rw[← hGV];exact AB3.o.lt))
 have RB4:=ħ (RB3.o.below BA.o (by rw[← hGV];exact RB3.o.lt))
 have LV4:=ħ (LV3.o.below BA.o (by rw[← hGV];exact LV3.o.lt))
 have B4:Hid (Below s0 w w4):=ħ (B3.o.trans (BA.o.mono (by have:=RB3.o.lt;omega)))
 have HL4:Hid (s0+2<L∧L<GV):=ħ ⟨HLS.o,by rw[← hGV];exact LV3.o.lt⟩
 clear AB3 RB3 LV3 B3 BA HLS HGV hGV
 have gb:=GB4.o.cell 0 _ rfl
 go_wp2_with fail
 clear gb
 go_loopw [20] (fun iv wr=>∃ (i:Nat) (f:Nat→Nat),iv = .int .i64 i∧i≤16∧Hid (Zaf wr GV 188 ((List.range 16).map (fun j=>if j<i then Value.map (some (f j)) else .map none)))∧Hid (∀ j,j<i→Zim wr (f j) 0 nm (fun _=>.slice none 0 0)∧GV+2≤f j)∧Hid (∀ j j',j<i→j'<i→j≠j'→f j≠f j')∧Hid (Only w4 wr (· = GV))) (fun k _=>(16-intOf k).toNat)
 case atStart=>exact⟨0,fun _=>0,rfl,by omega,GV4,ħ (fun j hj=>absurd hj (Nat.not_lt_zero j)),ħ (fun j j' hj=>absurd hj (Nat.not_lt_zero j)),ħ (Only.refl _ _)⟩
 case round =>
  clear GV4
  obtain⟨i,f,rfl,hi,HV,HM,HF,HO⟩:=hrel
  have e2:IntKind.i64.wrap ((i:Int)+1)=((i+1:Nat):Int):=IntWalk.i64_in _ (by omega)
  by_cases hin:i<16
  ·have kk:(i:Int)<16:=by omega
   have BM:=ħ ((Below.refl wr.heap.size wr).alloc (Nat.le_refl _) (.map #[] 0))
   have gb:=(GB4.o.only HO.o (by omega)).cell 0 _ rfl
   have gb2:=((GB4.o.only HO.o (by omega)).step BM.o).cell 0 _ rfl
   have gv:=(HV.o.step BM.o).cell i (.map none) (by rw[List.getElem?_map,List.getElem?_range hin];simp)
   have gf:=(HV.o.step BM.o).warm i
   have hmm:=@run_makeMap Tryz.prog
   go_upto_region 7 with (fail)
   clear hmm gb gb2 gv gf
   have on:Only wr ((wr.alloc (.map #[] 0)).setCell ⟨GV,i,none⟩ (.map (some wr.heap.size))) (· = GV):=((Only.refl wr (· = GV)).step BM.o).setCell (a:=⟨GV,i,none⟩) (.map (some wr.heap.size)) rfl
   have HO2:=ħ (HO.o.trans on)
   have HSW:Hid (GV+2≤wr.heap.size):=ħ (by have:=HO.o.size;rw[SZ4.o] at this;exact this)
   have HV2:Hid (Zaf ((wr.alloc (.map #[] 0)).setCell ⟨GV,i,none⟩ (.map (some wr.heap.size))) GV 188 ((List.range 16).map (fun j=>if j<i+1 then Value.map (some (Zao f i wr.heap.size j)) else .map none))):=ħ (by
    have:=(HV.o.step BM.o).set i (.map (some wr.heap.size))
    rw[Zff] at this
    have e:Zao (fun j=>if j<i then Value.map (some (f j)) else .map none) i (.map (some wr.heap.size))=(fun j=>if j<i+1 then Value.map (some (Zao f i wr.heap.size j)) else .map none):=by
     funext j
     by_cases e:j=i
     ·subst e;rw[Zad,Zad,if_pos (by omega)]
     ·rw[Zae _ _ _ e,Zae _ _ _ e]
      by_cases e2:j<i
      ·rw[if_pos e2,if_pos (by omega)]
      ·rw[if_neg e2,if_neg (by omega)]
    rw[e] at this
    exact this)
   have HM2:Hid (∀ j,j<i+1→Zim ((wr.alloc (.map #[] 0)).setCell ⟨GV,i,none⟩ (.map (some wr.heap.size))) (Zao f i wr.heap.size j) 0 nm (fun _=>.slice none 0 0)∧GV+2≤Zao f i wr.heap.size j):=ħ (fun j hj=>by
    by_cases e:j=i
    ·subst e
     rw[Zad]
     exact⟨(Zim.new wr nm).of_block (Zce _ _ _ _ (by have:=HSW.o;show wr.heap.size≠GV;omega)),HSW.o⟩
    ·rw[Zae _ _ _ e]
     have:=HM.o j (by omega)
     exact⟨this.1.of_block (on.block _ this.1.lt (by omega)),this.2⟩)
   have HF2:Hid (∀ j j',j<i+1→j'<i+1→j≠j'→Zao f i wr.heap.size j≠Zao f i wr.heap.size j'):=ħ (fun j j' hj hj' hne=>by
    by_cases e:j=i
    ·have e2:j'≠i:=fun e2=>hne (e.trans e2.symm)
     rw[e,Zad,Zae _ _ _ e2]
     have:=(HM.o j' (by omega)).1.lt
     omega
    ·rw[Zae _ _ _ e]
     by_cases e2:j'=i
     ·rw[e2,Zad]
      have:=(HM.o j (by omega)).1.lt
      omega
     ·rw[Zae _ _ _ e2]
      exact HF.o j j' (by omega) (by omega) hne)
   clear on HO HV HM HF BM HSW
   generalize (wr.alloc (.map #[] 0)).setCell ⟨GV,i,none⟩ (.map (some wr.heap.size))=wr2 at *
   go_wp2_with fail
   go_roundw
   case rel=>exact⟨i+1,Zao f i wr.heap.size,by go_num,by omega,HV2,HM2,HF2,HO2⟩
   case measure=>simp only[intOf];omega
  ·have kk:¬ (i:Int)<16:=by omega
   obtain rfl:i=16:=by omega
   have RB5:=ħ (RB4.o.only HO.o (by have:=HL4.o;omega))
   have AB5:=ħ (AB4.o.only HO.o (by have:=HL4.o;omega))
   have LV5:=ħ (LV4.o.only HO.o (by have:=HL4.o;omega))
   have GB5:=ħ (GB4.o.only HO.o (by omega))
   have B5:Hid (Below s0 w wr):=ħ (by
    have:=B4.o
    rw[← HS0.o] at this ⊢
    exact Only.later this HO.o (fun g hg=>by have:=HL4.o;have:=HS0.o;omega))
   have HSW:Hid (GV+2≤wr.heap.size):=ħ (by have:=HO.o.size;rw[SZ4.o] at this;exact this)
   have GV5:Hid (Zaf wr GV 188 ((List.range 16).map (fun j=>Value.map (some (f j))))):=ħ (by
    have:=HV.o
    have e:(List.range 16).map (fun j=>if j<16 then Value.map (some (f j)) else .map none)=(List.range 16).map (fun j=>Value.map (some (f j))):=List.map_congr_left (fun j hj=>if_pos (List.mem_range.1 hj))
    rwa [e] at this)
   clear RB4 AB4 LV4 GB4 B4 SZ4 HV HO
   have hmk:=run_make_row' (P:=Tryz.prog) 87 4 (.bool false) 1 Tryz.underlying87 Zc8 rfl .i64 .i64 nm (by omega) (by omega)
   rw[Zeo] at hmk
   have rb:=RB5.o.cell 0 _ rfl
   have a1:=(AW.o wr B5.o).cell 1 _ rfl
   go_upto_region 11 with (fail)
   clear hmk rb a1
   obtain⟨HD0,W00⟩:=PlcW.start HS0.o HL4.o HSW.o B5.o RB5.o AB5.o LV5.o GB5.o GV5.o HM.o HF.o
   obtain⟨b,hb⟩:∃ b:PlcB,⟨wr.heap.size+2,s0,wr.heap.size+1,wr.heap.size,GV+1,GV,s0+1,L,wr.heap.size+3,A,f⟩=b:=⟨_,rfl⟩
   obtain⟨B,hB⟩:∃ B,wr.heap.size+4=B:=⟨_,rfl⟩
   rw[hB] at HD0 W00
   rw[hb] at HD0 W00
   have q3:wr.heap.size+1+1+1=b.PB:=by rw[← hb]
   have q2:wr.heap.size+1+1=b.R:=by rw[← hb]
   have q1:wr.heap.size+1=b.T:=by rw[← hb]
   have q0:wr.heap.size=b.TV:=by rw[← hb]
   have q4:GV+1=b.GB:=by rw[← hb]
   have q5:GV=b.GV:=by rw[← hb]
   have q6:s0+1=b.AB:=by rw[← hb]
   have q7:s0=b.RB:=by rw[← hb]
   have q8:L=b.AV:=by rw[← hb]
   have q9:A=b.A:=by rw[← hb]
   have q3':wr.heap.size+3=b.PB:=by rw[← hb]
   rw[q3,q2,q1]
   obtain⟨x4,hx4⟩:∃ x,(((wr.alloc (.cells (bvs (List.replicate nm false)).toArray 4)).alloc (.cells #[.slice (some ⟨wr.heap.size,0,none⟩) nm nm] 87)).alloc (.cells #[.slice none 0 0] 33)).alloc (.cells #[.nilFunc] 114)=x:=⟨_,rfl⟩
   have pv:Zaf x4 b.PB 114 [.nilFunc]:=by
    rw[← hx4,← q3']
    exact Zaf.newAt _ _ _ _ (by rw[World.size_alloc,World.size_alloc,World.size_alloc])
   have pc:=pv.cell 0 _ rfl
   have pw:=pv.warm 0
   rw[hx4,q3'] at W00
   rw[hx4,q0,q4,q5,q6,q7,q8,q9]
   unfold PlcB.ptrs at W00
   have HD:=ħ HD0
   have W0:=ħ W00
   have HPB:Hid (b.PB≠b.PB→False):=ħ (fun h=>h rfl)
   have HAW:Hid (b.RB=w.heap.size):=ħ (by rw[← hb];exact HS0.o.symm)
   have HAA:Hid (A=b.A):=ħ q9
   have HWA:=ħ (fun W (hW:Below w.heap.size w W)=>AW.o W (by rw[HS0.o] at hW;exact hW))
   rw[q9] at HWA
   clear HD0 W00 RB5 AB5 LV5 GB5 GV5 HM HF HL4 B5 q0 q1 q2 q3 q4 q5 q6 q7 q8 q9 q3' hb hB hx4 pv AW HSW
   have hsf:∀ (fn:Fn) (a b:Array Value) (p:Addr) (m:Mode) (w:World),(store p (.func fn a b) m).run Tryz.prog w=stored Tryz.prog w p (.func fn a b) m:=fun fn a b p m w=>run_store Tryz.prog w p _ m rfl
   go_upto_region 12 with (fail)
   clear pc pw hsf
   generalize x4.setCell ⟨b.PB,0,none⟩ (.func (.func 168) #[] #[.pointer (some ⟨b.R,0,none⟩),.pointer (some ⟨b.RB,0,none⟩),.pointer (some ⟨b.T,0,none⟩),.pointer (some ⟨b.GB,0,none⟩),.pointer (some ⟨b.AB,0,none⟩),.pointer (some ⟨b.PB,0,none⟩)])=w6 at *
   have HPS:Hid (∀ f,Zkl w B b (Zat c C) f):=ħ (HPL.o B b HD.o (by rw[← HAA.o];exact HR.o) HOK.o)
   clear HPL HR HOK
   obtain⟨T,hT⟩:∃ T,Zat c C=T:=⟨_,rfl⟩
   have HT:=ħ hT
   rw[hT] at HPS HTU HTM HW16
   clear hT
   have rb:=W0.o.rbox.cell 0 _ rfl
   have a4:=(HWA.o w6 W0.o.below).cell 4 _ rfl
   go_wp2_with fail
   clear rb a4
   have HE0:Hid (Zch T (nu-0) 0 Zlm=Zch T T.U 0 Zlm):=ħ (by rw[HTU.o];rfl)
   have W0':Hid (PlcW w w6 B b nu nm Zlm.G Zlm.a (fun _=>false) [] 0 (fun _ _=>none) (fun _ _=>0) none 0):=ħ W0.o
   go_loopw [41] (fun iv wr=>∃ (k:Nat) (s:Mst) (n:Nat) (ad:Nat→Nat→Option Addr) (cp:Nat→Nat→Nat) (ro:Option Addr) (rc:Nat) (r:List Nat) (t:Nat→Bool),iv = .int .i64 k∧k≤nu∧n≤k∧Hid (Zch T (nu-k) k s=Zch T T.U 0 Zlm)∧Hid (MstOk T k s)∧Hid (PlcW w wr B b nu nm s.G s.a t r n ad cp ro rc)) (fun k _=>(nu-intOf k).toNat)
   case atStart=>exact⟨0,Zlm,0,_,_,_,_,_,_,rfl,by omega,Nat.le_refl _,HE0,ħ (Zre T),W0'⟩
   case round =>
    clear W0 W0' HE0
    obtain⟨k,s,n,ad,cp,ro,rc,r,t,rfl,hk,hn,HE,HS,W1⟩:=hrel
    have e3:IntKind.i64.wrap ((k:Int)+1)=((k+1:Nat):Int):=IntWalk.i64_in _ (by omega)
    by_cases hkn:k<nu
    ·have kk:(k:Int)<nu:=by omega
     have tb:=W1.o.tbox.cell 0 _ rfl
     have hcl:=Znn wr 0 b.TV nm nm _ W1.o.tv (by simp[bvs])
     go_upto_region 16 with (fail)
     clear tb hcl
     have W2:=ħ (W1.o.clearT HD.o)
     clear W1
     generalize wr.setCells b.TV 0 (bvs (List.replicate nm false))=w7 at *
     have q0:=W2.o.reach.cell 0 _ rfl
     have qf:=W2.o.reach.warm 0
     go_upto_region 17 with (fail)
     clear q0 qf
     have W3:=ħ (W2.o.clearR HD.o)
     clear W2
     generalize w7.setCell ⟨b.R,0,none⟩ (.slice none 0 0)=w8 at *
     have HSP:Hid (Calls Tryz.prog 168 #[.int .i64 k,.pointer (some ⟨b.R,0,none⟩),.pointer (some ⟨b.RB,0,none⟩),.pointer (some ⟨b.T,0,none⟩),.pointer (some ⟨b.GB,0,none⟩),.pointer (some ⟨b.AB,0,none⟩),.pointer (some ⟨b.PB,0,none⟩)] w8 fun e w'=>Zsz w w' B b nu nm s.G (T.win k) n ad cp (fun _=>false) (Zup T k s) e):=ħ (by
      have key:=HPS.o T.M (T.win k) k ⟨s.G (T.win k),s.a,fun _=>false,[]⟩ w8 s.G n ad cp none 0 (HW16.o k hkn) rfl (by rw[HTU.o];exact hkn) (HS.o.call (by rw[HTU.o];exact hkn)) (Zj4 _ _ _ _) (fun v hv=>by cases hv) (by omega)
      rw[HTU.o,HTM.o,Zyj] at key
      have key:=key W3.o
      unfold Zup
      rw[HTM.o]
      exact key)
     have pb:=W3.o.pbox.cell 0 _ rfl
     unfold PlcB.ptrs at pb
     clear HPS W3
     go_wp2_with fail
     refine HSP.o.mono ?_
     intro e w9 hq
     clear pb HSP
     obtain⟨n4,ad4,cp4,ro4,rc4,rfl,W4,hn4,-⟩:=hq
     have W4:=ħ W4
     have HE2:Hid (Zch T (nu-k) k s=match Zup T k s with | (true,p)=>Zch T (nu-(k+1)) (k+1) ⟨Zao s.G (T.win k) p.g,p.a⟩ | (false,p)=>.error p.r):=ħ (by
      obtain⟨m,hm⟩:∃ m,nu-k=m+1:=⟨nu-(k+1),by omega⟩
      have hm2:nu-(k+1)=m:=by omega
      rw[hm,hm2]
      rfl)
     cases hup:Zup T k s with
     | mk b3 p =>
      rw[hup] at W4 HE2 hn4
      have HUP:=ħ hup
      clear hup
      cases b3 with
      | true =>
       have hn4:n4≤n+1:=by simpa using hn4
       have W4':Hid (PlcW w w9 B b nu nm (Zao s.G (T.win k) p.g) p.a p.t p.r n4 ad4 cp4 ro4 rc4):=ħ W4.o
       have HE3:Hid (Zch T (nu-(k+1)) (k+1) ⟨Zao s.G (T.win k) p.g,p.a⟩=Zch T T.U 0 Zlm):=ħ (by rw[← HE.o,HE2.o])
       have HS3:=ħ (HS.o.next (by rw[HTU.o];exact hkn) HUP.o)
       clear W4 HE2 HE HS
       go_wp2_with fail
       go_roundw
       case rel=>exact⟨k+1,⟨Zao s.G (T.win k) p.g,p.a⟩,n4,ad4,cp4,ro4,rc4,p.r,p.t,by go_num,by omega,by omega,HE3,HS3,W4'⟩
       case measure=>simp only[intOf];omega
      | false =>
       have W4':Hid (PlcW w w9 B b nu nm (Zao s.G (T.win k) p.g) p.a p.t p.r n4 ad4 cp4 ro4 rc4):=ħ W4.o
       have HE3:Hid (Zch T T.U 0 Zlm = .error p.r):=ħ (by rw[← HE.o,HE2.o])
       obtain⟨hsh,hkr⟩:=HS.o.short (by rw[HTU.o];exact hkn) HUP.o
       have hlen:p.r.length≤nu:=Zzl (U:=nu) hsh.nodup (fun v hv=>by rw[← HTU.o];exact (hsh.win v hv).1)
       have hown:=W4'.o.rown
       obtain⟨g,off,hro⟩:∃ g off,ro4=some ⟨g,off,none⟩:=by
        cases ro4 with
        | none =>
         cases hown with | nil h1 h2 h3 =>
         rw[List.map_eq_nil_iff.1 h1] at hkr
         cases hkr
        | some a =>
         cases hown with
         | «at» g off h1 h2 h3 h4=>exact⟨g,off,rfl⟩
       subst hro
       rw[Zfh] at hown
       have hgB:=hown.blk_lt (g:=g) rfl
       have HGB:=ħ hgB
       have HIS:=ħ (Zsn w9 B p.r.length rc4 g off (p.r.map Int.ofNat) (by rw[List.length_map]) hown (by omega))
       have q0:=W4'.o.reach.cell 0 _ rfl
       clear W4 HE2 HE HS hsh hkr hown hgB
       go_wp2_with fail
       refine HIS.o.mono ?_
       rintro e w10 ⟨rfl,ho10,on10⟩
       have HO10:=ħ ho10
       have ON:=ħ on10
       clear q0 HIS ho10 on10
       have q0:=(W4'.o.reach.only ON.o (by have:=HD.o.range b.R (by simp);have:=HGB.o.1;omega)).cell 0 _ rfl
       have ab:=(W4'.o.abox.only ON.o (by have:=HD.o.range b.AB (by simp);have:=HGB.o.1;omega)).cell 0 _ rfl
       have af:=(W4'.o.abox.only ON.o (by have:=HD.o.range b.AB (by simp);have:=HGB.o.1;omega)).warm 0
       have on:=(Only.refl w10 (· = b.AB)).setCell (a:=⟨b.AB,0,none⟩) (.slice none 0 0) rfl
       have q1:=((W4'.o.reach.only ON.o (by have:=HD.o.range b.R (by simp);have:=HGB.o.1;omega)).only on (HD.o.r b.AB (by simp)).symm).cell 0 _ rfl
       go_wp2_with fail
       go_region
       go_wp2_with fail
       have hA:Zaf w10 b.AB 33 [.slice (some ⟨b.AV,0,none⟩) nu nu]:=W4'.o.abox.only ON.o (by have:=HD.o.range b.AB (by simp);have:=HGB.o.1;omega)
       have bd:=(Below.refl (w10.setCell ⟨b.AB,0,none⟩ (.slice none 0 0)).heap.size (w10.setCell ⟨b.AB,0,none⟩ (.slice none 0 0))).drew
       have hc:=((hA.set 0 (.slice none 0 0)).step bd).cell 0 _ rfl
       refine bodyPost_ret (Zfg (by kernel_rfl) _ _ b.AB _ _ rfl rfl hc) rfl ?_
       unfold Zo2
       rw[HT.o,HE3.o]
       have hBw:w.heap.size≤B:=by have:=HD.o.range b.AB (by simp);omega
       have ho:=(HO10.o.of_block (fun g' e hl=>on.block g' hl (fun e2=>by have:=(HO10.o.blk_lt e).1;have:=HD.o.range b.AB (by simp);omega)) on.size).below bd
       exact⟨Only.later (Only.later W4'.o.below ON.o (fun g' hg=>by rw[hg];have:=HGB.o.1;omega)) (on.step bd) (fun g hg=>by rw[hg];exact (HD.o.range b.AB (by simp)).1),g,off,rc4,rfl,ho.low hBw⟩
    ·have kk:¬ (k:Int)<nu:=by omega
     obtain rfl:nu=k:=by omega
     have ab:=W1.o.abox.cell 0 _ rfl
     have af:=W1.o.abox.warm 0
     go_wp2_with fail
     have on:=(Only.refl wr (· = b.AB)).setCell (a:=⟨b.AB,0,none⟩) (.slice (some ⟨b.AV,0,none⟩) nu nu) rfl
     have hc:=(W1.o.abox.set 0 (.slice (some ⟨b.AV,0,none⟩) nu nu)).cell 0 _ rfl
     have HRE:Zch T T.U 0 Zlm = .ok s:=by rw[← HE.o,Nat.sub_self];rfl
     refine bodyPost_ret (Zfg (by kernel_rfl) _ _ b.AB _ _ rfl rfl hc) rfl ?_
     unfold Zo2
     rw[HT.o,HRE,HTU.o]
     exact⟨Only.later W1.o.below on (fun g hg=>by rw[hg];exact (HD.o.range b.AB (by simp)).1),b.AV,rfl,W1.o.av.only on (fun e=>HD.o.av b.AB (by simp) e.symm),(HD.o.range b.AV (by simp)).1⟩
end
section
open Go.RowKit Go.Sort Go.Maps
theorem Zmn (w:World) (a:Option Addr) (n c:Nat):(binOp .eql 33 (.slice a n c) (.slice none 0 0)).run Tryz.prog w = .ok (.bool a.isNone) w:=Lib.run_eql_slice_nil w 33 3 a n c 0 0 Tryz.underlying33
theorem Zkm (w:World) (A:Nat) (c:Crw) (H C:List (List Bool)) (hr:Za9 w A c H C) (hok:ReckOk c C) :
  Calls Tryz.prog 142 #[.pointer (some ⟨A,0,none⟩)] w fun e w'=>e = .returned (.bool (Zcg (Zat c C)))∧Below w.heap.size w w':=by
 have HM:=ħ (Zs3 w A c H C hr hok)
 obtain⟨T,hT⟩:∃ T,Zat c C=T:=⟨_,rfl⟩
 rw[hT] at HM ⊢
 clear hr hok hT
 have HF:Hid (Zcg T=match Zch T T.U 0 Zlm with | .ok _=>true | .error _=>false):=ħ rfl
 generalize Zcg T=fb at *
 have hq:=Zmn
 go_enter Tryz.func142,Tryz.ntmps142
 go_wp2_with fail
 refine HM.o.mono ?_
 intro e w' hmq
 unfold Zo2 at hmq
 obtain⟨hb,hres⟩:=hmq
 have HB:=ħ hb
 clear hb HM
 cases hm:Zch T T.U 0 Zlm with
 | ok s =>
  rw[hm] at hres HF
  obtain⟨AV,rfl,-,-⟩:=hres
  have hfb:fb=true:=HF.o
  subst hfb
  clear HF hm
  go_wp2_with fail
  go_ret
  exact⟨rfl,HB.o⟩
 | error r =>
  rw[hm] at hres HF
  obtain⟨g,off,cap,rfl,-⟩:=hres
  have hfb:fb=false:=HF.o
  subst hfb
  clear HF hm
  go_wp2_with fail
  go_ret
  exact⟨rfl,HB.o⟩
theorem Zv3 (c:Crw) (C:List (List Bool)) (u m:Nat):(Zbn c C u m).length=C.length:=by unfold Zbn;rw[List.length_set]
theorem ReckOk.fix {c:Crw} {C:List (List Bool)} (h:ReckOk c C) (u m:Nat):ReckOk c (Zbn c C u m) :=
 ⟨by rw[Zv3];exact h.len,fun r hr=>by
  unfold Zbn at hr
  rcases List.mem_or_eq_of_mem_set hr with h1 | h1
  ·exact h.row r h1
  ·rw[h1,List.length_set,List.length_replicate],h.win,h.tic,h.nm,h.nu⟩
theorem Zkn {c:Crw} {C:List (List Bool)} (h:ReckOk c C) {u m:Nat} (hu:u<c.us.length) (v k:Nat) (hk:k<c.ms.length):(Zat c (Zbn c C u m)).can v k=if v=u then (Zat c C).can u m&&decide (k=m) else (Zat c C).can v k:=by
 show ((Zbn c C u m).getD v []).getD k false=if v=u then (C.getD u []).getD m false&&decide (k=m) else (C.getD v []).getD k false
 unfold Zbn
 rw[List.getD_eq_getElem?_getD (l:=C.set _ _)]
 by_cases e:v=u
 ·subst e
  rw[if_pos rfl,List.getElem?_set_self (by rw[h.len];exact hu),Option.getD_some,List.getD_eq_getElem?_getD (l:=List.set _ _ _)]
  by_cases e2:k=m
  ·subst e2
   rw[List.getElem?_set_self (by rw[List.length_replicate];exact hk)]
   simp
  ·rw[List.getElem?_set_ne (fun e3=>e2 e3.symm),List.getElem?_replicate,if_pos hk]
   simp[e2]
 ·rw[if_neg e,List.getElem?_set_ne (fun e3=>e e3.symm),← List.getD_eq_getElem?_getD (l:=C)]
theorem Zdb {c:Crw} {C:List (List Bool)} (h:ReckOk c C) {u m:Nat} (hu:u<c.us.length) (hm:m<c.ms.length) (a:Nat→Nat):Legal (Zat c (Zbn c C u m)) a↔Legal (Zat c C) a∧a u=m:=by
 have hl:∀ k w,Zgp (Zat c (Zbn c C u m)) a k w=Zgp (Zat c C) a k w:=fun _ _=>rfl
 constructor
 ·intro hL
  have h1:=hL.can u hu
  rw[Zkn h hu u (a u) (hL.mem u hu),if_pos rfl] at h1
  have hau:a u=m:=by simpa using (Bool.and_eq_true_iff.1 h1).2
  refine⟨⟨hL.mem,fun v hv=>?_,fun k w=>?_⟩,hau⟩
  ·have h2:=hL.can v hv
   rw[Zkn h hu v (a v) (hL.mem v hv)] at h2
   by_cases e:v=u
   ·subst e;rw[hau];exact (Bool.and_eq_true_iff.1 h1).1
   ·rwa [if_neg e] at h2
  ·have:=hL.few k w
   rwa [hl] at this
 ·rintro⟨hL,hau⟩
  refine⟨hL.mem,fun v hv=>?_,fun k w=>by rw[hl];exact hL.few k w⟩
  rw[Zkn h hu v (a v) (hL.mem v hv)]
  by_cases e:v=u
  ·subst e
   rw[if_pos rfl,← hau,hL.can v hv]
   simp
  ·rw[if_neg e];exact hL.can v hv
def Zin (c:Crw) (C:List (List Bool)) (u m:Nat):Bool:=(Zat c C).can u m&&Zcg (Zat c (Zbn c C u m))
def Zfi (c:Crw) (C:List (List Bool)) (u:Nat):List Nat:=(List.range c.ms.length).filter (Zin c C u)
theorem Zf7 {c:Crw} {C:List (List Bool)} (h:ReckOk c C) {u m:Nat} (hu:u<c.us.length) (hm:m<c.ms.length):Zin c C u m=true↔∃ a,Legal (Zat c C) a∧a u=m:=by
 unfold Zin
 rw[Bool.and_eq_true,Zj5]
 constructor
 ·rintro⟨-,a,ha⟩
  exact⟨a,(Zdb h hu hm a).1 ha⟩
 ·rintro⟨a,ha,rfl⟩
  exact⟨ha.can u hu,a,(Zdb h hu hm a).2 ⟨ha,rfl⟩⟩
end
section
open Go.RowKit Go.Sort Go.Maps
theorem Zbx (p:Nat→Bool) (k:Nat):(List.range (k+1)).filter p=if p k=true then (List.range k).filter p++[k] else (List.range k).filter p:=by
 rw[List.range_succ,List.filter_append]
 by_cases e:p k=true
 ·rw[if_pos e,List.filter_cons_of_pos e];rfl
 ·rw[if_neg e,List.filter_cons_of_neg e];simp
theorem Zbj (p:Nat→Bool) (k:Nat):((List.range k).filter p).length≤k:=by
 have:=List.length_filter_le p (List.range k)
 rwa [List.length_range] at this
theorem Zno (w:World) (A:Nat) (c:Crw) (H C:List (List Bool)) (u:Nat) (hr:Za9 w A c H C) (hok:ReckOk c C) (hu:u<c.us.length) :
  Calls Tryz.prog 86 #[.pointer (some ⟨A,0,none⟩),.int .i64 u] w fun e w'=>(∃ o cap,e = .returned (.slice o (Zfi c C u).length cap)∧OwnK w' w.heap.size 1 (Zfi c C u).length cap (Za4 (Zfi c C u)) o)∧Below w.heap.size w w':=by
 have HR:=ħ hr
 have HOK:=ħ hok
 have hM:=hok.nm
 have hU:=hok.nu
 obtain⟨qo,mo,uo,ho,co,qc,mc,uc,hc,cc,hA,hR,-⟩:=hr
 obtain⟨ru,hru⟩:∃ y,C[u]?=some y:=⟨_,List.getElem?_eq_getElem (by rw[hok.len];exact hu)⟩
 have HRL:Hid (ru.length=c.ms.length):=ħ (hok.row ru (List.mem_of_getElem? hru))
 have HCAN:Hid (∀ k,(Zat c C).can u k=ru.getD k false):=ħ (fun k=>by
  show (C.getD u []).getD k false=_
  rw[List.getD_eq_getElem?_getD (l:=C),hru];rfl)
 have ha:=hA.cell 4 _ rfl
 obtain⟨gc,oc,bo,bc,hco,hgc,hrc,hrb⟩:=hR.c.at u ru hru
 have HRB:=ħ (fun W (hW:Below w.heap.size w W)=>hrb.below hW)
 rw[HRL.o] at hrc
 have HFX:Hid (∀ k,k<c.ms.length→∀ W,Below w.heap.size w W→Calls Tryz.prog 84 #[.pointer (some ⟨A,0,none⟩),.int .i64 u,.int .i64 k] W fun e w'=>∃ X,e = .returned (.pointer (some ⟨X,0,none⟩))∧Za9 w' X c H (Zbn c C u k)∧W.heap.size≤X∧Below W.heap.size W w'):=ħ (fun k hk W hW =>
  Znk W A c H C u k (HR.o.below hW) (by rw[hok.len];exact hu) hk hok.row (by rw[hok.len];omega) (by omega))
 have HFE:Hid (∀ k W X,Za9 W X c H (Zbn c C u k)→Calls Tryz.prog 142 #[.pointer (some ⟨X,0,none⟩)] W fun e w'=>e = .returned (.bool (Zcg (Zat c (Zbn c C u k))))∧Below W.heap.size W w'):=ħ (fun k W X hX=>Zkm W X c H (Zbn c C u k) hX (hok.fix u k))
 have uu:(u:Int)<C.length:=by rw[hok.len];omega
 have HPB:Hid (∀ k,Zin c C u k=(ru.getD k false&&Zcg (Zat c (Zbn c C u k)))):=ħ (fun k=>by unfold Zin;rw[HCAN.o])
 have HPF:Hid (Zfi c C u=(List.range c.ms.length).filter (Zin c C u)):=ħ rfl
 clear hA hR hrb hru hok HOK HCAN
 subst hco
 generalize Zfi c C u=PF at *
 generalize Zin c C u=pb at *
 generalize hnm:c.ms.length=nm at *
 generalize c.us.length=nu at *
 generalize C.length=nc at *
 have HNM:=ħ hnm
 clear hnm
 go_enter Tryz.func86,Tryz.ntmps86
 go_wp2_with fail
 clear ha hrc
 go_loopw [15,4] (fun kv ov wr=>∃ (k:Nat) (n:Nat) (o:Option Addr) (cap:Nat),kv = .int .i64 k∧ov = .slice o n cap∧k≤nm∧n≤k∧Hid (((List.range k).filter pb).length=n)∧Hid (OwnK wr w.heap.size 1 n cap (Za4 ((List.range k).filter pb)) o)∧Hid (Below w.heap.size w wr)) (fun k _ _=>(nm-intOf k).toNat)
 case atStart=>exact⟨0,0,none,0,rfl,rfl,by omega,Nat.le_refl _,ħ rfl,ħ (.nil rfl rfl rfl),ħ (Below.refl _ _)⟩
 case round =>
  obtain⟨k,n,o,cap,rfl,rfl,hk,hn,HN,HO,HB⟩:=hrel
  have e2:IntKind.i64.wrap ((k:Int)+1)=((k+1:Nat):Int):=IntWalk.i64_in _ (by omega)
  by_cases hkn:k<nm
  ·have kk:(k:Int)<nm:=by omega
   obtain⟨gb,ob,hbo,hbc⟩:=(HRB.o wr HB.o).bool k (by rw[HRL.o];exact hkn)
   subst hbo
   have HPK:=HPB.o k
   obtain⟨bk,hbk⟩:∃ y,ru.getD k false=y:=⟨_,rfl⟩
   rw[hbk] at hbc HPK
   have HPK:=ħ HPK
   clear hbk
   have HNX:=ħ (Zbx pb k)
   cases bk with
   | false =>
    have HPK2:Hid (pb k=false):=ħ (by rw[HPK.o];rfl)
    clear HPK
    go_wp2_with fail
    clear hbc
    go_roundw
    case rel=>exact⟨k+1,n,o,cap,by go_num,rfl,by omega,by omega,ħ (by rw[HNX.o,HPK2.o];exact HN.o),ħ (by rw[HNX.o,HPK2.o];exact HO.o),HB⟩
    case measure=>simp only[intOf];omega
   | true =>
    have HC1:=ħ (HFX.o k hkn wr HB.o)
    obtain⟨fk,hfk⟩:∃ y,Zcg (Zat c (Zbn c C u k))=y:=⟨_,rfl⟩
    have HFK:Hid (∀ W X,Za9 W X c H (Zbn c C u k)→Calls Tryz.prog 142 #[.pointer (some ⟨X,0,none⟩)] W fun e w'=>e = .returned (.bool fk)∧Below W.heap.size W w'):=ħ (fun W X hX=>by rw[← hfk];exact HFE.o k W X hX)
    have HPK2:Hid (pb k=fk):=ħ (by rw[HPK.o,hfk];rfl)
    clear HPK hfk
    go_wp2_with fail
    refine HC1.o.mono ?_
    clear HC1
    intro e w2 hq
    obtain⟨X,rfl,hX,-,hb2⟩:=hq
    have HB2:=ħ hb2
    have HFC:=ħ (HFK.o w2 X hX)
    clear hX hb2 HFK
    go_wp2_with fail
    refine HFC.o.mono ?_
    clear HFC
    rintro e w3 ⟨rfl,hb3⟩
    have B3:=ħ (HB.o.trans ((HB2.o.trans (hb3.mono HB2.o.size)).mono HB.o.size))
    have O3:=ħ (HO.o.below (HB2.o.trans (hb3.mono HB2.o.size)))
    clear hb3 HB2 hbc
    cases fk with
    | false =>
     go_wp2_with fail
     go_roundw
     case rel=>exact⟨k+1,n,o,cap,by go_num,rfl,by omega,by omega,ħ (by rw[HNX.o,HPK2.o];exact HN.o),ħ (by rw[HNX.o,HPK2.o];exact O3.o),B3⟩
     case measure=>simp only[intOf];omega
    | true =>
     go_upto_region 6 with (at_builtin;refine Zd0 33 3 (.int .i64 0) 1 8 Tryz.underlying33 Zbz rfl (by omega) (by omega) w3 w.heap.size rfl (.tmp 28) (.tmp 30) rfl o cap n (Za4 ((List.range k).filter pb)) ?q1 O3.o B3.o.size 1 1 #[.int .i64 (k:Int)] 3 ?q2 rfl (by omega) ?q3 ?q4 ?_;(case q1=>rfl);(case q2=>rfl);(case q3=>simp[Value.oneCell']);(case q4=>omega);intro g5 off5 c5 wa o8 gr8 b8 or8;have O8:=ħ o8;have B8:=ħ (B3.o.trans b8);clear o8 gr8 b8 or8)
     go_wp2_with fail
     go_roundw
     case rel=>exact⟨k+1,n+1,_,_,by go_num,rfl,by omega,by omega,ħ (by rw[HNX.o,HPK2.o,if_pos rfl,List.length_append,HN.o];rfl),ħ (by rw[HNX.o,HPK2.o,if_pos rfl,← Zcr];exact O8.o),B8⟩
     case measure=>simp only[intOf];omega
  ·have kk:¬ (k:Int)<nm:=by omega
   obtain rfl:nm=k:=by omega
   go_wp2_with fail
   go_ret
   rw[HPF.o]
   exact⟨⟨o,cap,by rw[HN.o];rfl,by rw[HN.o];exact HO.o⟩,HB.o⟩
end
section
open Go.RowKit Go.Sort Go.Maps
def Zmo (c:Crw) (C:List (List Bool)) (u:Nat):Option Nat:=(List.range c.ms.length).find? (Zin c C u)
def Zax (c:Crw):Nat→Nat→List (List Bool)→List Nat→List Nat
 | 0,_,_,out=>out
 | n+1,u,C,out=>match Zmo c C u with
  | some m=>Zax c n (u+1) (Zbn c C u m) (out++[m])
  | none=>Zax c n (u+1) C out
theorem OwnK.empty (w:World) (B:Nat) (T:TypeId) (hB:B≤w.heap.size):OwnK (w.alloc (.cells #[] T)) B 1 0 0 [] (some ⟨w.heap.size,0,none⟩) :=
 .at _ _ ⟨hB,by rw[World.size_alloc];omega,by simp,fun j v hj=>by simp at hj,fun j hj=>by omega,fun j hj=>by omega⟩ rfl (Nat.zero_le _) (Nat.le_refl _)
theorem Zbk {w w':World} {row:Option Nat} (h:w.grownBy w' row):Only w w' (fun g=>row=some g):=⟨h.os,h.tape,h.output,h.size,fun i hi hp=>h.block i hi (fun e=>hp e.symm)⟩
def Zgl (w:World) (c:Crw) (C:List (List Bool)) (e:Ending) (w':World):Prop:=Below w.heap.size w w' ∧
 if Zcg (Zat c C)=true then ∃ o cap,e = .returned (.tuple #[.slice o (Zax c c.us.length 0 C []).length cap,.bool true])∧OwnK w' w.heap.size 1 (Zax c c.us.length 0 C []).length cap (Za4 (Zax c c.us.length 0 C [])) o
 else e = .returned (.tuple #[.slice none 0 0,.bool false])
theorem Zmp (w:World) (A:Nat) (c:Crw) (H C:List (List Bool)) (hr:Za9 w A c H C) (hok:ReckOk c C) :
  Calls Tryz.prog 85 #[.pointer (some ⟨A,0,none⟩)] w fun e w'=>Zgl w c C e w':=by
 have hM:=hok.nm
 have hU:=hok.nu
 have HR:=ħ hr
 have HOK:=ħ hok
 have HF:=ħ (Zkm w A c H C hr hok)
 have HFX:Hid (∀ X C' Q u k W,Zc9 W Q X c H C'→(∀ g,Q g→g<W.heap.size)→ReckOk c C'→u<c.us.length→k<c.ms.length→Calls Tryz.prog 84 #[.pointer (some ⟨X,0,none⟩),.int .i64 u,.int .i64 k] W fun e w'=>∃ X,e = .returned (.pointer (some ⟨X,0,none⟩))∧Zc9 w' Q X c H (Zbn c C' u k)∧W.heap.size≤X∧Below W.heap.size W w'):=ħ (fun X C' Q u k W h1 hq h2 hu hk =>
  Zv0 W Q X c H C' u k h1 hq (by rw[h2.len];exact hu) hk h2.row (by rw[h2.len];omega) (by omega))
 have HFE:Hid (∀ X C' W,Za9 W X c H C'→ReckOk c C'→Calls Tryz.prog 142 #[.pointer (some ⟨X,0,none⟩)] W fun e w'=>e = .returned (.bool (Zcg (Zat c C')))∧Below W.heap.size W w'):=ħ (fun X C' W hX h2=>Zkm W X c H C' hX h2)
 have HQ:Hid (∀ fb,Zcg (Zat c C)=fb→∀ e w',Zgl w c C e w'↔Below w.heap.size w w'∧if fb=true then ∃ o cap,e = .returned (.tuple #[.slice o (Zax c c.us.length 0 C []).length cap,.bool true])∧OwnK w' w.heap.size 1 (Zax c c.us.length 0 C []).length cap (Za4 (Zax c c.us.length 0 C [])) o else e = .returned (.tuple #[.slice none 0 0,.bool false])):=ħ (fun fb h e w'=>by
  unfold Zgl
  rw[h])
 have HROW:Hid (∀ X C' u W,Za9 W X c H C'→ReckOk c C'→u<c.us.length→∃ gc oc cc bo bc ru,W.cell? ⟨X,4,none⟩=some (.slice (some ⟨gc,oc,none⟩) c.us.length cc)∧W.cell? ⟨gc,oc+u,none⟩=some (.slice bo c.ms.length bc)∧Zak Zc0 W bo ru∧ru.length=c.ms.length∧∀ k,(Zat c C').can u k=ru.getD k false):=ħ (fun X C' u W h1 h2 hu=>by
  obtain⟨qo,mo,uo,ho,co,qc,mc,uc,hc,cc,hA,hR,-⟩:=h1
  obtain⟨ru,hru⟩:∃ y,C'[u]?=some y:=⟨_,List.getElem?_eq_getElem (by rw[h2.len];exact hu)⟩
  have hrl:=h2.row ru (List.mem_of_getElem? hru)
  have ha:=hA.cell 4 _ rfl
  obtain⟨gc,oc,bo,bc,hco,hgc,hrc,hrb⟩:=hR.c.at u ru hru
  rw[hco,h2.len] at ha
  rw[hrl] at hrc
  exact⟨gc,oc,cc,bo,bc,ru,ha,hrc,hrb,hrl,fun k=>by
   show (C'.getD u []).getD k false=_
   rw[List.getD_eq_getElem?_getD (l:=C'),hru];rfl⟩)
 have H4:Hid (∀ W,Below w.heap.size w W→∃ co cc,W.cell? ⟨A,4,none⟩=some (.slice co c.us.length cc)):=ħ (fun W hW=>by
  obtain⟨qo,mo,uo,ho,co,qc,mc,uc,hc,cc,hA,hR,-⟩:=HR.o.below hW
  have:=hA.cell 4 _ rfl
  rw[hok.len] at this
  exact⟨co,cc,this⟩)
 clear hok hr
 obtain⟨fb,hfb⟩:∃ y,Zcg (Zat c C)=y:=⟨_,rfl⟩
 rw[hfb] at HF
 have HQ:=ħ (HQ.o fb hfb)
 clear hfb
 have HST:Hid (∀ n u C' out m,Zin c C' u m=true→m<c.ms.length→(∀ j,j<m→Zin c C' u j=false)→Zax c (n+1) u C' out=Zax c n (u+1) (Zbn c C' u m) (out++[m])):=ħ (fun n u C' out m h1 h2 h3=>by
  have:Zmo c C' u=some m:=by
   unfold Zmo
   rw[List.find?_range_eq_some]
   exact⟨h1,List.mem_range.2 h2,fun j hj=>by rw[h3 j hj];rfl⟩
  show (match Zmo c C' u with | some m=>_ | none=>_)=_
  rw[this])
 have HSN:Hid (∀ n u C' out,(∀ j,j<c.ms.length→Zin c C' u j=false)→Zax c (n+1) u C' out=Zax c n (u+1) C' out):=ħ (fun n u C' out h=>by
  have:Zmo c C' u=none:=by
   unfold Zmo
   rw[List.find?_range_eq_none]
   exact fun j hj=>by rw[h j hj];rfl
  show (match Zmo c C' u with | some m=>_ | none=>_)=_
  rw[this])
 obtain⟨RES,hRES⟩:∃ y,Zax c c.us.length 0 C []=y:=⟨_,rfl⟩
 rw[hRES] at HQ
 have HRE:=ħ hRES
 clear hRES
 generalize hnm:c.ms.length=nm at *
 generalize hnu:c.us.length=nu at *
 have HNM:=ħ hnm
 clear hnm hnu
 go_enter Tryz.func85,Tryz.ntmps85
 go_wp2_with fail
 refine HF.o.mono ?_
 rintro e w1 ⟨rfl,hb1⟩
 have B1:=ħ hb1
 clear hb1 HF
 cases fb with
 | false =>
  go_wp2_with fail
  go_ret2
  rw[HQ.o]
  exact⟨B1.o,rfl⟩
 | true =>
  have HQ2:Hid (∀ e w',Below w.heap.size w w'→(∃ o cap,e = .returned (.tuple #[.slice o RES.length cap,.bool true])∧OwnK w' w.heap.size 1 RES.length cap (Za4 RES) o)→Zgl w c C e w'):=ħ (fun e w' h1 h2=>(HQ.o e w').2 ⟨h1,by rw[if_pos rfl];exact h2⟩)
  go_upto_region 4 with (fail)
  have B2:=ħ (B1.o.alloc B1.o.size (.cells #[] 3))
  have O2:=ħ (OwnK.empty w1 w.heap.size 3 B1.o.size)
  generalize w1.alloc (.cells #[] 3)=w2 at *
  obtain⟨co,cc,a4⟩:=H4.o w2 B2.o
  have HR2:Hid (Zc9 w2 (fun g=>blk (some ⟨w1.heap.size,0,none⟩)=some g) A c H C):=ħ (HR.o.free B2.o (fun g h=>by have h1:w1.heap.size=g:=Option.some.inj h;have:=B1.o.size;omega))
  go_wp2_with fail
  clear a4 H4 HR
  have HE0:Hid (Zax c (nu-0) 0 C []=RES):=ħ HRE.o
  go_loopw [18,4,0] (fun kv ov xv wr=>∃ (u n:Nat) (o:Option Addr) (cap X:Nat) (C':List (List Bool)) (out:List Nat),kv = .int .i64 u∧ov = .slice o n cap∧xv = .pointer (some ⟨X,0,none⟩)∧u≤nu∧n≤u∧Hid (out.length=n)∧Hid (OwnK wr w.heap.size 1 n cap (Za4 out) o)∧Hid (Below w.heap.size w wr)∧Hid (Zc9 wr (fun g=>blk o=some g) X c H C')∧Hid (ReckOk c C')∧Hid (Zax c (nu-u) u C' out=RES)) (fun k _ _ _=>(nu-intOf k).toNat)
  case atStart=>exact⟨0,0,_,0,A,C,[],rfl,rfl,rfl,by omega,Nat.le_refl _,ħ rfl,O2,B2,HR2,HOK,HE0⟩
  case round =>
   clear O2 B2 HR2 HOK HE0
   obtain⟨u,n,o,cap,X,C',out,rfl,rfl,rfl,hu,hn,HN,HO,HB,HX,HXO,HE⟩:=hrel
   have e2:IntKind.i64.wrap ((u:Int)+1)=((u+1:Nat):Int):=IntWalk.i64_in _ (by omega)
   by_cases hun:u<nu
   ·have kk:(u:Int)<nu:=by omega
    obtain⟨gc,oc,cc',bo,bc,ru,x4,xr,hrb,hrl,hcan⟩:=HROW.o X C' u wr HX.o.reck HXO.o hun
    have HRB:=ħ (fun W (hW:Below wr.heap.size wr W)=>hrb.below hW)
    have HRL:=ħ hrl
    have HPB:Hid (∀ k,Zin c C' u k=(ru.getD k false&&Zcg (Zat c (Zbn c C' u k)))):=ħ (fun k=>by unfold Zin;rw[hcan])
    obtain⟨rest,hrest⟩:∃ y,nu-u=y+1:=⟨nu-(u+1),by omega⟩
    have hrest2:nu-(u+1)=rest:=by omega
    have HREST:=ħ hrest2
    rw[hrest] at HE
    clear hrb hrl hcan hrest hrest2
    go_wp2_with fail
    clear x4 xr
    have HW0:=ħ (Below.refl wr.heap.size wr)
    obtain⟨wz,hwz⟩:∃ y,wr=y:=⟨_,rfl⟩
    have HWZ:=ħ hwz
    rw[hwz] at HRB HW0 HX HO HB
    clear hwz
    go_loopw [29,4,0] (fun kv ov xv ws=>∃ (k:Nat),kv = .int .i64 k∧ov = .slice o n cap∧xv = .pointer (some ⟨X,0,none⟩)∧k≤nm∧Hid (∀ j,j<k→Zin c C' u j=false)∧Hid (Below wz.heap.size wz ws)) (fun k _ _ _=>(nm-intOf k).toNat)
    case atStart=>exact⟨0,rfl,rfl,rfl,by omega,ħ (fun j hj=>absurd hj (Nat.not_lt_zero j)),ħ (by rw[HWZ.o];exact Below.refl _ _)⟩
    case round =>
     obtain⟨k,rfl,rfl,rfl,hk,HJ,HBW⟩:=hrel
     have e3:IntKind.i64.wrap ((k:Int)+1)=((k+1:Nat):Int):=IntWalk.i64_in _ (by omega)
     by_cases hkn:k<nm
     ·have kk2:(k:Int)<nm:=by omega
      obtain⟨gb,ob,hbo,hbc⟩:=(HRB.o wr HBW.o).bool k (by rw[HRL.o];exact hkn)
      subst hbo
      have HPK:=HPB.o k
      obtain⟨bk,hbk⟩:∃ y,ru.getD k false=y:=⟨_,rfl⟩
      rw[hbk] at hbc HPK
      have HPK:=ħ HPK
      clear hbk
      have HXs:Hid (Zc9 wr (fun g=>blk o=some g) X c H C'):=ħ (HX.o.only (Only.of_below HBW.o) (fun g _ h=>h))
      have HOs:=ħ (HO.o.below HBW.o)
      cases bk with
      | false =>
       have HJ2:Hid (∀ j,j<k+1→Zin c C' u j=false):=ħ (fun j hj=>by
        rcases Nat.lt_or_ge j k with h | h
        ·exact HJ.o j h
        ·obtain rfl:j=k:=by omega
         rw[HPK.o];rfl)
       clear HPK HJ
       go_wp2_with fail
       clear hbc
       go_roundw
       case rel=>exact⟨k+1,by go_num,rfl,rfl,by omega,HJ2,HBW⟩
       case measure=>simp only[intOf];omega
      | true =>
       have HC1:=ħ (HFX.o X C' (fun g=>blk o=some g) u k wr HXs.o (fun g h=>(HOs.o.blk_lt h).2) HXO.o hun hkn)
       have HXO2:=ħ (HXO.o.fix u k)
       have HFK:=ħ (fun W X2 h=>HFE.o X2 (Zbn c C' u k) W h HXO2.o)
       obtain⟨fk,hfk⟩:∃ y,Zcg (Zat c (Zbn c C' u k))=y:=⟨_,rfl⟩
       rw[hfk] at HFK
       have HPK2:Hid (Zin c C' u k=fk):=ħ (by rw[HPK.o,hfk];rfl)
       clear HPK hfk
       go_wp2_with fail
       refine HC1.o.mono ?_
       clear HC1
       intro e w2 hq
       obtain⟨X2,rfl,hX2,-,hb2⟩:=hq
       have HX2:=ħ hX2
       have HB2:=ħ hb2
       have HFC:=ħ (HFK.o w2 X2 hX2.reck)
       clear hX2 hb2 HFK
       go_wp2_with fail
       refine HFC.o.mono ?_
       clear HFC
       rintro e w3 ⟨rfl,hb3⟩
       have B23:=ħ (HB2.o.trans (hb3.mono HB2.o.size))
       have HX3:Hid (Zc9 w3 (fun g=>blk o=some g) X2 c H (Zbn c C' u k)):=ħ (HX2.o.only (Only.of_below hb3) (fun g _ h=>h))
       have B3:=ħ (HBW.o.trans (B23.o.mono HBW.o.size))
       clear hb3 HB2 HX2 hbc B23
       cases fk with
       | false =>
        have HJ2:Hid (∀ j,j<k+1→Zin c C' u j=false):=ħ (fun j hj=>by
         rcases Nat.lt_or_ge j k with h | h
         ·exact HJ.o j h
         ·obtain rfl:j=k:=by omega
          rw[HPK2.o])
        clear HPK2 HJ
        go_wp2_with fail
        go_roundw
        case rel=>exact⟨k+1,by go_num,rfl,rfl,by omega,HJ2,B3⟩
        case measure=>simp only[intOf];omega
       | true =>
        have O3:=ħ (HO.o.below B3.o)
        have HB3:=ħ (HB.o.trans (B3.o.mono HB.o.size))
        have HE3:Hid (Zax c rest (u+1) (Zbn c C' u k) (out++[k])=RES):=ħ (by rw[← HST.o rest u C' out k HPK2.o hkn HJ.o];exact HE.o)
        clear HE HRB HXs HX
        go_upto_region 15 with (at_builtin;refine Zd0 33 3 (.int .i64 0) 1 8 Tryz.underlying33 Zbz rfl (by omega) (by omega) w3 w.heap.size rfl (.tmp 42) (.tmp 44) rfl o cap n (Za4 out) ?q1 O3.o HB3.o.size 1 1 #[.int .i64 (k:Int)] 3 ?q2 rfl (by omega) ?q3 ?q4 ?_;(case q1=>rfl);(case q2=>rfl);(case q3=>simp[Value.oneCell']);(case q4=>omega);intro g5 off5 c5 wa o8 gr8 b8 or8;have O8:=ħ o8;have B8:=ħ (HB3.o.trans b8);have R8:=ħ (HX3.o.only (Zbk gr8) (Q':=fun g=>blk (some ⟨g5,off5,none⟩)=some g) (fun g hg h=>or8.elim (fun h2=>h2.trans h) (fun h2=>absurd hg (by have h1:g5=g:=Option.some.inj h;omega))));clear o8 gr8 b8 or8)
        go_wp2_with fail
        go_roundw
        case rel=>exact⟨u+1,n+1,_,_,X2,Zbn c C' u k,out++[k],by go_num,rfl,rfl,by omega,by omega,ħ (by rw[List.length_append,HN.o];rfl),ħ (by rw[← Zcr];exact O8.o),B8,R8,HXO2,ħ (by rw[HREST.o];exact HE3.o)⟩
        case measure=>simp only[intOf];omega
     ·have kk2:¬ (k:Int)<nm:=by omega
      obtain rfl:nm=k:=by omega
      have HE2:Hid (Zax c rest (u+1) C' out=RES):=ħ (by rw[← HSN.o rest u C' out HJ.o];exact HE.o)
      have O3:=ħ (HO.o.below HBW.o)
      have HB3:=ħ (HB.o.trans (HBW.o.mono HB.o.size))
      have HX3:Hid (Zc9 wr (fun g=>blk o=some g) X c H C'):=ħ (HX.o.only (Only.of_below HBW.o) (fun g _ h=>h))
      go_wp2_with fail
      go_roundw
      case rel=>exact⟨u+1,n,o,cap,X,C',out,by go_num,rfl,rfl,by omega,by omega,HN,O3,HB3,HX3,HXO,ħ (by rw[HREST.o];exact HE2.o)⟩
      case measure=>simp only[intOf];omega
   ·have kk:¬ (u:Int)<nu:=by omega
    obtain rfl:nu=u:=by omega
    have HRR:Hid (RES=out):=ħ (by rw[← HE.o,Nat.sub_self];rfl)
    go_wp2_with fail
    go_ret2
    refine HQ2.o _ _ HB.o ?_
    rw[HRR.o,HN.o]
    exact⟨o,cap,rfl,HO.o⟩
end
section
open Go.RowKit Go.Sort Go.Maps
theorem Zs4 (w:World) (ao:Option Addr) (n cap:Nat) (hc:n≤cap) (ho:ao=none→n=0) :
  Calls Tryz.prog 159 #[.slice ao n cap] w fun e w'=>e = .returned (.slice ao n n)∧w'=w:=by
 have h0:(0:Int)≤(n:Int):=by omega
 have h1:(n:Int)≤(cap:Int):=by omega
 cases ao with
 | none =>
  obtain rfl:=ho rfl
  go_enter Tryz.func159,Tryz.ntmps159
  go_wp2
  go_ret
  exact⟨by simp,rfl⟩
 | some a =>
  go_enter Tryz.func159,Tryz.ntmps159
  go_wp2
  go_ret
  exact⟨by simp,rfl⟩
theorem Zs5 (w:World) (ao:Option Addr) (n cap:Nat) (hc:n≤cap) (ho:ao=none→n=0) :
  Calls Tryz.prog 160 #[.slice ao n cap] w fun e w'=>e = .returned (.slice ao n n)∧w'=w:=by
 have h0:(0:Int)≤(n:Int):=by omega
 have h1:(n:Int)≤(cap:Int):=by omega
 cases ao with
 | none =>
  obtain rfl:=ho rfl
  go_enter Tryz.func160,Tryz.ntmps160
  go_wp2
  go_ret
  exact⟨by simp,rfl⟩
 | some a =>
  go_enter Tryz.func160,Tryz.ntmps160
  go_wp2
  go_ret
  exact⟨by simp,rfl⟩
theorem Zhv {ops:Array Oper} {rest:List Oper} {o:Oper} {a:Act} {Q:Exit→Act→World→Prop} (T E:TypeId) (z:Value) (k bt:Nat)
  (hT:Tryz.prog.underlying T=some (.slice E)) (hE:(Tryz.prog.info? E).map (fun i=>(i.zero,i.size,i.bytes))=some (some z,k,bt)) (hz:z.cells.size=k) (hk:0<k) (hbt:bt≤1000)
  (w:World) (hg:o.guard=none) (s x:Operand) (hop:o.op=Op.call { callee:=Callee.builtin Builtin.append,args:=#[s,x],argTypes:=#[T,T] })
  (ao:Option Addr) (n:Nat) (xs:List Value) (hs:a.eval s = .slice ao n n) (hnone:ao=none→n=0) (hxs:xs.length=n*k) (hrd:xs=[]∨∃ g off,ao=some ⟨g,off,none⟩∧g<w.heap.size∧Zav w g off xs)
  (A m c:Nat) (cs:List Value) (te:TypeId) (hx:a.eval x = .slice (some ⟨A,0,none⟩) m c) (hA:Zaf w A te cs) (hm:cs.length=m*k) (hm0:0<m) (h1c:∀ u∈cs,u.oneCell'=true)
  (b1:n+m≤1000000000)
  (hK:∀ g cap' w',OwnK w' w.heap.size k (n+m) cap' (xs++cs) (some ⟨g,0,none⟩)→Below w.heap.size w w'→wpList Tryz.prog ops Q rest (a.put o.dst (.slice (some ⟨g,0,none⟩) (n+m) cap')) w') :
  wpList Tryz.prog ops Q (o::rest) a w:=by
 obtain⟨i0,hi,hz0,hz1,hz2⟩:=Zek hE
 refine wpList_append_grows w hg s x T hop E i0 z k bt hT hi hz0 hz1 hz2 hz hk ao n n xs hs (fun h=>⟨hnone h,hnone h⟩) hxs (fun b hb j u hj=>?_) ⟨A,0,none⟩ m c cs hx hm (fun j u hj=>hA.addr j u hj) h1c (by omega)
  (by simp only[maxLen];omega) (Nat.le_trans (Nat.mul_le_mul b1 hbt) (by decide)) ?_
 ·rcases hrd with h | ⟨g,off,h1,h2,h3⟩
  ·rw[h] at hj;simp at hj
  ·rw[h1] at hb
   obtain rfl:=Option.some.inj hb
   rw[Addr.add_lit]
   exact h3 j u hj
 ·intro v' w' ho hgr
  obtain⟨g',cap',rfl,hw,hl',hcm,hle⟩:=OwnK.of_row ho (by omega)
  exact hK g' cap' w' (.at g' 0 hw hl' hcm hle) ⟨hgr.os,hgr.tape,hgr.output,hgr.size,fun i hi=>hgr.block i hi (by simp)⟩
theorem Zmq {w:World} {rows:List (List Bool)} {co:Option Addr} (h:Zf5 w rows co):∃ vals:List Value,vals.length=rows.length∧(∀ (i:Nat) (row:List Bool),rows[i]?=some row→∃ (bo:Option Addr) (bc:Nat),vals[i]?=some (Value.slice bo row.length bc)∧Zak Zc0 w bo row)∧(co=none→rows.length=0)∧(rows.length=0∨∃ g off,co=some ⟨g,off,none⟩∧g<w.heap.size∧Zav w g off vals):=by
 rcases h with h | ⟨g,off,rfl,hg,hr⟩
 ·subst h
  exact⟨[],rfl,fun i row hi=>by simp at hi,fun _=>rfl,.inl rfl⟩
 have hex:∀ i,i<rows.length→∃ v:Value,w.cell? ⟨g,off+i,none⟩=some v∧∀ row,rows[i]?=some row→∃ (bo:Option Addr) (bc:Nat),v = .slice bo row.length bc∧Zak Zc0 w bo row:=fun i hi=>by
  obtain⟨bo,bc,h1,h2⟩:=hr i rows[i] (List.getElem?_eq_getElem hi)
  refine⟨.slice bo rows[i].length bc,h1,fun row hrow=>?_⟩
  rw[List.getElem?_eq_getElem hi] at hrow
  obtain rfl:=Option.some.inj hrow
  exact⟨bo,bc,rfl,h2⟩
 let vals:List Value:=(List.range rows.length).map (fun i=>if h:i<rows.length then (hex i h).choose else undef)
 have hvl:vals.length=rows.length:=by show ((List.range rows.length).map _).length=_;rw[List.length_map,List.length_range]
 have hv:∀ i (h:i<rows.length),vals[i]?=some (hex i h).choose:=fun i h=>by
  show ((List.range rows.length).map _)[i]?=_
  rw[List.getElem?_map,List.getElem?_range h]
  show some (if h:i<rows.length then _ else _)=_
  rw[dif_pos h]
 refine⟨vals,hvl,fun i row hrow=>?_,fun h=>(by cases h),.inr ⟨g,off,rfl,hg,fun j u hj=>?_⟩⟩
 ·have hlt:=(List.getElem?_eq_some_iff.1 hrow).1
  obtain⟨bo,bc,h1,h2⟩:=(hex i hlt).choose_spec.2 row hrow
  exact⟨bo,bc,by rw[hv i hlt,h1],h2⟩
 ·have hlt:j<rows.length:=by rw[← hvl];exact (List.getElem?_eq_some_iff.1 hj).1
  rw[hv j hlt] at hj
  obtain rfl:=Option.some.inj hj
  exact (hex j hlt).choose_spec.1
end
section
open Go.RowKit Go.Sort Go.Maps
def Zby (c:Crw) (x:Use):Crw:=⟨c.qs,c.ms,c.us++[x]⟩
def Zv4 (WS:Nat) (W:World) (bo:Option Addr) (RX:List Bool):Prop:=∃ V,bo=some ⟨V,0,none⟩∧WS≤V∧Zaf W V 4 (bvs RX)
theorem Zv4.below {WS:Nat} {w w':World} {bo:Option Addr} {RX:List Bool} (h:Zv4 WS w bo RX) (hb:Below w.heap.size w w'):Zv4 WS w' bo RX:=by
 obtain⟨V,h1,h2,h3⟩:=h
 exact⟨V,h1,h2,h3.step hb⟩
theorem Zv4.flat {WS X:Nat} {w w':World} {bo:Option Addr} {RX:List Bool} (h:Zv4 WS w bo RX) (on:Only w w' (· = X)) (hx:X<WS):Zak Zc0 w' bo RX:=by
 obtain⟨V,rfl,h2,h3⟩:=h
 exact (h3.only on (by omega)).flatB
theorem Zzn (t:Array Value) (h:t.size=43):∃ f:Nat→Value,t=#[f 0,f 1,f 2,f 3,f 4,f 5,f 6,f 7,f 8,f 9,f 10,f 11,f 12,f 13,f 14,f 15,f 16,f 17,f 18,f 19,f 20,f 21,f 22,f 23,f 24,f 25,f 26,f 27,f 28,f 29,f 30,f 31,f 32,f 33,f 34,f 35,f 36,f 37,f 38,f 39,f 40,f 41,f 42]:=by
 obtain⟨l⟩:=t
 have hl:l.length=43:=h
 have e:l=(List.range 43).map (fun i=>l.getD i undef):=by
  apply List.ext_getElem
  ·simp[hl]
  ·intro i h1 h2
   simp[List.getD,h1]
 exact⟨fun i=>l.getD i undef,congrArg List.toArray e⟩
def Zy3 (A X sb WS:Nat) (uo:Option Addr) (nu uc:Nat) (us:List Value) (u0 u1 u2 u3:Int) (i:Nat) (W:World) (v:Value):Prop:=match i with
 | 0=>v = .pointer (some ⟨X,0,none⟩)
 | 1=>v = .pointer (some ⟨A,0,none⟩)
 | 2=>v = .pointer (some ⟨A,0,none⟩)
 | 3=>v = .pointer (some ⟨A,0,none⟩)
 | 4=>v = .pointer (some ⟨A,2,none⟩)
 | 5=>v = .slice uo nu uc
 | 6=>v = .slice uo nu nu
 | 7=>v = .agg #[.int .i64 u0,.int .i64 u1,.int .i64 u2,.int .i64 u3]
 | 8=>∃ V,v = .slice (some ⟨V,0,none⟩) 1 1∧Zaf W V 39 [.int .i64 u0,.int .i64 u1,.int .i64 u2,.int .i64 u3]
 | 9=>∃ g cap,v = .slice (some ⟨g,0,none⟩) (nu+1) cap∧OwnK W WS 4 (nu+1) cap (us++[.int .i64 u0,.int .i64 u1,.int .i64 u2,.int .i64 u3]) (some ⟨g,0,none⟩)
 | _=>True
theorem Zs6 (A X sb WS:Nat) (uo:Option Addr) (nu uc:Nat) (us:List Value) (u0 u1 u2 u3:Int):∀ i w w' v,Zy3 A X sb WS uo nu uc us u0 u1 u2 u3 i w v→Below w.heap.size w w'→Zy3 A X sb WS uo nu uc us u0 u1 u2 u3 i w' v:=by
 intro i w w' v h hb
 match i with
 | 0=>exact h
 | 1=>exact h
 | 2=>exact h
 | 3=>exact h
 | 4=>exact h
 | 5=>exact h
 | 6=>exact h
 | 7=>exact h
 | 8=>obtain⟨V,h1,h2⟩:=h;exact⟨V,h1,h2.step hb⟩
 | 9=>obtain⟨g,cap,h1,h2⟩:=h;exact⟨g,cap,h1,h2.below hb⟩
 | k+10=>trivial
def Zyk (A X sb WS:Nat) (co:Option Addr) (nc cc nm:Nat) (RX:List Bool) (vals:List Value) (u0 u1 u2 u3:Int) (i:Nat) (W:World) (v:Value):Prop:=match i with
 | 0=>v = .pointer (some ⟨X,0,none⟩)
 | 1=>v = .pointer (some ⟨A,0,none⟩)
 | 2=>v = .pointer (some ⟨A,0,none⟩)
 | 3=>v = .pointer (some ⟨A,4,none⟩)
 | 4=>v = .slice co nc cc
 | 5=>v = .slice co nc nc
 | 6=>v = .pointer (some ⟨A,0,none⟩)
 | 7=>v = .agg #[.int .i64 u0,.int .i64 u1,.int .i64 u2,.int .i64 u3]
 | 8=>∃ bo,v = .slice bo nm nm∧Zv4 WS W bo RX
 | 9=>∃ V bo,v = .slice (some ⟨V,0,none⟩) 1 1∧Zaf W V 87 [.slice bo nm nm]∧Zv4 WS W bo RX
 | 10=>∃ g cap bo,v = .slice (some ⟨g,0,none⟩) (nc+1) cap∧OwnK W WS 1 (nc+1) cap (vals++[.slice bo nm nm]) (some ⟨g,0,none⟩)∧Zv4 WS W bo RX
 | _=>True
theorem Zs7 (A X sb WS:Nat) (co:Option Addr) (nc cc nm:Nat) (RX:List Bool) (vals:List Value) (u0 u1 u2 u3:Int):∀ i w w' v,Zyk A X sb WS co nc cc nm RX vals u0 u1 u2 u3 i w v→Below w.heap.size w w'→Zyk A X sb WS co nc cc nm RX vals u0 u1 u2 u3 i w' v:=by
 intro i w w' v h hb
 match i with
 | 0=>exact h
 | 1=>exact h
 | 2=>exact h
 | 3=>exact h
 | 4=>exact h
 | 5=>exact h
 | 6=>exact h
 | 7=>exact h
 | 8=>obtain⟨bo,h1,h2⟩:=h;exact⟨bo,h1,h2.below hb⟩
 | 9=>obtain⟨V,bo,h1,h2,h3⟩:=h;exact⟨V,bo,h1,h2.step hb,h3.below hb⟩
 | 10=>obtain⟨g,cap,bo,h1,h2,h3⟩:=h;exact⟨g,cap,bo,h1,h2.below hb,h3.below hb⟩
 | k+11=>trivial
theorem Zei:(Tryz.prog.info? 39).map (fun i=>(i.zero,i.size,i.bytes))=some (some (.agg #[.int .i64 0,.int .i64 0,.int .i64 0,.int .i64 0]),4,32):=by kernel_rfl
theorem Zo3 (w:World) (A:Nat) (c:Crw) (H C:List (List Bool)) (x:Use) (hr:Za9 w A c H C) (hq0:0≤x.q) (hq1:x.q.toNat<H.length) (hH:∀ r∈H,r.length=c.ms.length) (hm:c.ms.length≤1000000) (hu:c.us.length≤1000000) (hC:C.length≤1000000) :
  Calls Tryz.prog 109 #[.pointer (some ⟨A,0,none⟩),.agg (Zbv x).toArray] w fun e w'=>∃ X,e = .returned (.pointer (some ⟨X,0,none⟩))∧Za9 w' X (Zby c x) H (C++[Zdm c H x])∧w.heap.size≤X∧Below w.heap.size w w':=by
 have HRO:=ħ (fun W (hW:Below w.heap.size w W)=>Zsr W A c H C x (hr.below hW) hq0 hq1 hH hm)
 have HRL:Hid ((Zdm c H x).length=c.ms.length):=ħ (Zfe c H x)
 obtain⟨qo,mo,uo,ho,co,qc,mc,uc,hc,cc,hA,hR,hcu,hcc⟩:=hr
 obtain⟨vals,hvl,hvs,hvn,hvr⟩:=Zmq hR.c
 have HFIN:Hid (∀ w' X uo' uc' co' cc' bo,Below w.heap.size w w'→Zaf w' X 113 (Zdw (Zby c x) H (C++[Zdm c H x]) qo mo uo' ho co' qc mc uc' hc cc')→OwnK w' w.heap.size 4 (c.us.length+1) uc' (c.us.flatMap Zbv++Zbv x) uo'→OwnK w' w.heap.size 1 (C.length+1) cc' (vals++[.slice bo c.ms.length c.ms.length]) co'→Zak Zc0 w' bo (Zdm c H x)→Za9 w' X (Zby c x) H (C++[Zdm c H x])):=ħ (fun w' X uo' uc' co' cc' bo hb hX hU hK hf=>by
  have h8:=hR.below hb
  refine⟨qo,mo,uo',ho,co',qc,mc,uc',hc,cc',hX,⟨h8.q,h8.m,?_,h8.h,?_⟩,?_,?_⟩
  ·have e:c.us.flatMap Zbv++Zbv x=(Zby c x).us.flatMap Zbv:=by unfold Zby;simp
   rw[e] at hU
   exact hU.flatR Zap (by unfold Zby;simp)
  ·cases hK with
   | «at» g off h1 h2 h3 h4 =>
    refine .inr ⟨g,off,rfl,h1.lt,fun i row hi=>?_⟩
    rcases Nat.lt_or_ge i C.length with h | h
    ·rw[List.getElem?_append_left h] at hi
     obtain⟨bo',bc',h5,h6⟩:=hvs i row hi
     exact⟨bo',bc',h1.cells i _ (by rw[List.getElem?_append_left (by rw[hvl];exact h)];exact h5),h6.below hb⟩
    ·rw[List.getElem?_append_right h] at hi
     have hi0:i-C.length=0:=by
      have:=(List.getElem?_eq_some_iff.1 hi).1
      simp at this;omega
     rw[hi0] at hi
     obtain rfl:Zdm c H x=row:=by simpa using hi
     refine⟨bo,c.ms.length,h1.cells i _ ?_,hf⟩
     rw[List.getElem?_append_right (by rw[hvl];exact h),hvl,hi0,HRL.o];rfl
   | nil h1 h2 h3=>simp at h1
  ·unfold Zby
   rw[List.length_append]
   cases hU with
   | nil _ h _=>omega
   | «at» g off h1 h2 h3 h4=>exact h4
  ·rw[List.length_append]
   cases hK with
   | nil _ h _=>omega
   | «at» g off h1 h2 h3 h4=>exact h4)
 have AW:=ħ (fun W (hW:Below w.heap.size w W)=>hA.step hW)
 unfold Zdw at AW
 have HUN:Hid (uo=none→c.us.length=0):=ħ (fun e=>by
  rcases hR.u with h | ⟨g,off,h,-⟩
  ·rw[h];rfl
  ·rw[e] at h;cases h)
 have HUR:Hid (c.us.flatMap Zbv=[]∨∃ g off,uo=some ⟨g,off,none⟩∧g<w.heap.size∧Zav w g off (c.us.flatMap Zbv)):=ħ (by
  rcases hR.u with h | h
  ·rw[h];exact .inl rfl
  ·exact .inr h)
 have HUL:Hid ((c.us.flatMap Zbv).length=c.us.length*4):=ħ (Zbr Zbv 4 Zap c.us)
 have HVR:Hid (vals=[]∨∃ g off,co=some ⟨g,off,none⟩∧g<w.heap.size∧Zav w g off vals):=ħ (by
  rcases hvr with h | h
  ·exact .inl (List.length_eq_zero_iff.1 (by rw[hvl];exact h))
  ·exact .inr h)
 have HVN:=ħ hvn
 have HVL:Hid (vals.length=C.length*1):=ħ (by rw[hvl,Nat.mul_one])
 have HCU:=ħ hcu
 have HCC:=ħ hcc
 clear hA hR hvl hvs hvn hvr hcu hcc hq0 hq1 hH
 have HWU:Hid ((Zby c x).us.length=c.us.length+1):=ħ (by unfold Zby;simp)
 have HWC:Hid ((C++[Zdm c H x]).length=C.length+1):=ħ (by simp)
 generalize hRX:Zdm c H x=RX at *
 clear hRX
 have HRV:Hid (∀ uo' uc' co' cc',Zdw (Zby c x) H (C++[RX]) qo mo uo' ho co' qc mc uc' hc cc'=[.slice qo c.qs.length qc,.slice mo c.ms.length mc,.slice uo' (c.us.length+1) uc',.slice ho H.length hc,.slice co' (C.length+1) cc']):=ħ (fun uo' uc' co' cc'=>by unfold Zdw;rw[HWU.o,HWC.o];rfl)
 have HUX:Hid (Zbv x=[.int .i64 x.q,.int .i64 x.w,.int .i64 x.f,.int .i64 x.h]):=ħ rfl
 generalize hUX:Zbv x=ux at *
 have HUX2:=ħ hUX
 clear hUX HWU HWC
 generalize c.us.flatMap Zbv=us at *
 generalize c.qs.length=nq at *
 generalize c.ms.length=nm at *
 generalize c.us.length=nu at *
 generalize H.length=nh at *
 generalize C.length=nc at *
 obtain rfl:=HUX.o
 generalize x.q=u0 at *
 generalize x.w=u1 at *
 generalize x.f=u2 at *
 generalize x.h=u3 at *
 clear HUX
 go_enter Tryz.func109,Tryz.ntmps109
 go_upto_region 1 with (fail)
 obtain⟨sb,hsb⟩:∃ y,w.heap.size=y:=⟨_,rfl⟩
 have HSB:=ħ hsb
 have X1:Hid (Zaf (w.alloc (.cells #[.int .i64 u0,.int .i64 u1,.int .i64 u2,.int .i64 u3] 39)) sb 39 [.int .i64 u0,.int .i64 u1,.int .i64 u2,.int .i64 u3]):=ħ (Zaf.newAt _ _ _ _ hsb.symm)
 have B1:=ħ ((Below.refl w.heap.size w).alloc (Nat.le_refl _) (.cells #[.int .i64 u0,.int .i64 u1,.int .i64 u2,.int .i64 u3] 39))
 rw[hsb]
 clear hsb
 generalize w.alloc (.cells #[.int .i64 u0,.int .i64 u1,.int .i64 u2,.int .i64 u3] 39)=w1 at *
 refine Zay [0,1,2,3,4,5,6,7,8] [9,10] (fun w'=>Zaf w' A 113 [.slice qo nq qc,.slice mo nm mc,.slice uo nu uc,.slice ho nh hc,.slice co nc cc]) (by kernel_rfl) (by kernel_rfl) (by kernel_rfl) (fun _ _ d _ _ h=>by cases d<;>exact h) ((AW.o w1 B1.o).step (Below.refl _ _).drew) ?_
 simp only[Zbl,List.filterMap_cons,List.filterMap_nil,List.getElem?_cons_zero,List.getElem?_cons_succ,Option.map_some,List.map_cons,List.map_nil]
 apply Exists.intro
 refine⟨?hh,?ht⟩
 case hh =>
  intro w' hw'
  have c0:=hw'.cell 0 _ rfl
  have c1:=hw'.cell 1 _ rfl
  have c2:=hw'.cell 2 _ rfl
  have c3:=hw'.cell 3 _ rfl
  clear hw'
  repeat still_step
  exact wpStill_nil rfl
 case ht =>
  have BD:=(Below.refl w1.heap.size w1).drew
  have X2:=ħ (X1.o.step BD)
  have B2:=ħ (B1.o.trans (BD.mono B1.o.size))
  clear BD X1 B1
  generalize w1.drew=w2 at *
  have A2:=AW.o w2 B2.o
  have bx:=(Below.refl w2.heap.size w2).alloc (Nat.le_refl _) (.cells #[.slice qo nq qc,.slice mo nm mc,.slice uo nu uc,.slice ho nh hc,.slice none 0 0] 113)
  refine Zah ?_
  go_wp2_with fail
  refine Zaa ⟨A2.step bx,?_⟩
  obtain⟨X,hX⟩:∃ y,w2.heap.size=y:=⟨_,rfl⟩
  have XV:Hid (Zaf (w2.alloc (.cells #[.slice qo nq qc,.slice mo nm mc,.slice uo nu uc,.slice ho nh hc,.slice none 0 0] 113)) X 113 [.slice qo nq qc,.slice mo nm mc,.slice uo nu uc,.slice ho nh hc,.slice none 0 0]):=ħ (Zaf.newAt _ _ _ _ hX.symm)
  have X3:=ħ (X2.o.step bx)
  have B3:=ħ (B2.o.trans (bx.mono B2.o.size))
  have HXX:Hid (w.heap.size≤X∧sb<X):=ħ ⟨by rw[← hX];exact B2.o.size,by rw[← hX];exact X2.o.lt⟩
  rw[hX]
  clear bx A2 hX X2 B2
  generalize w2.alloc (.cells #[.slice qo nq qc,.slice mo nm mc,.slice uo nu uc,.slice ho nh hc,.slice none 0 0] 113)=w3 at *
  refine Zbg ?_
  go_upto_region 2 with (fail)
  have HCLU:=ħ (fun W=>Zs4 W uo nu uc HCU.o HUN.o)
  have HCLB:=ħ (fun W=>Zs5 W co nc cc HCC.o HVN.o)
  have HB:=B3
  have XS:=X3
  refine Zb1 10 3 (Zy3 A X sb w3.heap.size uo nu uc us u0 u1 u2 u3) (by kernel_rfl) rfl (Zs6 A X sb w3.heap.size uo nu uc us u0 u1 u2 u3) (Zca (by kernel_rfl)) (Zhe (by kernel_rfl)) (Zbc (by kernel_rfl)) (Zeg (by kernel_rfl)) ?hs ?he
  case hs =>
   intro i o hin hi listed a' w' H hsn hl2
   have hl3:=Zas hl2
   have hb:=ħ H.below
   have s5:=hsn 5 (Za2 (by kernel_rfl))
   have s0:=hsn 0 (Za2 (by kernel_rfl))
   have s3:=hsn 3 (Za2 (by kernel_rfl))
   have hdn:=H.done
   have hdf:=H.defers
   have hts:=H.tsize
   clear hl2 H hsn
   obtain⟨t',df⟩:=a'
   obtain⟨f',rfl⟩:=Zzn t' hts
   have hdf':df=[]:=hdf
   subst hdf'
   have gs5:f' 5 = .pointer (some ⟨X,0,none⟩):=s5
   have gs0:f' 0 = .pointer (some ⟨A,0,none⟩):=s0
   have gs3:f' 3 = .pointer (some ⟨sb,0,none⟩):=s3
   clear s5 s0 s3
   clear hdf hts
   have hcases:i=0∨i=1∨i=2∨i=3∨i=4∨i=5∨i=6∨i=7∨i=8∨i=9:=Zp2 i hin
   clear hin
   rcases hcases with rfl | rfl | rfl | rfl | rfl | rfl | rfl | rfl | rfl | rfl
   ·obtain rfl:=Option.some.inj hi
    clear hdn hl3
    rw[gs5]
    clear gs5 gs0 gs3
    refine Zab rfl ?_
    go_wp2_with fail
    exact Zaa ⟨_,rfl,Below.refl _ _,rfl⟩
   ·obtain rfl:=Option.some.inj hi
    clear hdn hl3
    rw[gs0]
    clear gs5 gs0 gs3
    refine Zab rfl ?_
    go_wp2_with fail
    exact Zaa ⟨_,rfl,Below.refl _ _,rfl⟩
   ·obtain rfl:=Option.some.inj hi
    have dv1:f' 17 = .pointer (some ⟨A,0,none⟩):=hdn 1 _ 17 rfl (hl3 1 (by rfl)) rfl
    clear hdn hl3
    rw[dv1]
    clear dv1 gs5 gs0 gs3
    refine Zab rfl ?_
    go_wp2_with fail
    exact Zaa ⟨_,rfl,Below.refl _ _,rfl⟩
   ·obtain rfl:=Option.some.inj hi
    have dv2:f' 18 = .pointer (some ⟨A,0,none⟩):=hdn 2 _ 18 rfl (hl3 2 (by rfl)) rfl
    clear hdn hl3
    rw[dv2]
    clear dv2 gs5 gs0 gs3
    refine Zab rfl ?_
    go_wp2_with fail
    exact Zaa ⟨_,rfl,Below.refl _ _,rfl⟩
   ·obtain rfl:=Option.some.inj hi
    have dv3:f' 19 = .pointer (some ⟨A,0,none⟩):=hdn 3 _ 19 rfl (hl3 3 (by rfl)) rfl
    clear hdn hl3
    rw[dv3]
    clear dv3 gs5 gs0 gs3
    refine Zab rfl ?_
    go_wp2_with fail
    exact Zaa ⟨_,rfl,Below.refl _ _,rfl⟩
   ·obtain rfl:=Option.some.inj hi
    have dv4:f' 20 = .pointer (some ⟨A,2,none⟩):=hdn 4 _ 20 rfl (hl3 4 (by rfl)) rfl
    clear hdn hl3
    rw[dv4]
    clear dv4 gs5 gs0 gs3
    have ha:=AW.o w' (HB.o.trans (hb.o.mono HB.o.size))
    have c2:=ha.cell 2 _ rfl
    clear ha
    refine Zab rfl ?_
    go_wp2_with fail
    exact Zaa ⟨_,rfl,Below.refl _ _,rfl⟩
   ·obtain rfl:=Option.some.inj hi
    have dv5:f' 21 = .slice uo nu uc:=hdn 5 _ 21 rfl (hl3 5 (by rfl)) rfl
    clear hdn hl3
    rw[dv5]
    clear dv5 gs5 gs0 gs3
    refine Zab rfl ?_
    go_wp2_with fail
    refine (HCLU.o w').mono ?_
    rintro e w4 ⟨rfl,rfl⟩
    go_wp2_with fail
    exact Zaa ⟨_,rfl,Below.refl _ _,rfl⟩
   ·obtain rfl:=Option.some.inj hi
    clear hdn hl3
    rw[gs3]
    clear gs5 gs0 gs3
    have hx:=XS.o.step hb.o
    have p0:=hx.cell 0 _ rfl
    have p1:=hx.cell 1 _ rfl
    have p2:=hx.cell 2 _ rfl
    have p3:=hx.cell 3 _ rfl
    clear hx
    refine Zab rfl ?_
    go_wp2_with fail
    exact Zaa ⟨_,rfl,Below.refl _ _,rfl⟩
   ·obtain rfl:=Option.some.inj hi
    have dv7:f' 23 = .agg #[.int .i64 u0,.int .i64 u1,.int .i64 u2,.int .i64 u3]:=hdn 7 _ 23 rfl (hl3 7 (by rfl)) rfl
    clear hdn hl3
    rw[dv7]
    clear dv7 gs5 gs0 gs3
    have bx:=(Below.refl w'.heap.size w').alloc (Nat.le_refl _) (.cells #[.int .i64 u0,.int .i64 u1,.int .i64 u2,.int .i64 u3] 39)
    have HV:Hid (Zaf (w'.alloc (.cells #[.int .i64 u0,.int .i64 u1,.int .i64 u2,.int .i64 u3] 39)) w'.heap.size 39 [.int .i64 u0,.int .i64 u1,.int .i64 u2,.int .i64 u3]):=ħ (heap_alloc_new _ _)
    have BX:=ħ bx
    clear bx
    refine Zab rfl ?_
    go_wp2_with fail
    exact Zaa ⟨_,rfl,BX.o,w'.heap.size,rfl,HV.o⟩
   ·obtain rfl:=Option.some.inj hi
    have dv6:f' 22 = .slice uo nu nu:=hdn 6 _ 22 rfl (hl3 6 (by rfl)) rfl
    have dv8:Zy3 A X sb w3.heap.size uo nu uc us u0 u1 u2 u3 8 w' (f' 24):=hdn 8 _ 24 rfl (hl3 8 (by rfl)) rfl
    obtain⟨V,dv8,hV⟩:=dv8
    clear hdn hl3
    rw[dv6,dv8]
    clear dv6 dv8 gs5 gs0 gs3
    have HV:=ħ hV
    clear hV
    have HBW:=ħ (HB.o.trans (hb.o.mono HB.o.size))
    have HUR4:Hid (us=[]∨∃ g off,uo=some ⟨g,off,none⟩∧g<w'.heap.size∧Zav w' g off us):=ħ (by
     rcases HUR.o with h | ⟨g,off,h1,h2,h3⟩
     ·exact .inl h
     ·exact .inr ⟨g,off,h1,Nat.lt_of_lt_of_le h2 HBW.o.size,h3.of_block (HBW.o.block g h2)⟩)
    refine Zab rfl ?_
    refine Zhv 24 39 (.agg #[.int .i64 0,.int .i64 0,.int .i64 0,.int .i64 0]) 4 32 Tryz.underlying24 Zei rfl (by omega) (by omega) w' rfl (.tmp 22) (.tmp 24) rfl uo nu us ?q1 HUN.o HUL.o HUR4.o V 1 1 [.int .i64 u0,.int .i64 u1,.int .i64 u2,.int .i64 u3] 39 ?q2 HV.o rfl (by omega) ?q3 ?q4 ?_
    case q1=>rfl
    case q2=>rfl
    case q3=>simp[Value.oneCell']
    case q4=>omega
    intro g5 c5 wa o8 b8
    have O5:=ħ (o8.low hb.o.size)
    have B5:=ħ b8
    clear o8 b8
    go_wp2_with fail
    exact Zaa ⟨_,rfl,B5.o,g5,c5,rfl,O5.o⟩
  case he =>
   intro listed a' w4 H hsn hall
   have hd0:Zy3 A X sb w3.heap.size uo nu uc us u0 u1 u2 u3 0 w4 (a'.tmps.getD 16 undef):=H.done 0 _ 16 rfl (hall 0 (by decide)) rfl
   have hd9:Zy3 A X sb w3.heap.size uo nu uc us u0 u1 u2 u3 9 w4 (a'.tmps.getD 25 undef):=H.done 9 _ 25 rfl (hall 9 (by decide)) rfl
   have hb4:=ħ H.below
   have hact:=H.actN hsn [16,17,18,19,20,21,22,23,24,25] (Zhf (by kernel_rfl))
   clear H hall hsn
   simp only[List.foldl_cons,List.foldl_nil] at hact
   generalize a'.tmps.getD 16 undef=z16 at *
   generalize a'.tmps.getD 17 undef=z17 at *
   generalize a'.tmps.getD 18 undef=z18 at *
   generalize a'.tmps.getD 19 undef=z19 at *
   generalize a'.tmps.getD 20 undef=z20 at *
   generalize a'.tmps.getD 21 undef=z21 at *
   generalize a'.tmps.getD 22 undef=z22 at *
   generalize a'.tmps.getD 23 undef=z23 at *
   generalize a'.tmps.getD 24 undef=z24 at *
   generalize a'.tmps.getD 25 undef=z25 at *
   subst hact
   have e0:z16 = .pointer (some ⟨X,0,none⟩):=hd0
   subst e0
   clear hd0
   obtain⟨g5,c5,e9,hO5⟩:=hd9
   subst e9
   simp only[Act.put,List.setIfInBounds_toArray,List.set_cons_succ,List.set_cons_zero]
   have B4:=ħ (B3.o.trans (hb4.o.mono B3.o.size))
   have X4:=ħ (X3.o.step hb4.o)
   have XV4:=ħ (XV.o.step hb4.o)
   have O5:=ħ hO5
   have hx3:X<w3.heap.size:=XV.o.lt
   have HWS3:=ħ B3.o.size
   clear hO5 hb4 X3 XV B3 HB XS HCLU
   have HG5:Hid (g5≠X):=ħ (by have:=(O5.o.blk_lt (g:=g5) rfl).1;omega)
   have O5:=ħ (O5.o.low (B':=w.heap.size) HWS3.o)
   have x2:=XV4.o.cell 2 _ rfl
   have xf:=XV4.o.warm 2
   refine Zba (Zab rfl ?_)
   go_wp2_with fail
   refine Zaa (Zba (Zab rfl ?_))
   go_wp2_with fail
   refine Zaa (Zba (Zab rfl ?_))
   go_wp2_with fail
   refine Zaa (Zba (Zab rfl ?_))
   go_wp2_with fail
   refine Zaa (Zc1 ?_)
   clear x2 xf
   have on:=(Only.refl w4 (· = X)).setCell (a:=⟨X,2,none⟩) (.slice (some ⟨g5,0,none⟩) (nu+1) c5) rfl
   have XV5:=ħ (XV4.o.set 2 (.slice (some ⟨g5,0,none⟩) (nu+1) c5))
   have X5:=ħ (X4.o.only on (fun e=>by have:=HXX.o.2;omega))
   have B5:=ħ (Only.later B4.o on (fun g hg=>by have:=HXX.o.1;omega))
   have O6:=ħ (O5.o.of_block (fun g e hl=>on.block g hl (fun e2=>by have h:g5=g:=Option.some.inj e;exact HG5.o (h.trans e2))) on.size)
   clear on O5 X4 XV4 B4
   generalize w4.setCell ⟨X,2,none⟩ (.slice (some ⟨g5,0,none⟩) (nu+1) c5)=w5 at *
   go_upto_region 3 with (fail)
   have HB:=B5
   have XS:=X5
   refine Zb1 11 2 (Zyk A X sb w5.heap.size co nc cc nm RX vals u0 u1 u2 u3) (by kernel_rfl) rfl (Zs7 A X sb w5.heap.size co nc cc nm RX vals u0 u1 u2 u3) (Zca (by kernel_rfl)) (Zhe (by kernel_rfl)) (Zbc (by kernel_rfl)) (Zeg (by kernel_rfl)) ?hs ?he
   case hs =>
    intro i o hin hi listed a' w' H hsn hl2
    have hl3:=Zas hl2
    have hb:=ħ H.below
    have s5:=hsn 5 (Za2 (by kernel_rfl))
    have s0:=hsn 0 (Za2 (by kernel_rfl))
    have s3:=hsn 3 (Za2 (by kernel_rfl))
    have hdn:=H.done
    have hdf:=H.defers
    have hts:=H.tsize
    clear hl2 H hsn
    obtain⟨t',df⟩:=a'
    obtain⟨f',rfl⟩:=Zzn t' hts
    have hdf':df=[]:=hdf
    subst hdf'
    have gs5:f' 5 = .pointer (some ⟨X,0,none⟩):=s5
    have gs0:f' 0 = .pointer (some ⟨A,0,none⟩):=s0
    have gs3:f' 3 = .pointer (some ⟨sb,0,none⟩):=s3
    clear s5 s0 s3
    clear hdf hts
    have hcases:i=0∨i=1∨i=2∨i=3∨i=4∨i=5∨i=6∨i=7∨i=8∨i=9∨i=10:=Zjn i hin
    clear hin
    rcases hcases with rfl | rfl | rfl | rfl | rfl | rfl | rfl | rfl | rfl | rfl | rfl
    ·obtain rfl:=Option.some.inj hi
     clear hdn hl3
     rw[gs5]
     clear gs5 gs0 gs3
     refine Zab rfl ?_
     go_wp2_with fail
     exact Zaa ⟨_,rfl,Below.refl _ _,rfl⟩
    ·obtain rfl:=Option.some.inj hi
     clear hdn hl3
     rw[gs0]
     clear gs5 gs0 gs3
     refine Zab rfl ?_
     go_wp2_with fail
     exact Zaa ⟨_,rfl,Below.refl _ _,rfl⟩
    ·obtain rfl:=Option.some.inj hi
     have dv1:f' 30 = .pointer (some ⟨A,0,none⟩):=hdn 1 _ 30 rfl (hl3 1 (by rfl)) rfl
     clear hdn hl3
     rw[dv1]
     clear dv1 gs5 gs0 gs3
     refine Zab rfl ?_
     go_wp2_with fail
     exact Zaa ⟨_,rfl,Below.refl _ _,rfl⟩
    ·obtain rfl:=Option.some.inj hi
     have dv2:f' 31 = .pointer (some ⟨A,0,none⟩):=hdn 2 _ 31 rfl (hl3 2 (by rfl)) rfl
     clear hdn hl3
     rw[dv2]
     clear dv2 gs5 gs0 gs3
     refine Zab rfl ?_
     go_wp2_with fail
     exact Zaa ⟨_,rfl,Below.refl _ _,rfl⟩
    ·obtain rfl:=Option.some.inj hi
     have dv3:f' 32 = .pointer (some ⟨A,4,none⟩):=hdn 3 _ 32 rfl (hl3 3 (by rfl)) rfl
     clear hdn hl3
     rw[dv3]
     clear dv3 gs5 gs0 gs3
     have ha:=AW.o w' (HB.o.trans (hb.o.mono HB.o.size))
     have c4:=ha.cell 4 _ rfl
     clear ha
     refine Zab rfl ?_
     go_wp2_with fail
     exact Zaa ⟨_,rfl,Below.refl _ _,rfl⟩
    ·obtain rfl:=Option.some.inj hi
     have dv4:f' 33 = .slice co nc cc:=hdn 4 _ 33 rfl (hl3 4 (by rfl)) rfl
     clear hdn hl3
     rw[dv4]
     clear dv4 gs5 gs0 gs3
     refine Zab rfl ?_
     go_wp2_with fail
     refine (HCLB.o w').mono ?_
     rintro e w4 ⟨rfl,rfl⟩
     go_wp2_with fail
     exact Zaa ⟨_,rfl,Below.refl _ _,rfl⟩
    ·obtain rfl:=Option.some.inj hi
     clear hdn hl3
     rw[gs0]
     clear gs5 gs0 gs3
     refine Zab rfl ?_
     go_wp2_with fail
     exact Zaa ⟨_,rfl,Below.refl _ _,rfl⟩
    ·obtain rfl:=Option.some.inj hi
     clear hdn hl3
     rw[gs3]
     clear gs5 gs0 gs3
     have hx:=XS.o.step hb.o
     have p0:=hx.cell 0 _ rfl
     have p1:=hx.cell 1 _ rfl
     have p2:=hx.cell 2 _ rfl
     have p3:=hx.cell 3 _ rfl
     clear hx
     refine Zab rfl ?_
     go_wp2_with fail
     exact Zaa ⟨_,rfl,Below.refl _ _,rfl⟩
    ·obtain rfl:=Option.some.inj hi
     have dv6:f' 35 = .pointer (some ⟨A,0,none⟩):=hdn 6 _ 35 rfl (hl3 6 (by rfl)) rfl
     have dv7:f' 36 = .agg #[.int .i64 u0,.int .i64 u1,.int .i64 u2,.int .i64 u3]:=hdn 7 _ 36 rfl (hl3 7 (by rfl)) rfl
     clear hdn hl3
     rw[dv6,dv7]
     clear dv6 dv7 gs5 gs0 gs3
     refine Zab rfl ?_
     go_wp2_with fail
     refine (HRO.o w' (HB.o.trans (hb.o.mono HB.o.size))).mono ?_
     rintro e w4 ⟨bo,rfl,-,⟨V,hb0,hbV,hbW⟩,b4⟩
     have HBO:Hid (Zv4 w5.heap.size w4 bo RX):=ħ ⟨V,hb0,Nat.le_trans hb.o.size hbV,hbW⟩
     have HB4:=ħ b4
     clear hb0 hbV hbW b4
     go_wp2_with fail
     exact Zaa ⟨_,rfl,HB4.o,bo,rfl,HBO.o⟩
    ·obtain rfl:=Option.some.inj hi
     have dv8:Zyk A X sb w5.heap.size co nc cc nm RX vals u0 u1 u2 u3 8 w' (f' 37):=hdn 8 _ 37 rfl (hl3 8 (by rfl)) rfl
     obtain⟨bo,dv8,hbo⟩:=dv8
     clear hdn hl3
     rw[dv8]
     clear dv8 gs5 gs0 gs3
     have HBO:=ħ hbo
     clear hbo
     have bx:=(Below.refl w'.heap.size w').alloc (Nat.le_refl _) (.cells #[.slice bo nm nm] 87)
     have HV:Hid (Zaf (w'.alloc (.cells #[.slice bo nm nm] 87)) w'.heap.size 87 [.slice bo nm nm]):=ħ (heap_alloc_new _ _)
     have BX:=ħ bx
     clear bx
     refine Zab rfl ?_
     go_wp2_with fail
     exact Zaa ⟨_,rfl,BX.o,w'.heap.size,bo,rfl,HV.o,HBO.o.below BX.o⟩
    ·obtain rfl:=Option.some.inj hi
     have dv5:f' 34 = .slice co nc nc:=hdn 5 _ 34 rfl (hl3 5 (by rfl)) rfl
     have dv9:Zyk A X sb w5.heap.size co nc cc nm RX vals u0 u1 u2 u3 9 w' (f' 38):=hdn 9 _ 38 rfl (hl3 9 (by rfl)) rfl
     obtain⟨V,bo,dv9,hV,hbo⟩:=dv9
     clear hdn hl3
     rw[dv5,dv9]
     clear dv5 dv9 gs5 gs0 gs3
     have HV:=ħ hV
     have HBO:=ħ hbo
     clear hV hbo
     have HBW:=ħ (HB.o.trans (hb.o.mono HB.o.size))
     have HVR4:Hid (vals=[]∨∃ g off,co=some ⟨g,off,none⟩∧g<w'.heap.size∧Zav w' g off vals):=ħ (by
      rcases HVR.o with h | ⟨g,off,h1,h2,h3⟩
      ·exact .inl h
      ·exact .inr ⟨g,off,h1,Nat.lt_of_lt_of_le h2 HBW.o.size,h3.of_block (HBW.o.block g h2)⟩)
     refine Zab rfl ?_
     refine Zhv 86 87 (.slice none 0 0) 1 24 Tryz.underlying86 Zc2 rfl (by omega) (by omega) w' rfl (.tmp 34) (.tmp 38) rfl co nc vals ?q1 HVN.o HVL.o HVR4.o V 1 1 [.slice bo nm nm] 87 ?q2 HV.o rfl (by omega) ?q3 ?q4 ?_
     case q1=>rfl
     case q2=>rfl
     case q3=>simp[Value.oneCell']
     case q4=>omega
     intro g6 c6 wa o8 b8
     have O5:=ħ (o8.low hb.o.size)
     have B5:=ħ b8
     clear o8 b8
     go_wp2_with fail
     exact Zaa ⟨_,rfl,B5.o,g6,c6,bo,rfl,O5.o,HBO.o.below B5.o⟩
   case he =>
    intro listed a' w4 H hsn hall
    have hd0:Zyk A X sb w5.heap.size co nc cc nm RX vals u0 u1 u2 u3 0 w4 (a'.tmps.getD 29 undef):=H.done 0 _ 29 rfl (hall 0 (by decide)) rfl
    have hd10:Zyk A X sb w5.heap.size co nc cc nm RX vals u0 u1 u2 u3 10 w4 (a'.tmps.getD 39 undef):=H.done 10 _ 39 rfl (hall 10 (by decide)) rfl
    have hb4:=ħ H.below
    have hact:=H.actN hsn [29,30,31,32,33,34,35,36,37,38,39] (Zhf (by kernel_rfl))
    clear H hall hsn
    simp only[List.foldl_cons,List.foldl_nil] at hact
    generalize a'.tmps.getD 29 undef=z29 at *
    generalize a'.tmps.getD 30 undef=z30 at *
    generalize a'.tmps.getD 31 undef=z31 at *
    generalize a'.tmps.getD 32 undef=z32 at *
    generalize a'.tmps.getD 33 undef=z33 at *
    generalize a'.tmps.getD 34 undef=z34 at *
    generalize a'.tmps.getD 35 undef=z35 at *
    generalize a'.tmps.getD 36 undef=z36 at *
    generalize a'.tmps.getD 37 undef=z37 at *
    generalize a'.tmps.getD 38 undef=z38 at *
    generalize a'.tmps.getD 39 undef=z39 at *
    subst hact
    have e0:z29 = .pointer (some ⟨X,0,none⟩):=hd0
    subst e0
    clear hd0
    obtain⟨g6,c6,bo,e10,hO6,hbo⟩:=hd10
    subst e10
    simp only[Act.put,List.setIfInBounds_toArray,List.set_cons_succ,List.set_cons_zero]
    have B6:=ħ (B5.o.trans (hb4.o.mono B5.o.size))
    have XV6:=ħ (XV5.o.step hb4.o)
    have O7:=ħ (O6.o.below hb4.o)
    have P7:=ħ hO6
    have HBO:=ħ hbo
    have hx5:X<w5.heap.size:=XV5.o.lt
    have HWS5:=ħ B5.o.size
    clear hO6 hb4 hbo XV5 B5 HB XS HCLB X5 O6
    have HG6:Hid (g6≠X):=ħ (by have:=(P7.o.blk_lt (g:=g6) rfl).1;omega)
    have P7:=ħ (P7.o.low (B':=w.heap.size) HWS5.o)
    have x2:=XV6.o.cell 4 _ rfl
    have xf:=XV6.o.warm 4
    refine Zba (Zab rfl ?_)
    go_wp2_with fail
    refine Zaa (Zba (Zab rfl ?_))
    go_wp2_with fail
    refine Zaa (Zba (Zab rfl ?_))
    go_wp2_with fail
    refine Zaa (Zc1 ?_)
    clear x2 xf
    have on:=(Only.refl w4 (· = X)).setCell (a:=⟨X,4,none⟩) (.slice (some ⟨g6,0,none⟩) (nc+1) c6) rfl
    have XV7:=ħ (XV6.o.set 4 (.slice (some ⟨g6,0,none⟩) (nc+1) c6))
    have B7:=ħ (Only.later B6.o on (fun g hg=>by have:=HXX.o.1;omega))
    have O8:=ħ (O7.o.of_block (fun g e hl=>on.block g hl (fun e2=>by have h:g5=g:=Option.some.inj e;exact HG5.o (h.trans e2))) on.size)
    have P8:=ħ (P7.o.of_block (fun g e hl=>on.block g hl (fun e2=>by have h:g6=g:=Option.some.inj e;exact HG6.o (h.trans e2))) on.size)
    have HBO8:=ħ (HBO.o.flat on hx5)
    go_wp2_with fail
    go_ret
    exact⟨X,rfl,HFIN.o _ X _ _ _ _ bo B7.o (by rw[HRV.o];exact XV7.o) O8.o P8.o HBO8.o,HXX.o.1,B7.o⟩
end
section
open Go.RowKit Go.Sort Go.Maps
structure ArgC (w:World) (c:Crw) (cs:List Value) (B:Nat):Prop where
 crw:Zgj w c cs
 tab:Tab w B
 ok:CrwOk c
 nu:c.us.length≤999
theorem ArgC.below {w w':World} {c:Crw} {cs:List Value} {B:Nat} (h:ArgC w c cs B) (hb:Below w.heap.size w w'):ArgC w' c cs B:=⟨h.crw.below hb,Zbi.step (w:=w) h.tab hb,h.ok,h.nu⟩
theorem ArgC.form {w:World} {c:Crw} {cs:List Value} {B:Nat} (h:ArgC w c cs B):∃ qo qc mo mc uo uc,cs=[.slice qo c.qs.length qc,.slice mo c.ms.length mc,.slice uo c.us.length uc]:=by
 obtain⟨qo,qc,mo,mc,uo,uc,h1,-⟩:=h.crw
 exact⟨qo,qc,mo,mc,uo,uc,h1⟩
theorem Zko {m:Mem} (h:Zdu m=true):(∀ t∈m.t,0≤t∧t≤4096)∧m.t.length≤16:=by
 unfold Zdu at h
 simp only[Bool.and_eq_true,decide_eq_true_eq,Bool.not_eq_true',List.any_eq_false,Bool.not_eq_true,inB] at h
 obtain⟨⟨⟨h1,h2⟩,h3⟩,h4⟩:=h
 refine⟨fun t ht=>?_,h2⟩
 have:=h3 t ht
 simpa [Zx7,inB] using this
theorem Zar {c:Crw} (h:Zam c=true) (hu:c.us.length≤1000):ReckOk c (Zau c):=by
 obtain⟨h1,h2,h3,h4,h5,h6⟩:=Zaq h
 refine⟨by unfold Zau;rw[List.length_map],fun r hr=>?_,fun x hx=>?_,fun m hm=>?_,by omega,hu⟩
 ·unfold Zau at hr
  obtain⟨x,-,rfl⟩:=List.mem_map.1 hr
  exact Zfe _ _ _
 ·have:=Zd7 (h6 x hx);omega
 ·have:=Zko (h5 m hm)
  exact⟨this.1,by omega⟩
end
section
open Go.RowKit Go.Sort Go.Maps
def Zcs (u:Int) (n:Nat):Bool:=inB u 0 ((n:Int)-1)
theorem Zb3 {u:Int} {n:Nat} (h:Zcs u n=true):∃ k:Nat,u=(k:Int)∧k<n:=by
 unfold Zcs inB at h
 simp only[Bool.and_eq_true,decide_eq_true_eq] at h
 exact⟨u.toNat,by omega,by omega⟩
def Zmr (w w':World) (l:List Nat) (e:Ending):Prop:=(∃ o cap,e = .returned (.slice o l.length cap)∧OwnK w' w.heap.size 1 l.length cap (Za4 l) o)∧Below w.heap.size w w'
theorem Zmr.nil {w w':World} {l:List Nat} (h:l=[]) (hb:Below w.heap.size w w'):Zmr w w' l (.returned (.slice none 0 0)):=by
 subst h
 exact⟨⟨none,0,rfl,.nil rfl rfl rfl⟩,hb⟩
end
section
open Go.RowKit Go.Sort Go.Maps
def Zgm (c:Crw) (u m:Int):Bool:=Zam c&&Zcs u c.us.length&&Zcs m c.ms.length
def Zhw (w w':World) (c:Crw) (u m:Int) (e:Ending):Prop:=Below w.heap.size w w'∧if Zgm c u m=true then ∃ X,e = .returned (.tuple #[.pointer (some ⟨X,0,none⟩),.bool true])∧Za9 w' X c (Zaj c) (Zbn c (Zau c) u.toNat m.toNat) else e = .returned (.tuple #[.pointer none,.bool false])
theorem Zju {c:Crw} {u m:Int} (h:Zgm c u m=true):Zam c=true∧∃ k j:Nat,u=(k:Int)∧m=(j:Int)∧k<c.us.length∧j<c.ms.length:=by
 unfold Zgm at h
 simp only[Bool.and_eq_true] at h
 obtain⟨⟨h1,h2⟩,h3⟩:=h
 obtain⟨k,e1,hk⟩:=Zb3 h2
 obtain⟨j,e2,hj⟩:=Zb3 h3
 exact⟨h1,k,j,e1,e2,hk,hj⟩
theorem Zms (w:World) (c:Crw) (cs:List Value) (B:Nat) (u m:Int) (ha:ArgC w c cs B) :
  Calls Tryz.prog 118 #[.agg cs.toArray,.int .i64 u,.int .i64 m] w fun e w'=>Zhw w w' c u m e:=by
 have HOP:=ħ (fun W (hW:Below w.heap.size w W)=>Zda W c cs (ha.below hW).crw B (ha.below hW).tab ha.ok)
 have HNU:=ha.nu
 have HRK:=ħ (fun (h:Zam c=true)=>Zar h (by omega))
 have HVP:=ħ (fun (h:Zam c=true)=>Zaq h)
 have HAC:=ħ ha
 have hnq0:=ha.ok.nq
 have hnm0:=ha.ok.nm
 have HPA:Hid (Zgm c u m=(Zam c&&Zcs u c.us.length&&Zcs m c.ms.length)):=ħ rfl
 have HNO:Hid (∀ w' e,Zgm c u m=false→Below w.heap.size w w'→e = .returned (.tuple #[.pointer none,.bool false])→Zhw w w' c u m e):=ħ (fun w' e h hb he=>by unfold Zhw;rw[h];exact⟨hb,he⟩)
 have HYE:Hid (∀ w' X (k j:Nat),u=(k:Int)→m=(j:Int)→Zgm c u m=true→Below w.heap.size w w'→Za9 w' X c (Zaj c) (Zbn c (Zau c) k j)→Zhw w w' c u m (.returned (.tuple #[.pointer (some ⟨X,0,none⟩),.bool true]))):=ħ (fun w' X k j h1 h2 h hb he=>by
  unfold Zhw;rw[h,h1,h2];exact⟨hb,X,rfl,he⟩)
 generalize Zgm c u m=PA at *
 have HIX:Hid (Zcs u c.us.length=inB u 0 ((c.us.length:Int)-1)):=ħ rfl
 have HIN:=ħ (fun h=>Zb3 (u:=u) (n:=c.us.length) h)
 have HJX:Hid (Zcs m c.ms.length=inB m 0 ((c.ms.length:Int)-1)):=ħ rfl
 have HJN:=ħ (fun h=>Zb3 (u:=m) (n:=c.ms.length) h)
 obtain⟨qo,qc,mo,mc,uo,uc,rfl,hq0,hm0,hu0,-⟩:=ha.crw
 have HMW:=ħ (fun W (hW:Below w.heap.size w W)=>hm0.below hW)
 have HUW:=ħ (fun W (hW:Below w.heap.size w W)=>hu0.below hW)
 unfold Zvz at HOP
 clear ha hq0 hm0 hu0
 generalize hnq:c.qs.length=nq at *
 generalize hnm:c.ms.length=nm at *
 generalize hnu:c.us.length=nu at *
 have HQE:=ħ hnq
 have HME:=ħ hnm
 have HUE:=ħ hnu
 clear hnq hnm hnu
 generalize hvc:Zam c=vc at *
 have HVC:=ħ hvc
 clear hvc
 have X1:Hid (Zaf (w.alloc (.cells #[.slice qo nq qc,.slice mo nm mc,.slice uo nu uc] 26)) w.heap.size 26 [.slice qo nq qc,.slice mo nm mc,.slice uo nu uc]):=ħ (heap_alloc_new w _)
 have B1:=ħ ((Below.refl w.heap.size w).alloc (Nat.le_refl _) (.cells #[.slice qo nq qc,.slice mo nm mc,.slice uo nu uc] 26))
 go_enter Tryz.func118,Tryz.ntmps118
 go_upto_region 1 with (fail)
 generalize w.alloc (.cells #[.slice qo nq qc,.slice mo nm mc,.slice uo nu uc] 26)=w1 at *
 have c0:=X1.o.cell 0 _ rfl
 have c1:=X1.o.cell 1 _ rfl
 have c2:=X1.o.cell 2 _ rfl
 have HCL:=ħ (HOP.o w1 B1.o)
 clear HOP
 go_wp2_with fail
 refine HCL.o.mono ?_
 intro e w2 hq
 obtain⟨hres,b2⟩:=hq
 have B2:=ħ (B1.o.trans (b2.mono B1.o.size))
 have X2:=ħ (X1.o.step b2)
 have HSZ:Hid (w.heap.size<w2.heap.size):=ħ X2.o.lt
 clear b2 c0 c1 c2 B1 X1 HCL
 cases vc with
 | false =>
  rw[if_neg (by decide)] at hres
  subst hres
  have HPN:Hid (PA=false):=ħ (by rw[HPA.o];rfl)
  clear HPA
  go_wp2_with fail
  go_ret2
  exact HNO.o _ _ HPN.o B2.o rfl
 | true =>
  rw[if_pos rfl] at hres
  obtain⟨A,rfl,hR,-⟩:=hres
  have HR:=ħ hR
  have HOK:=ħ (HRK.o rfl)
  clear hR HRK
  have c2:=X2.o.cell 2 _ rfl
  have c1:=X2.o.cell 1 _ rfl
  have HWI:=ħ (Za8 u 0 ((nu:Int)-1) w2)
  have HWJ:=ħ (Za8 m 0 ((nm:Int)-1) w2)
  rw[← HIX.o] at HWI
  rw[← HJX.o] at HWJ
  have ew:IntKind.i64.wrap ((nu:Int)-1)=(nu:Int)-1:=IntWalk.i64_in _ (by omega)
  have ew2:IntKind.i64.wrap ((nm:Int)-1)=(nm:Int)-1:=IntWalk.i64_in _ (by omega)
  generalize hib:Zcs u nu=ib at *
  have HIB:=ħ hib
  clear hib
  generalize hjb:Zcs m nm=jb at *
  have HJB:=ħ hjb
  clear hjb
  go_wp2_with fail
  refine HWI.o.mono ?_
  rintro e w3 ⟨rfl,rfl⟩
  clear HWI
  cases ib with
  | false =>
   have HPN:Hid (PA=false):=ħ (by rw[HPA.o];rfl)
   clear HPA
   go_wp2_with fail
   go_ret2
   exact HNO.o _ _ HPN.o B2.o rfl
  | true =>
   go_wp2_with fail
   refine HWJ.o.mono ?_
   rintro e w3 ⟨rfl,rfl⟩
   clear HWJ c1 c2
   cases jb with
   | false =>
    have HPN:Hid (PA=false):=ħ (by rw[HPA.o];rfl)
    clear HPA
    go_wp2_with fail
    go_ret2
    exact HNO.o _ _ HPN.o B2.o rfl
   | true =>
    obtain⟨k,hku,hk⟩:=HIN.o (by first | rfl | trivial)
    obtain⟨j,hjm,hj⟩:=HJN.o (by first | rfl | trivial)
    have HPN:Hid (PA=true):=ħ (by rw[HPA.o];rfl)
    have HKU:=ħ hku
    have HJM:=ħ hjm
    rw[hku,hjm]
    have HPO:=ħ (Znk w2 A c (Zaj c) (Zau c) k j HR.o (by rw[HOK.o.len,HUE.o];exact hk) (by rw[HME.o];exact hj) HOK.o.row (by rw[HOK.o.len,HUE.o];omega) (by rw[HME.o];omega))
    clear HPA hku hjm
    go_wp2_with fail
    refine HPO.o.mono ?_
    rintro e w3 ⟨X,rfl,hX,-,b3⟩
    have HX:=ħ hX
    have B3:=ħ (B2.o.trans (b3.mono B2.o.size))
    clear hX b3 HPO
    go_wp2_with fail
    go_ret2
    exact HYE.o _ X k j HKU.o HJM.o HPN.o B3.o HX.o
def Zzo (w w':World) (c:Crw) (u m:Int) (e:Ending):Prop:=Below w.heap.size w w' ∧
 if (Zgm c u m&&Zcg (Zat c (Zbn c (Zau c) u.toNat m.toNat)))=true then ∃ o cap,e = .returned (.tuple #[.slice o (Zax c c.us.length 0 (Zbn c (Zau c) u.toNat m.toNat) []).length cap,.bool true])∧OwnK w' w.heap.size 1 (Zax c c.us.length 0 (Zbn c (Zau c) u.toNat m.toNat) []).length cap (Za4 (Zax c c.us.length 0 (Zbn c (Zau c) u.toNat m.toNat) [])) o
 else e = .returned (.tuple #[.slice none 0 0,.bool false])
theorem Zs8 {c:Crw} {u m:Int} (h:Zgm c u m=true) (hu:c.us.length≤999):ReckOk c (Zbn c (Zau c) u.toNat m.toNat):=(Zar (Zju h).1 (by omega)).fix _ _
theorem Zyl (w:World) (c:Crw) (cs:List Value) (B:Nat) (u m:Int) (ha:ArgC w c cs B) :
  Calls Tryz.prog 49 #[.agg cs.toArray,.int .i64 u,.int .i64 m] w fun e w'=>Zzo w w' c u m e:=by
 have HFX:=ħ (fun W (hW:Below w.heap.size w W)=>Zms W c cs B u m (ha.below hW))
 unfold Zhw at HFX
 have HAC:=ħ ha
 have HNU:=ha.nu
 have HNO:Hid (∀ w' e,Zgm c u m=false→Below w.heap.size w w'→e = .returned (.tuple #[.slice none 0 0,.bool false])→Zzo w w' c u m e):=ħ (fun w' e h hb he=>by unfold Zzo;rw[h];exact⟨hb,he⟩)
 have HYE:Hid (∀ w2 w' e,Zgm c u m=true→Below w.heap.size w w2→Zgl w2 c (Zbn c (Zau c) u.toNat m.toNat) e w'→Zzo w w' c u m e):=ħ (fun w2 w' e h hb he=>by
  obtain⟨h1,h2⟩:=he
  refine⟨hb.trans (h1.mono hb.size),?_⟩
  rw[h,Bool.true_and]
  by_cases hf:Zcg (Zat c (Zbn c (Zau c) u.toNat m.toNat))=true
  ·rw[if_pos hf] at h2 ⊢
   obtain⟨o,cap,h3,h4⟩:=h2
   exact⟨o,cap,h3,h4.low hb.size⟩
  ·rw[if_neg hf] at h2 ⊢
   exact h2)
 have HRK:=ħ (fun (h:Zgm c u m=true)=>Zs8 h HNU)
 have HFT:Hid (∀ e w2 w',Zgl w2 c (Zbn c (Zau c) u.toNat m.toNat) e w'→(∃ a b,e = .returned (.tuple #[a,b])) ):=ħ (fun e w2 w' he=>by
  obtain⟨h1,h2⟩:=he
  by_cases hf:Zcg (Zat c (Zbn c (Zau c) u.toNat m.toNat))=true
  ·rw[if_pos hf] at h2
   obtain⟨o,cap,h3,h4⟩:=h2
   exact⟨_,_,h3⟩
  ·rw[if_neg hf] at h2
   exact⟨_,_,h2⟩)
 generalize Zgm c u m=PA at *
 obtain⟨qo,qc,mo,mc,uo,uc,rfl⟩:=ha.form
 clear ha
 generalize hnq:c.qs.length=nq at *
 generalize hnm:c.ms.length=nm at *
 generalize hnu:c.us.length=nu at *
 have HME:=ħ hnm
 have HUE:=ħ hnu
 clear hnq hnm hnu
 have X1:Hid (Zaf (w.alloc (.cells #[.slice qo nq qc,.slice mo nm mc,.slice uo nu uc] 26)) w.heap.size 26 [.slice qo nq qc,.slice mo nm mc,.slice uo nu uc]):=ħ (heap_alloc_new w _)
 have B1:=ħ ((Below.refl w.heap.size w).alloc (Nat.le_refl _) (.cells #[.slice qo nq qc,.slice mo nm mc,.slice uo nu uc] 26))
 go_enter Tryz.func49,Tryz.ntmps49
 go_upto_region 1 with (fail)
 generalize w.alloc (.cells #[.slice qo nq qc,.slice mo nm mc,.slice uo nu uc] 26)=w1 at *
 have c0:=X1.o.cell 0 _ rfl
 have c1:=X1.o.cell 1 _ rfl
 have c2:=X1.o.cell 2 _ rfl
 have HCL:=ħ (HFX.o w1 B1.o)
 clear HFX
 go_wp2_with fail
 refine HCL.o.mono ?_
 intro e w2 hq
 obtain⟨b2,hres⟩:=hq
 have B2:=ħ (B1.o.trans (b2.mono B1.o.size))
 clear b2 c0 c1 c2 B1 X1 HCL
 cases PA with
 | false =>
  rw[if_neg (by decide)] at hres
  subst hres
  go_wp2_with fail
  go_ret2
  exact HNO.o _ _ (by first | rfl | trivial) B2.o rfl
 | true =>
  rw[if_pos rfl] at hres
  obtain⟨X,rfl,hX⟩:=hres
  have HFI:=ħ (Zmp w2 X c (Zaj c) (Zbn c (Zau c) u.toNat m.toNat) hX (HRK.o (by first | rfl | trivial)))
  clear hX HRK
  go_wp2_with fail
  refine HFI.o.mono ?_
  intro e w3 hq
  have HQ:=ħ (HYE.o w2 w3 e (by first | rfl | trivial) B2.o hq)
  obtain⟨a,b,rfl⟩:=HFT.o e w2 w3 hq
  clear hq HFI HYE HNO HFT
  go_wp2_with fail
  go_ret2
  exact HQ.o
end
section
open Go.RowKit Go.Sort Go.Maps
def IlE (w:World) (P:Nat→Prop) (c:List Int) (vs:List Value):Prop:=∃ ao cap,vs=[.slice ao c.length cap]∧(c=[]∨∃ g off,ao=some ⟨g,off,none⟩∧P g∧g<w.heap.size∧Zav w g off (c.flatMap Zbf))
theorem IlE.keeps:Zpw IlE:=fun w w' P P' c vs hb hs hP ⟨ao,cap,hv,hk⟩=>⟨ao,cap,hv,by
 rcases hk with hk | ⟨g,off,h1,h2,h3,h4⟩
 ·exact .inl hk
 ·exact .inr ⟨g,off,h1,hP g h2 h3,Nat.lt_of_lt_of_le h3 hs,h4.of_block (hb g h2 h3)⟩⟩
def Zfj (w:World) (rows:List (List Int)) (ao:Option Addr):Prop:=rows=[]∨∃ g off,ao=some ⟨g,off,none⟩∧g<w.heap.size∧∀ i row,rows[i]?=some row→∃ bo bc,w.cell? ⟨g,off+i,none⟩=some (.slice bo row.length bc)∧Zak Zbf w bo row
theorem Zfj.below {w w':World} {rows:List (List Int)} {ao:Option Addr} (h:Zfj w rows ao) (hb:Below w.heap.size w w'):Zfj w' rows ao:=by
 rcases h with h | ⟨g,off,h1,h2,h3⟩
 ·exact .inl h
 ·refine .inr ⟨g,off,h1,Nat.lt_of_lt_of_le h2 hb.size,fun i row hi=>?_⟩
  obtain⟨bo,bc,h4,h5⟩:=h3 i row hi
  exact⟨bo,bc,by rw[World.cell?_of_block (w:=w) (a:=⟨g,off+i,none⟩) (hb.block g h2)];exact h4,h5.below hb⟩
theorem Zfj.at {w:World} {rows:List (List Int)} {ao:Option Addr} (h:Zfj w rows ao) (i:Nat) (row:List Int) (hi:rows[i]?=some row):∃ g off bo bc,ao=some ⟨g,off,none⟩∧g<w.heap.size∧w.cell? ⟨g,off+i,none⟩=some (.slice bo row.length bc)∧Zak Zbf w bo row:=by
 rcases h with h | ⟨g,off,h1,h2,h3⟩
 ·rw[h] at hi;simp at hi
 ·obtain⟨bo,bc,h4,h5⟩:=h3 i row hi
  exact⟨g,off,bo,bc,h1,h2,h4,h5⟩
theorem RowM.rowsI {base lo n cp:Nat} {w:World} {bad:Nat→Prop} {ao:Option Addr} {rows:List (List Int)} {vss:List (List Value)} (h:RowM IlE 1 base w lo bad ao n cp rows vss):Zfj w rows ao:=by
 rcases Nat.eq_zero_or_pos rows.length with h0 | h0
 ·exact .inl (List.eq_nil_of_length_eq_zero h0)
 ·obtain⟨g,off,vs,h1,h2,-⟩:=h.at 0 rows[0] (List.getElem?_eq_getElem h0)
  refine .inr ⟨g,off,h1,h2,fun i row hi=>?_⟩
  obtain⟨g',off',vs',h1',h2',-,-,-,h3',bo,bc,rfl,h5⟩:=h.at i row hi
  rw[h1] at h1'
  cases h1'
  have:=h3' 0 _ rfl
  rw[Nat.mul_one,Nat.add_zero] at this
  refine⟨bo,bc,this,?_⟩
  rcases h5 with h6 | ⟨g2,off2,h6,-,h7,h8⟩
  ·exact .inl h6
  ·exact .inr ⟨g2,off2,h6,h7,h8⟩
theorem Zkp (l:List Nat):(l.map Int.ofNat).length=l.length:=List.length_map _
theorem Zym {w:World} {B cap:Nat} {l:List Nat} {ao:Option Addr} (h:OwnK w B 1 l.length cap (Za4 l) ao) (P:Nat→Prop) (hP:∀ g,B≤g→P g):IlE w P (l.map Int.ofNat) [.slice ao l.length cap]:=by
 refine⟨ao,cap,by rw[Zkp],?_⟩
 rw[Zfh] at h
 rcases h.flatR Zbe (Zkp l).symm with h1 | ⟨g,off,h1,h2,h3⟩
 ·exact .inl h1
 ·exact .inr ⟨g,off,h1,hP g (h.blk_lt (by rw[h1];rfl)).1,h2,h3⟩
def Zb2 (c:Crw):List (List Int):=if Zam c=true then (List.range c.us.length).map (fun u=>(Zfi c (Zau c) u).map Int.ofNat) else []
def Zs9 (w w':World) (c:Crw) (e:Ending):Prop:=(∃ o cap,e = .returned (.slice o (Zb2 c).length cap)∧Zfj w' (Zb2 c) o)∧Below w.heap.size w w'
theorem Zta:(Tryz.prog.info? 33).map (fun i=>(i.zero,i.size,i.bytes))=some (some (.slice none 0 0),1,24):=by kernel_rfl
theorem Zkq (w:World) (c:Crw) (cs:List Value) (B:Nat) (ha:ArgC w c cs B) :
  Calls Tryz.prog 24 #[.agg cs.toArray] w fun e w'=>Zs9 w w' c e:=by
 have HOP:=ħ (fun W (hW:Below w.heap.size w W)=>Zda W c cs (ha.below hW).crw B (ha.below hW).tab ha.ok)
 have HNU:=ha.nu
 have HRK:=ħ (fun (h:Zam c=true)=>Zar h (by omega))
 have HVP:=ħ (fun (h:Zam c=true)=>Zaq h)
 have HAC:=ħ ha
 have hnq0:=ha.ok.nq
 have hnm0:=ha.ok.nm
 have HPA:Hid (Zb2 c=if Zam c=true then (List.range c.us.length).map (fun u=>(Zfi c (Zau c) u).map Int.ofNat) else []):=ħ rfl
 have HFIN:Hid (∀ w' o cap,Below w.heap.size w w'→Zfj w' (Zb2 c) o→Zs9 w w' c (.returned (.slice o (Zb2 c).length cap))):=ħ (fun w' o cap hb h=>⟨⟨o,cap,rfl,h⟩,hb⟩)
 generalize Zb2 c=PA at *
 obtain⟨qo,qc,mo,mc,uo,uc,rfl,hq0,hm0,hu0,-⟩:=ha.crw
 have HMW:=ħ (fun W (hW:Below w.heap.size w W)=>hm0.below hW)
 have HUW:=ħ (fun W (hW:Below w.heap.size w W)=>hu0.below hW)
 unfold Zvz at HOP
 clear ha hq0 hm0 hu0
 generalize hnq:c.qs.length=nq at *
 generalize hnm:c.ms.length=nm at *
 generalize hnu:c.us.length=nu at *
 have HQE:=ħ hnq
 have HME:=ħ hnm
 have HUE:=ħ hnu
 clear hnq hnm hnu
 generalize hvc:Zam c=vc at *
 have HVC:=ħ hvc
 clear hvc
 have X1:Hid (Zaf (w.alloc (.cells #[.slice qo nq qc,.slice mo nm mc,.slice uo nu uc] 26)) w.heap.size 26 [.slice qo nq qc,.slice mo nm mc,.slice uo nu uc]):=ħ (heap_alloc_new w _)
 have B1:=ħ ((Below.refl w.heap.size w).alloc (Nat.le_refl _) (.cells #[.slice qo nq qc,.slice mo nm mc,.slice uo nu uc] 26))
 go_enter Tryz.func24,Tryz.ntmps24
 go_upto_region 1 with (fail)
 generalize w.alloc (.cells #[.slice qo nq qc,.slice mo nm mc,.slice uo nu uc] 26)=w1 at *
 have c0:=X1.o.cell 0 _ rfl
 have c1:=X1.o.cell 1 _ rfl
 have c2:=X1.o.cell 2 _ rfl
 have HCL:=ħ (HOP.o w1 B1.o)
 clear HOP
 go_wp2_with fail
 refine HCL.o.mono ?_
 intro e w2 hq
 obtain⟨hres,b2⟩:=hq
 have B2:=ħ (B1.o.trans (b2.mono B1.o.size))
 have X2:=ħ (X1.o.step b2)
 have HSZ:Hid (w.heap.size<w2.heap.size):=ħ X2.o.lt
 clear b2 c0 c1 c2 B1 X1 HCL
 cases vc with
 | false =>
  rw[if_neg (by decide)] at hres
  subst hres
  have HPN:Hid (PA=[]):=ħ (by rw[HPA.o];rfl)
  clear HPA
  go_wp2_with fail
  go_ret
  rw[HPN.o] at HFIN
  exact HFIN.o _ none 0 B2.o (.inl rfl)
 | true =>
  rw[if_pos rfl] at hres
  obtain⟨A,rfl,hR,-⟩:=hres
  have HR:=ħ hR
  have HOK:=ħ (HRK.o rfl)
  clear hR HRK
  have HPN:Hid (PA=(List.range nu).map (fun u=>(Zfi c (Zau c) u).map Int.ofNat)):=ħ (by rw[HPA.o,if_pos rfl])
  have HPO:=ħ (fun W (hW:Below w2.heap.size w2 W) k (hk:k<nu)=>Zno W A c (Zaj c) (Zau c) k (HR.o.below hW) HOK.o (by rw[HUE.o];exact hk))
  have c2:=X2.o.cell 2 _ rfl
  clear HPA HR
  go_wp2_with fail
  clear c2
  have HWZ:=ħ (Below.refl w2.heap.size w2)
  obtain⟨wz,hwz⟩:∃ y,w2=y:=⟨_,rfl⟩
  rw[hwz] at HPO B2 HWZ ⊢
  clear hwz HSZ X2
  have R2:Hid (RowM IlE 1 wz.heap.size wz wz.heap.size (fun _=>False) none 0 0 (PA.take 0) []):=ħ (by rw[List.take_zero];exact RowM.nil _ _ _)
  go_loopw [16,2] (fun kv ov wr=>∃ (k:Nat) (o:Option Addr) (cap:Nat) (vss:List (List Value)),kv = .int .i64 k∧ov = .slice o k cap∧k≤nu∧Hid (RowM IlE 1 wz.heap.size wr wz.heap.size (fun _=>False) o k cap (PA.take k) vss)∧Hid (Below wz.heap.size wz wr)) (fun k _ _=>(nu-intOf k).toNat)
  case atStart=>exact⟨0,none,0,[],rfl,rfl,by omega,R2,HWZ⟩
  case round =>
   clear R2 HWZ
   obtain⟨k,o,cap,vss,rfl,rfl,hk,R3,B3⟩:=hrel
   have e2:IntKind.i64.wrap ((k:Int)+1)=((k+1:Nat):Int):=IntWalk.i64_in _ (by omega)
   by_cases hkn:k<nu
   ·have kk:(k:Int)<nu:=by omega
    have HPC:=ħ (HPO.o wr B3.o k hkn)
    have HTK:Hid (PA.take (k+1)=PA.take k++[(Zfi c (Zau c) k).map Int.ofNat]):=ħ (by rw[List.take_add_one,HPN.o,List.getElem?_map,List.getElem?_range hkn];rfl)
    have HKL:Hid (∀ g,blk o=some g→g<wr.heap.size):=ħ (fun g hg=>(R3.o.own.blk_lt hg).2)
    generalize Zfi c (Zau c) k=PK at *
    go_wp2_with fail
    refine HPC.o.mono ?_
    rintro e w3 ⟨⟨po,pc,rfl,ho⟩,b3⟩
    have E4:Hid (IlE w3 (fun g=>wr.heap.size≤g) (PK.map Int.ofNat) [.slice po PK.length pc]):=ħ (Zym ho _ (fun g hg=>hg))
    have R4:=ħ (R3.o.step IlE.keeps b3)
    have B4:=ħ (B3.o.trans (b3.mono B3.o.size))
    have HB3:=ħ B3.o.size
    clear ho b3 HPC R3 B3
    go_upto_region 8 with (at_builtin;refine Zd0 36 33 (.slice none 0 0) 1 24 Tryz.underlying36 Zta rfl (by omega) (by omega) w3 wz.heap.size rfl (.tmp 19) (.tmp 23) rfl o cap k vss.flatten ?q1 R4.o.own B4.o.size 1 1 #[.slice po PK.length pc] 33 ?q2 rfl (by omega) ?q3 ?q4 ?_;(case q1=>rfl);(case q2=>rfl);(case q3=>intro u hu;simp at hu;subst hu;rfl);(case q4=>omega);intro g5 off5 c5 wa o8 gr8 b8 or8;have R8:=ħ (RowM.add IlE.keeps R4.o HKL.o HB3.o (fun g hg=>hg.elim) E4.o rfl o8 gr8 or8);have B8:=ħ (B4.o.trans b8);clear o8 gr8 b8 or8)
    go_wp2_with fail
    go_roundw
    case rel=>exact⟨k+1,_,_,_,by go_num,rfl,by omega,ħ (by rw[HTK.o];exact R8.o),B8⟩
    case measure=>simp only[intOf];omega
   ·have kk:¬ (k:Int)<nu:=by omega
    obtain rfl:nu=k:=by omega
    have HPL:Hid (PA.length=nu):=ħ (by rw[HPN.o,List.length_map,List.length_range])
    have HTK:Hid (PA.take nu=PA):=ħ (List.take_of_length_le (by rw[HPL.o];exact Nat.le_refl _))
    go_wp2_with fail
    go_ret
    have key:=HFIN.o wr o cap (B2.o.trans (B3.o.mono B2.o.size)) (by have:=R3.o.rowsI;rwa [HTK.o] at this)
    rw[HPL.o] at key
    exact key
end
section
open Go.RowKit Go.Sort Go.Maps
def Znp (l:List Int):Int:=if l.length=1 then l.getD 0 0 else -1
def Zo4 (c:Crw):List Int:=(Zb2 c).map Znp
def Zyn (w w':World) (l:List Int) (e:Ending):Prop:=(∃ o cap,e = .returned (.slice o l.length cap)∧OwnK w' w.heap.size 1 l.length cap (l.flatMap Zbf) o)∧Below w.heap.size w w'
theorem Ztb (w:World) (c:Crw) (cs:List Value) (B:Nat) (ha:ArgC w c cs B) :
  Calls Tryz.prog 62 #[.agg cs.toArray] w fun e w'=>Zyn w w' (Zo4 c) e:=by
 have HSE:=ħ (fun W (hW:Below w.heap.size w W)=>Zkq W c cs B (ha.below hW))
 have HSL:Hid ((Zb2 c).length≤999):=ħ (by
  unfold Zb2
  split
  ·rw[List.length_map,List.length_range];exact ha.nu
  ·exact Nat.zero_le _)
 have HRL:Hid (∀ l∈Zb2 c,l.length≤1000000):=ħ (fun l hl=>by
  unfold Zb2 at hl
  split at hl
  ·obtain⟨u,-,rfl⟩:=List.mem_map.1 hl
   rw[Zkp]
   have h1:=Zbj (Zin c (Zau c) u) c.ms.length
   have:=ha.ok.nm
   unfold Zfi
   omega
  ·cases hl)
 unfold Zs9 at HSE
 have HNF:Hid (Zo4 c=(Zb2 c).map Znp):=ħ rfl
 obtain⟨qo,qc,mo,mc,uo,uc,rfl⟩:=ha.form
 clear ha
 generalize Zo4 c=NF at *
 generalize Zb2 c=SF at *
 have X1:Hid (Zaf (w.alloc (.cells #[.slice qo c.qs.length qc,.slice mo c.ms.length mc,.slice uo c.us.length uc] 26)) w.heap.size 26 [.slice qo c.qs.length qc,.slice mo c.ms.length mc,.slice uo c.us.length uc]):=ħ (heap_alloc_new w _)
 have B1:=ħ ((Below.refl w.heap.size w).alloc (Nat.le_refl _) (.cells #[.slice qo c.qs.length qc,.slice mo c.ms.length mc,.slice uo c.us.length uc] 26))
 generalize c.qs.length=nq at *
 generalize c.ms.length=nm at *
 generalize c.us.length=nu at *
 have HFIN:Hid (∀ w' o cap n,NF.length=n→Below w.heap.size w w'→OwnK w' w.heap.size 1 n cap (NF.flatMap Zbf) o→Zyn w w' NF (.returned (.slice o n cap))):=ħ (fun w' o cap n hn hb h=>by subst hn;exact⟨⟨o,cap,rfl,h⟩,hb⟩)
 generalize hsl:SF.length=ns at *
 have HSN:=ħ hsl
 clear hsl
 go_enter Tryz.func62,Tryz.ntmps62
 go_upto_region 1 with (fail)
 generalize w.alloc (.cells #[.slice qo nq qc,.slice mo nm mc,.slice uo nu uc] 26)=w1 at *
 have c0:=X1.o.cell 0 _ rfl
 have c1:=X1.o.cell 1 _ rfl
 have c2:=X1.o.cell 2 _ rfl
 have HCL:=ħ (HSE.o w1 B1.o)
 clear HSE
 go_wp2_with fail
 refine HCL.o.mono ?_
 rintro e w2 ⟨⟨so,sc,rfl,hs⟩,b2⟩
 have B2:=ħ (B1.o.trans (b2.mono B1.o.size))
 have HSW:=ħ (fun W (hW:Below w2.heap.size w2 W)=>hs.below hW)
 have HLN:=HSL.o
 clear b2 c0 c1 c2 B1 X1 HCL hs
 go_wp2_with fail
 go_loopw [8,2] (fun kv ov wr=>∃ (k:Nat) (o:Option Addr) (cap:Nat),kv = .int .i64 k∧ov = .slice o k cap∧k≤ns∧Hid (OwnK wr w2.heap.size 1 k cap ((NF.take k).flatMap Zbf) o)∧Hid (Below w2.heap.size w2 wr)) (fun k _ _=>(ns-intOf k).toNat)
 case atStart=>exact⟨0,none,0,rfl,rfl,by omega,ħ (.nil rfl rfl rfl),ħ (Below.refl _ _)⟩
 case round =>
  obtain⟨k,o,cap,rfl,rfl,hk,O3,B3⟩:=hrel
  have e2:IntKind.i64.wrap ((k:Int)+1)=((k+1:Nat):Int):=IntWalk.i64_in _ (by omega)
  by_cases hkn:k<ns
  ·have kk:(k:Int)<ns:=by omega
   obtain⟨row,hrow⟩:∃ y,SF[k]?=some y:=⟨_,List.getElem?_eq_getElem (by rw[HSN.o];exact hkn)⟩
   obtain⟨g,off,bo,bc,hso,hg,hcell,hfl⟩:=(HSW.o wr B3.o).at k row hrow
   have HTK:Hid (NF.take (k+1)=NF.take k++[Znp row]):=ħ (by rw[List.take_add_one,HNF.o,List.getElem?_map,hrow];rfl)
   have hrl:=HRL.o row (List.mem_of_getElem? hrow)
   subst hso
   by_cases h1:row.length=1
   ·have HON:Hid ([Znp row].flatMap Zbf=[.int .i64 (row.getD 0 0)]):=ħ (by unfold Znp;rw[if_pos h1];rfl)
    obtain⟨g2,off2,hbo,hg2,hrd⟩:∃ g off,bo=some ⟨g,off,none⟩∧g<wr.heap.size∧Zav wr g off (row.flatMap Zbf):=by
     rcases hfl with h | h
     ·rw[h] at h1;simp at h1
     ·exact h
    subst hbo
    have hr0:wr.cell? ⟨g2,off2,none⟩=some (.int .i64 (row.getD 0 0)):=by
     have:=hrd 0 (.int .i64 (row.getD 0 0)) (by
      obtain⟨x,hx⟩:=List.length_eq_one_iff.1 h1
      rw[hx];rfl)
     rwa [Nat.add_zero] at this
    rw[h1] at hcell
    generalize row.getD 0 0=x0 at *
    clear hrow hfl h1 hrd hrl
    have ee:(1:Int)=1:=rfl
    go_upto_region 7 with (at_builtin;refine Zd0 33 3 (.int .i64 0) 1 8 Tryz.underlying33 Zbz rfl (by omega) (by omega) wr w2.heap.size rfl (.tmp 15) (.tmp 19) rfl o cap k ((NF.take k).flatMap Zbf) ?q1 O3.o B3.o.size 1 1 #[.int .i64 x0] 3 ?q2 rfl (by omega) ?q3 ?q4 ?_;(case q1=>rfl);(case q2=>rfl);(case q3=>simp[Value.oneCell']);(case q4=>omega);intro g5 off5 c5 wa o8 gr8 b8 or8;have O8:=ħ o8;have B8:=ħ (B3.o.trans b8);clear o8 gr8 b8 or8)
    go_wp2_with fail
    go_roundw
    case rel=>exact⟨k+1,_,_,by go_num,rfl,by omega,ħ (by rw[HTK.o,List.flatMap_append,HON.o];exact O8.o),B8⟩
    case measure=>simp only[intOf];omega
   ·have HON:Hid ([Znp row].flatMap Zbf=[.int .i64 (-1)]):=ħ (by unfold Znp;rw[if_neg h1];rfl)
    have ne:¬ ((row.length:Nat):Int)=1:=by omega
    generalize row.length=rl at *
    clear hrow hfl
    go_upto_region 7 with (at_builtin;refine Zd0 33 3 (.int .i64 0) 1 8 Tryz.underlying33 Zbz rfl (by omega) (by omega) wr w2.heap.size rfl (.tmp 21) (.tmp 22) rfl o cap k ((NF.take k).flatMap Zbf) ?q1 O3.o B3.o.size 1 1 #[.int .i64 (-1)] 3 ?q2 rfl (by omega) ?q3 ?q4 ?_;(case q1=>rfl);(case q2=>rfl);(case q3=>simp[Value.oneCell']);(case q4=>omega);intro g5 off5 c5 wa o8 gr8 b8 or8;have O8:=ħ o8;have B8:=ħ (B3.o.trans b8);clear o8 gr8 b8 or8)
    go_wp2_with fail
    go_roundw
    case rel=>exact⟨k+1,_,_,by go_num,rfl,by omega,ħ (by rw[HTK.o,List.flatMap_append,HON.o];exact O8.o),B8⟩
    case measure=>simp only[intOf];omega
  ·have kk:¬ (k:Int)<ns:=by omega
   obtain rfl:ns=k:=by omega
   have HNL:Hid (NF.length=ns):=ħ (by rw[HNF.o,List.length_map,HSN.o])
   have HTK:Hid (NF.take ns=NF):=ħ (List.take_of_length_le (by rw[HNL.o];exact Nat.le_refl _))
   go_wp2_with fail
   go_ret
   have ho:=O3.o.low (B':=w.heap.size) B2.o.size
   rw[HTK.o] at ho
   exact HFIN.o wr o cap ns HNL.o (B2.o.trans (B3.o.mono B2.o.size)) ho
end
section
open Go.RowKit Go.Sort Go.Maps
theorem Zc3 {c:Crw}:(Zaj c).length=c.qs.length:=by unfold Zaj;rw[List.length_map]
theorem Zdx {c:Crw}:∀ r∈Zaj c,r.length=c.ms.length:=fun r hr=>by
 unfold Zaj at hr
 obtain⟨p,-,rfl⟩:=List.mem_map.1 hr
 rw[List.length_map]
theorem Zc4 (w:World) (t t':TypeId) (a b:List Value):Zaf ((w.alloc (.cells a.toArray t)).alloc (.cells b.toArray t')) w.heap.size t a∧Zaf ((w.alloc (.cells a.toArray t)).alloc (.cells b.toArray t')) (w.heap.size+1) t' b∧Below w.heap.size w ((w.alloc (.cells a.toArray t)).alloc (.cells b.toArray t')) :=
 ⟨(Zaf.new w t a).step ((Below.refl _ _).alloc (Nat.le_refl _) _),Zaf.newAt _ _ _ _ (by rw[World.size_alloc]),((Below.refl _ _).alloc (Nat.le_refl _) _).alloc (by rw[World.size_alloc];omega) _⟩
def Zv5 (c:Crw):Nat→List Int→List (List Bool)→Option (List (List Bool))
 | _,[],C=>some C
 | i,m::l,C=>if inB m (-1) ((c.ms.length:Int)-1)=true then Zv5 c (i+1) l (if m = -1 then C else Zbn c C i m.toNat) else none
def Zyo (c:Crw) (l:List Int):Option (List (List Bool)):=if (Zam c&&decide (l.length=c.us.length))=true then Zv5 c 0 l (Zau c) else none
def Zzp (w w':World) (c:Crw) (l:List Int) (e:Ending):Prop:=Below w.heap.size w w'∧match Zyo c l with
 | none=>e = .returned (.tuple #[.slice none 0 0,.bool false])
 | some C=>if Zcg (Zat c C)=true then ∃ o cap,e = .returned (.tuple #[.slice o (Zax c c.us.length 0 C []).length cap,.bool true])∧OwnK w' w.heap.size 1 (Zax c c.us.length 0 C []).length cap (Za4 (Zax c c.us.length 0 C [])) o
  else e = .returned (.tuple #[.slice none 0 0,.bool false])
theorem Zyp (w:World) (c:Crw) (cs:List Value) (B:Nat) (l:List Int) (lo:Option Addr) (lc:Nat) (ha:ArgC w c cs B) (hl:Zak Zbf w lo l) :
  Calls Tryz.prog 23 #[.agg cs.toArray,.slice lo l.length lc] w fun e w'=>Zzp w w' c l e:=by
 have HOP:=ħ (fun W (hW:Below w.heap.size w W)=>Zda W c cs (ha.below hW).crw B (ha.below hW).tab ha.ok)
 have HNU:=ha.nu
 have HRK:=ħ (fun (h:Zam c=true)=>Zar h (by omega))
 have HVP:=ħ (fun (h:Zam c=true)=>Zaq h)
 have HAC:=ħ ha
 have hnq0:=ha.ok.nq
 have hnm0:=ha.ok.nm
 have HPA:Hid (Zyo c l=if (Zam c&&decide (l.length=c.us.length))=true then Zv5 c 0 l (Zau c) else none):=ħ rfl
 have HNO:Hid (∀ w' e,Zyo c l=none→Below w.heap.size w w'→e = .returned (.tuple #[.slice none 0 0,.bool false])→Zzp w w' c l e):=ħ (fun w' e h hb he=>by unfold Zzp;rw[h];exact⟨hb,he⟩)
 have HYE:Hid (∀ w2 w' e C,Zyo c l=some C→Below w.heap.size w w2→Zgl w2 c C e w'→Zzp w w' c l e):=ħ (fun w2 w' e C h hb he=>by
  obtain⟨h1,h2⟩:=he
  refine⟨hb.trans (h1.mono hb.size),?_⟩
  rw[h]
  show if _ then _ else _
  by_cases hf:Zcg (Zat c C)=true
  ·rw[if_pos hf] at h2 ⊢
   obtain⟨o,cap,h3,h4⟩:=h2
   exact⟨o,cap,h3,h4.low hb.size⟩
  ·rw[if_neg hf] at h2 ⊢
   exact h2)
 have HFT:Hid (∀ e w2 w' C,Zgl w2 c C e w'→(∃ a b,e = .returned (.tuple #[a,b])) ):=ħ (fun e w2 w' C he=>by
  obtain⟨h1,h2⟩:=he
  by_cases hf:Zcg (Zat c C)=true
  ·rw[if_pos hf] at h2
   obtain⟨o,cap,h3,h4⟩:=h2
   exact⟨_,_,h3⟩
  ·rw[if_neg hf] at h2
   exact⟨_,_,h2⟩)
 have HLW:=ħ (fun W (hW:Below w.heap.size w W)=>hl.below hW)
 clear hl
 generalize Zyo c l=PA at *
 generalize hll:l.length=nl at *
 have HLL:=ħ hll
 clear hll
 obtain⟨qo,qc,mo,mc,uo,uc,rfl,hq0,hm0,hu0,-⟩:=ha.crw
 have HMW:=ħ (fun W (hW:Below w.heap.size w W)=>hm0.below hW)
 have HUW:=ħ (fun W (hW:Below w.heap.size w W)=>hu0.below hW)
 unfold Zvz at HOP
 clear ha hq0 hm0 hu0
 generalize hnq:c.qs.length=nq at *
 generalize hnm:c.ms.length=nm at *
 generalize hnu:c.us.length=nu at *
 have HQE:=ħ hnq
 have HME:=ħ hnm
 have HUE:=ħ hnu
 clear hnq hnm hnu
 generalize hvc:Zam c=vc at *
 have HVC:=ħ hvc
 clear hvc
 have X1:Hid (Zaf (w.alloc (.cells #[.slice qo nq qc,.slice mo nm mc,.slice uo nu uc] 26)) w.heap.size 26 [.slice qo nq qc,.slice mo nm mc,.slice uo nu uc]):=ħ (heap_alloc_new w _)
 have B1:=ħ ((Below.refl w.heap.size w).alloc (Nat.le_refl _) (.cells #[.slice qo nq qc,.slice mo nm mc,.slice uo nu uc] 26))
 go_enter Tryz.func23,Tryz.ntmps23
 go_upto_region 1 with (fail)
 generalize w.alloc (.cells #[.slice qo nq qc,.slice mo nm mc,.slice uo nu uc] 26)=w1 at *
 have c0:=X1.o.cell 0 _ rfl
 have c1:=X1.o.cell 1 _ rfl
 have c2:=X1.o.cell 2 _ rfl
 have HCL:=ħ (HOP.o w1 B1.o)
 clear HOP
 go_wp2_with fail
 refine HCL.o.mono ?_
 intro e w2 hq
 obtain⟨hres,b2⟩:=hq
 have B2:=ħ (B1.o.trans (b2.mono B1.o.size))
 have X2:=ħ (X1.o.step b2)
 have HSZ:Hid (w.heap.size<w2.heap.size):=ħ X2.o.lt
 clear b2 c0 c1 c2 B1 X1 HCL
 cases vc with
 | false =>
  rw[if_neg (by decide)] at hres
  subst hres
  have HPN:Hid (PA=none):=ħ (by rw[HPA.o];rfl)
  clear HPA
  go_wp2_with fail
  go_ret2
  exact HNO.o _ _ HPN.o B2.o rfl
 | true =>
  rw[if_pos rfl] at hres
  obtain⟨A,rfl,hR,-⟩:=hres
  have HR:=ħ hR
  have HOK:=ħ (HRK.o rfl)
  clear hR HRK
  have c2:=X2.o.cell 2 _ rfl
  by_cases hlu:nl=nu
  ·subst hlu
   have HPN:Hid (PA=Zv5 c 0 l (Zau c)):=ħ (by rw[HPA.o,decide_eq_true rfl];rfl)
   clear HPA
   go_wp2_with fail
   clear c2
   have HWZ:=ħ (Below.refl w2.heap.size w2)
   have HD0:Hid (Zv5 c 0 (l.drop 0) (Zau c)=PA):=ħ (by rw[List.drop_zero,HPN.o])
   go_loopw [27,6] (fun kv rv wr=>∃ (k X:Nat) (C:List (List Bool)),kv = .int .i64 k∧rv = .pointer (some ⟨X,0,none⟩)∧k≤nl∧Hid (Zv5 c k (l.drop k) C=PA)∧Hid (Za9 wr X c (Zaj c) C)∧Hid (ReckOk c C)∧Hid (Zaf wr w.heap.size 26 [.slice qo nq qc,.slice mo nm mc,.slice uo nl uc])∧Hid (Below w.heap.size w wr)) (fun k _ _=>(nl-intOf k).toNat)
   case atStart=>exact⟨0,A,Zau c,rfl,rfl,by omega,HD0,HR,HOK,X2,B2⟩
   case round =>
    clear HD0 HR HOK X2 B2 HWZ HPN HSZ
    obtain⟨k,X,C,rfl,rfl,hk,HD,HR,HOK,X2,B2⟩:=hrel
    have e2:IntKind.i64.wrap ((k:Int)+1)=((k+1:Nat):Int):=IntWalk.i64_in _ (by omega)
    by_cases hkn:k<nl
    ·have kk:(k:Int)<nl:=by omega
     obtain⟨m,hm⟩:∃ m,l[k]?=some m:=⟨_,List.getElem?_eq_getElem (by rw[HLL.o];exact hkn)⟩
     obtain⟨gl,ol,hlo,hgl,hlc⟩:=(HLW.o wr B2.o).at Zbe k m hm
     have l0:=hlc 0 _ rfl
     rw[Nat.mul_one,Nat.add_zero] at l0
     subst hlo
     have HDD:Hid (PA=if inB m (-1) ((nm:Int)-1)=true then Zv5 c (k+1) (l.drop (k+1)) (if m = -1 then C else Zbn c C k m.toNat) else none):=ħ (by
      rw[← HD.o,List.drop_eq_getElem_cons (by rw[HLL.o];exact hkn),← HME.o]
      have:l[k]'(by rw[HLL.o];exact hkn)=m:=(List.getElem?_eq_some_iff.1 hm).2
      rw[this]
      rfl)
     have c1:=X2.o.cell 1 _ rfl
     have ew:IntKind.i64.wrap ((nm:Int)-1)=(nm:Int)-1:=IntWalk.i64_in _ (by omega)
     have HWI:=ħ (Za8 m (-1) ((nm:Int)-1) wr)
     have HIN:Hid (inB m (-1) ((nm:Int)-1)=true→-1≤m∧m≤(nm:Int)-1):=ħ (fun h=>by
      unfold inB at h
      simpa using h)
     clear hm hlc hgl HD
     generalize inB m (-1) ((nm:Int)-1)=ib at *
     go_wp2_with fail
     refine HWI.o.mono ?_
     rintro e w4 ⟨rfl,rfl⟩
     clear HWI c1 l0
     cases ib with
     | false =>
      have HPN:Hid (PA=none):=ħ (by rw[HDD.o];rfl)
      clear HDD
      go_wp2_with fail
      go_ret2
      exact HNO.o _ _ HPN.o B2.o rfl
     | true =>
      obtain⟨hm1,hm2⟩:=HIN.o (by first | rfl | trivial)
      by_cases h1:m = -1
      ·subst h1
       have HD3:Hid (Zv5 c (k+1) (l.drop (k+1)) C=PA):=ħ (by rw[HDD.o];rfl)
       clear HDD HIN
       go_wp2_with fail
       go_roundw
       case rel=>exact⟨k+1,X,C,by go_num,rfl,by omega,HD3,HR,HOK,X2,B2⟩
       case measure=>simp only[intOf];omega
      ·obtain⟨j,rfl⟩:∃ j:Nat,m=(j:Int):=⟨m.toNat,by omega⟩
       have hj:j<nm:=by omega
       have HD3:Hid (Zv5 c (k+1) (l.drop (k+1)) (Zbn c C k j)=PA):=ħ (by rw[HDD.o,if_pos rfl,if_neg h1];rfl)
       have HFC:=ħ (Znk wr X c (Zaj c) C k j HR.o (by rw[HOK.o.len,HUE.o];exact hkn) (by rw[HME.o];exact hj) HOK.o.row (by rw[HOK.o.len,HUE.o];omega) (by rw[HME.o];omega))
       have HOK3:=ħ (HOK.o.fix k j)
       clear HDD HIN HR
       have hne:¬ ((j:Nat):Int) = -1:=by omega
       go_wp2_with fail
       refine HFC.o.mono ?_
       rintro e w5 ⟨X',rfl,hX,-,b5⟩
       have HX:=ħ hX
       have X5:=ħ (X2.o.step b5)
       have B5:=ħ (B2.o.trans (b5.mono B2.o.size))
       clear hX b5 HFC X2 B2 HOK
       go_wp2_with fail
       go_roundw
       case rel=>exact⟨k+1,X',Zbn c C k j,by go_num,rfl,by omega,HD3,HX,HOK3,X5,B5⟩
       case measure=>simp only[intOf];omega
    ·have kk:¬ (k:Int)<nl:=by omega
     obtain rfl:nl=k:=by omega
     have HPN:Hid (PA=some C):=ħ (by rw[← HD.o,List.drop_of_length_le (by rw[HLL.o];exact Nat.le_refl _)];rfl)
     have HFI:=ħ (Zmp wr X c (Zaj c) C HR.o HOK.o)
     clear HD HR
     go_wp2_with fail
     refine HFI.o.mono ?_
     intro e w3 hq
     have HQ:=ħ (HYE.o wr w3 e C HPN.o B2.o hq)
     obtain⟨a,b,rfl⟩:=HFT.o e wr w3 C hq
     clear hq HFI HYE HNO HFT
     go_wp2_with fail
     go_ret2
     exact HQ.o
  ·have HPN:Hid (PA=none):=ħ (by rw[HPA.o,decide_eq_false hlu];rfl)
   have hne:¬ ((nl:Nat):Int)=nu:=by omega
   clear HPA
   go_wp2_with fail
   go_ret2
   exact HNO.o _ _ HPN.o B2.o rfl
end
end Go.Proofs.YtbcgocpihobjnaaGreatDoor
