import Derived.Test.YtmkdfbelbcocpaaGreatDoorHP16
import Derived.Test.YtmkdfbelbcocpaaGreatDoorHP29
import Derived.Test.YtmkdfbelbcocpaaGreatDoorHP27
set_option linter.unusedVariables false
set_option linter.unusedSimpArgs false
set_option maxHeartbeats 16000000
set_option maxRecDepth 100000
namespace Go.Proofs.YtmkdfbelbcocpaaGreatDoor
section
open Go.RowKit
theorem results_tct2_row {P:Program} {fn:Func} {s p u v:Tmp} {ty:TypeId} (h:fn.results=#[.tmp s,.cell p ty,.tmp u,.tmp v]) (tmps:Array Value) (w:World) (g:Nat) (t:TypeId) (cs:Array Value) (fr:Nat×Nat) (d:TypeDesc)
  (hp:tmps.getD p undef = .pointer (some ⟨g,0,none⟩)) (hg:w.heap[g]?=some (.cells cs t fr))
  (hu:P.underlying ty=some d) (hd:(match d with | .struct _ | .array _ _=>true | _=>false)=true) (hi:(P.info? ty).map (·.size)=some cs.size) :
  (results fn tmps).run P w = .ok (.tuple #[tmps.getD s undef,.agg cs,tmps.getD u undef,tmps.getD v undef]) w:=by
 have hp':tmps[p]?.getD undef = .pointer (some ⟨g,0,none⟩):=by simpa using hp
 simp[results,h,hp',asAddr,run_loadVar_row w g t ty cs fr d hg hu hd hi]
def qN (ts:List Tok) (sz:Nat):PR (List Nat):=((.ok 0:StP).bind (takeP ts sz [113,117,101,115,116,105,111,110])).bind (nameP ts sz)
def qP (ts:List Tok) (sz:Nat):PR Prd:=((nxS (qN ts sz)).bind (takeP ts sz [123])).bind (someP ts (unitP ts sz (ts.length+1)))
def qE (ts:List Tok) (sz:Nat):StP:=(nxS (qP ts sz)).bind (takeP ts sz [125])
theorem quest_split (ts:List Tok) (sz:Nat):questP ts sz=(qN ts sz).bind (fun n=>(takeP ts sz [123] n.2).bind (fun j=>(someP ts (unitP ts sz (ts.length+1)) j).bind (fun p=>(takeP ts sz [125] p.2).bind (fun j =>
   if j<ts.length then .error (12,offP ts sz j)
   else if smallP p.1=true then .ok (n.1,p.1) else .error (6,0))))):=by
 unfold questP qN
 show _=((takeP ts sz [113,117,101,115,116,105,111,110] 0).bind (nameP ts sz)).bind _
 generalize takeP ts sz [113,117,101,115,116,105,111,110] 0=t
 cases t with
 | error z=>rfl
 | ok j=>rfl
theorem quest_err {ts:List Tok} {sz:Nat} {z:Int×Nat} (h:qE ts sz = .error z):questP ts sz = .error z:=by
 rw[quest_split]
 unfold qE qP at h
 generalize qN ts sz=N at *
 cases N with
 | error x =>
  have h0:(Except.error x:StP) = .error z:=h
  cases h0
  rfl
 | ok n =>
  have h1:(nxS ((takeP ts sz [123] n.2).bind (someP ts (unitP ts sz (ts.length+1))))).bind (takeP ts sz [125]) = .error z:=h
  show (takeP ts sz [123] n.2).bind _=_
  generalize takeP ts sz [123] n.2=t2 at *
  cases t2 with
  | error x =>
   have h0:(Except.error x:StP) = .error z:=h1
   cases h0
   rfl
  | ok j =>
   have h2:(nxS (someP ts (unitP ts sz (ts.length+1)) j)).bind (takeP ts sz [125]) = .error z:=h1
   show (someP ts (unitP ts sz (ts.length+1)) j).bind _=_
   generalize someP ts (unitP ts sz (ts.length+1)) j=t3 at *
   cases t3 with
   | error x =>
    have h0:(Except.error x:StP) = .error z:=h2
    cases h0
    rfl
   | ok p =>
    have h3:takeP ts sz [125] p.2 = .error z:=h2
    show (takeP ts sz [125] p.2).bind _=_
    rw[h3]
    rfl
theorem quest_ok {ts:List Tok} {sz j:Nat} (h:qE ts sz = .ok j):∃ n p,qN ts sz = .ok n∧qP ts sz = .ok p∧questP ts sz=if j<ts.length then .error (12,offP ts sz j) else if smallP p.1=true then .ok (n.1,p.1) else .error (6,0):=by
 rw[quest_split]
 unfold qE at h
 unfold qP at h ⊢
 generalize qN ts sz=N at *
 cases N with
 | error x=>cases h
 | ok n =>
  have h1:(nxS ((takeP ts sz [123] n.2).bind (someP ts (unitP ts sz (ts.length+1))))).bind (takeP ts sz [125]) = .ok j:=h
  refine⟨n,?_⟩
  show ∃ p,_∧(takeP ts sz [123] n.2).bind (someP ts (unitP ts sz (ts.length+1))) = .ok p∧(takeP ts sz [123] n.2).bind _=_
  generalize takeP ts sz [123] n.2=t2 at *
  cases t2 with
  | error x=>cases h1
  | ok i =>
   have h2:(nxS (someP ts (unitP ts sz (ts.length+1)) i)).bind (takeP ts sz [125]) = .ok j:=h1
   show ∃ p,_∧someP ts (unitP ts sz (ts.length+1)) i = .ok p∧(someP ts (unitP ts sz (ts.length+1)) i).bind _=_
   generalize someP ts (unitP ts sz (ts.length+1)) i=t3 at *
   cases t3 with
   | error x=>cases h2
   | ok p =>
    have h3:takeP ts sz [125] p.2 = .ok j:=h2
    refine⟨p,rfl,rfl,?_⟩
    show (takeP ts sz [125] p.2).bind _=_
    rw[h3]
    rfl
theorem SrcS.new {w:World} {B cap sz:Nat} {ao:Option Addr} {ts:List Tok} (h:OwnK w B 4 ts.length cap (ts.flatMap tokC) ao) :
  SrcS (w.alloc (.cells #[.slice ao ts.length cap,.int .i64 0,.int .i64 (sz:Int),.int .i64 0,.int .i64 0] 111)) w.heap.size ao cap ts sz (.ok 0):=by
 refine⟨Nat.zero_le _,0,heap_alloc_new w _,?_⟩
 by_cases h0:ts.length=0
 ·exact .inl (List.eq_nil_of_length_eq_zero h0)
 ·obtain⟨g,off,h1,h2,h3,h4⟩:=h.readsAt (by omega)
  exact .inr ⟨g,off,h1,by omega,by simp;omega,h4.of_block (Below.heap_alloc w _ g h3)⟩
theorem len_wd:∀ p,WdP p→LenP p
 | .mk k l r c ks,h=>by
  obtain⟨h1,h2⟩:=wd_kids h
  unfold LenP
  exact⟨by omega,(LenL_iff ks).2 (fun q hq=>len_wd q (h2 q hq))⟩
def set5 (w:World) (g:Nat) (a b c d e:Value):World:=((((((w.setCell ⟨g,0,none⟩ a).setCell ⟨g,1,none⟩ b).setCell ⟨g,2,none⟩ c).setCell ⟨g,3,none⟩ d).setCell ⟨g,4,none⟩ e)).drew
theorem HasV.set5 {w:World} {g:Nat} {t:TypeId} {cs:List Value} (h:HasV w g t cs) (hl:cs.length=5) (a b c d e:Value):HasV (set5 w g a b c d e) g t [a,b,c,d,e]:=by
 have h1:=(((((h.set 0 a).set 1 b).set 2 c).set 3 d).set 4 e).step ((Below.refl _ _).drew)
 match cs,hl with
 | [x0,x1,x2,x3,x4],_=>exact h1
theorem _root_.Go.RowKit.Below.set5 {B g:Nat} {w0 w:World} (h:Below B w0 w) (hg:B≤g) (a b c d e:Value):Below B w0 (set5 w g a b c d e) :=
 (((((h.cellAt g 0 hg a).cellAt g 1 hg b).cellAt g 2 hg c).cellAt g 3 hg d).cellAt g 4 hg e).drew
theorem PredC.set5 {w:World} {P:Nat→Prop} {p:Prd} {vs:List Value} {g:Nat} (h:PredC w P p vs) (hg:¬ P g) (a b c d e:Value):PredC (set5 w g a b c d e) P p vs :=
 (((((h.cellAt g 0 hg a).cellAt g 1 hg b).cellAt g 2 hg c).cellAt g 3 hg d).cellAt g 4 hg e).drew
theorem sparse_any (l:List Nat) (w:World) (hl:l.length≤1000000) (hb:∀ y∈l,y<256) :
  Calls Tryz.prog 18 #[.string (strN l)] w fun e w'=>ParseR w l e w':=by
 have SZ:=ħ (strN_size l)
 have HS:=ħ (fun (w:World)=>rscan_any l w hl hb)
 have HTS:=ħ (scanF_ok l hb)
 have HN:=ħ (scanF_count l)
 obtain⟨ts,a1,x,hsc⟩:∃ ts a x,scanF l=(ts,a,x):=⟨_,_,_,rfl⟩
 rw[hsc] at HTS HN
 have HSC:=ħ hsc
 clear hb hsc
 have Z0:Hid (HasV (w.alloc (.cells #[.int .i64 0,.string ⟨#[]⟩,.string ⟨#[]⟩,.int .i64 0,.slice none 0 0] 25)) w.heap.size 25 pred0):=ħ (HasV.new w _ pred0)
 have B0:=ħ ((Below.refl w.heap.size w).alloc (Nat.le_refl _) (.cells #[.int .i64 0,.string ⟨#[]⟩,.string ⟨#[]⟩,.int .i64 0,.slice none 0 0] 25))
 have SZ':=SZ.o
 generalize strN l=q at *
 go_enter Tryz.func18,Tryz.ntmps18
 go_wp2_with fail
 generalize w.alloc (.cells #[.int .i64 0,.string ⟨#[]⟩,.string ⟨#[]⟩,.int .i64 0,.slice none 0 0] 25)=w0 at *
 refine (HS.o w0).mono ?_
 rintro e w1 hsw
 unfold ScanW at hsw
 rw[HSC.o] at hsw
 obtain⟨ao,cap,rfl,ho,b1⟩:=hsw
 have OWN:=ħ ho
 have Z1:=ħ (Z0.o.step b1)
 have B1:=ħ (B0.o.trans (b1.mono B0.o.size))
 clear ho b1 HS Z0 B0
 by_cases hx:x=0
 ·have HX:=ħ hx
  subst hx
  have HP1:Hid (∀ e,questP ts l.length = .error e→parseF l=([],prd0,e.2,e.1)):=ħ (fun e he=>parse_err HSC.o rfl he)
  have HP2:Hid (∀ r,questP ts l.length = .ok r→parseF l=(r.1,r.2,0,0)):=ħ (fun r he=>parse_ok HSC.o rfl he)
  go_upto_region 5 with (fail)
  have P2:=ħ (SrcS.new (sz:=l.length) OWN.o)
  have b2:=(Below.refl w1.heap.size w1).alloc (Nat.le_refl _) (.cells #[.slice ao ts.length cap,.int .i64 0,.int .i64 (l.length:Int),.int .i64 0,.int .i64 0] 111)
  have Z2:=ħ (Z1.o.step b2)
  have B2:=ħ (B1.o.trans (b2.mono B1.o.size))
  have HR:Hid (w.heap.size<w1.heap.size):=ħ Z1.o.lt
  clear b2 Z1 B1 OWN
  generalize w1.heap.size=R at *
  generalize w1.alloc (.cells #[.slice ao ts.length cap,.int .i64 0,.int .i64 (l.length:Int),.int .i64 0,.int .i64 0] 111)=w2 at *
  generalize l.length=sz at *
  have HN2:Hid (ts.length≤1000000):=ħ (Nat.le_trans HN.o (by decide))
  have HTO:Hid (∀ t∈ts,TokOk t):=HTS
  have HNN:Hid (ts.length≤4000):=HN
  clear HN HTS
  have KT1:=ħ (take_s w2 R ao cap ts sz (.ok 0) [113,117,101,115,116,105,111,110] P2.o HN2.o HTO.o (by decide))
  go_wp2_with fail
  refine KT1.o.mono ?_
  rintro e w3 ⟨rfl,h3,o3⟩
  have Z3:=ħ (Z2.o.only o3 (by have:=HR.o;omega))
  have B3:=ħ (B2.o.trans (o3.below B2.o.size (fun g (e:g=R)=>by have:=HR.o;omega)))
  have KN:=ħ (name_s w3 R ao cap ts sz _ h3 HN2.o HTO.o)
  clear h3 o3 Z2 B2 P2 KT1
  obtain⟨N,hN⟩:∃ N,qN ts sz=N:=⟨_,rfl⟩
  rw[show ((Except.ok 0:StP).bind (takeP ts sz [113,117,101,115,116,105,111,110])).bind (nameP ts sz)=N from hN] at KN
  go_wp2_with fail
  refine KN.o.mono ?_
  rintro e w4 ⟨rfl,h4,o4⟩
  have Z4:=ħ (Z3.o.only o4 (by have:=HR.o;omega))
  have B4:=ħ (B3.o.trans (o4.below B3.o.size (fun g (e:g=R)=>by have:=HR.o;omega)))
  have KT2:=ħ (take_s w4 R ao cap ts sz _ [123] h4 HN2.o HTO.o (by decide))
  clear h4 o4 Z3 B3 KN
  obtain⟨s5,hs5⟩:∃ s,(nxS N).bind (takeP ts sz [123])=s:=⟨_,rfl⟩
  rw[hs5] at KT2
  go_wp2_with fail
  refine KT2.o.mono ?_
  rintro e w5 ⟨rfl,h5,o5⟩
  have Z5:=ħ (Z4.o.only o5 (by have:=HR.o;omega))
  have B5:=ħ (B4.o.trans (o5.below B4.o.size (fun g (e:g=R)=>by have:=HR.o;omega)))
  have RL5:=ħ h5.lt
  have KS:=ħ (ssome_any w5 R ao cap ts sz s5 (allP ts (unitP ts sz (ts.length+1))) 0 h5 HN2.o HTO.o (fun _ _=>Nat.zero_le _) (allP_ok (unitP_ok HTO.o _)) (fun W s hs hW=>by
   have:=sall_any W R ao cap ts sz s (unitP ts sz (ts.length+1)) 0 hW HN2.o HTO.o hs (unitP_ok HTO.o _) (fun W' s' hs' hW'=>sunit_any R ao cap ts sz HN2.o HTO.o (ts.length+1) W' s' (fun k _=>by omega) hW')
   cases s with
   | error z=>exact this
   | ok k=>exact this))
  have HPP:Hid ((s5.bind fun i=>listP ts [111,114] (allP ts (unitP ts sz (ts.length+1))) (ts.length+1) i []).bind (fun r=>(.ok (oneP 2 r.1,r.2):PR Prd))=qP ts sz):=ħ (by
   show _=((nxS (qN ts sz)).bind (takeP ts sz [123])).bind (someP ts (unitP ts sz (ts.length+1)))
   rw[hN,hs5]
   cases s5 with
   | error z=>rfl
   | ok k=>rfl)
  rw[HPP.o] at KS
  have HQ1:Hid (∀ z,qE ts sz = .error z→questP ts sz = .error z):=ħ (fun z=>quest_err)
  have HQ2:Hid (∀ j,qE ts sz = .ok j→∃ n p,N = .ok n∧qP ts sz = .ok p∧questP ts sz=if j<ts.length then .error (12,offP ts sz j) else if smallP p.1=true then .ok (n.1,p.1) else .error (6,0)):=ħ (fun j hj=>by
   obtain⟨n,p,h1,h2⟩:=quest_ok hj
   exact⟨n,p,hN.symm.trans h1,h2⟩)
  have HEQ:Hid (qE ts sz=(nxS (qP ts sz)).bind (takeP ts sz [125])):=ħ rfl
  generalize qP ts sz=PP at *
  generalize qE ts sz=s7 at *
  clear h5 o5 Z4 B4 KT2 hs5 hN HPP
  go_wp2_with fail
  refine KS.o.mono ?_
  rintro e w6 hq
  obtain⟨p,vs,rfl,hpc,hwd,hvq,hsrc,hon⟩:=hq.get
  have PC:=ħ (hpc.mono (P':=fun g=>R<g) (fun g hg _=>Nat.lt_of_lt_of_le RL5.o hg))
  have HL5:=ħ hpc.len
  have ONE:=ħ hpc.one
  have HWD:=ħ hwd
  have HVQ:=ħ hvq
  have Z6:=ħ (Z5.o.only hon (by have:=HR.o;omega))
  have B6:=ħ (B5.o.trans (hon.below B5.o.size (fun g (e:g=R)=>by have:=HR.o;omega)))
  have P6:=ħ hsrc
  clear hq hpc hwd hvq hsrc hon Z5 B5 KS
  have A7:=ħ ((Below.refl w6.heap.size w6).alloc (Nat.le_refl _) (.cells pred0.toArray 25))
  go_wp2_with (refine wpList_store_abs rfl 25 (.tmp 11) (.tmp 35) rfl w6.heap.size vs.toArray ?s1 ?s2 25 _ (heap_alloc_new w6 _) (inf_pred _ HL5.o) ?s3 (ONE.o) ?_;(case s1=>rfl);(case s2=>rfl);(case s3=>rw[List.size_toArray,List.size_toArray,HL5.o];rfl);intro w7 s7' u7;have S7:Hid (HasV w7 w6.heap.size 25 vs):=ħ s7';have C7:=ħ (u7.below A7.o (Nat.le_refl _));clear s7' u7)
  have P7:=ħ (P6.o.step C7.o)
  have Z7:=ħ (Z6.o.step C7.o)
  have B7:=ħ (B6.o.trans (C7.o.mono B6.o.size))
  have PC7:=ħ (PC.o.below C7.o)
  have G6:Hid (R<w6.heap.size):=ħ P6.o.lt
  clear P6 Z6 B6 A7 C7 PC
  generalize w6.heap.size=X at *
  have KT3:=ħ (take_s w7 R ao cap ts sz _ [125] P7.o HN2.o HTO.o (by decide))
  rw[← HEQ.o] at KT3
  refine KT3.o.mono ?_
  rintro e w8 ⟨rfl,h8,o8⟩
  have P8:=ħ h8
  have Z8:=ħ (Z7.o.only o8 (by have:=HR.o;omega))
  have B8:=ħ (B7.o.trans (o8.below B7.o.size (fun g (e:g=R)=>by have:=HR.o;omega)))
  have S8:=ħ (S7.o.only o8 (by have:=G6.o;omega))
  have PC8:=ħ (PredC.keep (P':=fun g=>R<g) (fun g hg hl=>o8.block g hl (by omega)) o8.size (fun g hg _=>hg) p vs PC7.o)
  clear h8 o8 P7 Z7 B7 S7 PC7 KT3 HEQ
  cases s7 with
  | error z =>
   have HE:=ħ (HP1.o z (HQ1.o z rfl))
   obtain⟨hz0,i4,hi4,hs4⟩:=P8.o
   have hzb:(z.1==0)=false:=beq_eq_false_iff_ne.mpr hz0
   have hzc:(z.1 != 0)=true:=bne_iff_ne.mpr hz0
   obtain⟨d0,d1,d2,d3,d4⟩:=hs4.cells
   clear d0 d1 d2 hs4 hz0 hi4 HQ1 HQ2 HP1 HP2
   go_upto_region 13 with (fail)
   have z0:=Z8.o.cell 0 _ rfl
   have z1:=Z8.o.cell 1 _ rfl
   have z2:=Z8.o.cell 2 _ rfl
   have z3:=Z8.o.cell 3 _ rfl
   have z4:=Z8.o.cell 4 _ rfl
   have y0:=Z8.o.warm 0
   have y1:=Z8.o.warm 1
   have y2:=Z8.o.warm 2
   have y3:=Z8.o.warm 3
   have y4:=Z8.o.warm 4
   have n1:¬ R=w.heap.size:=by have:=HR.o;omega
   have n2:¬ w.heap.size=R:=by have:=HR.o;omega
   go_region
   go_wp2_with fail
   exact bodyPost_ret (results_tct2_row (s:=2) (p:=3) (u:=4) (v:=5) (by kernel_rfl) _ _ w.heap.size 25 pred0.toArray (0,0) _ rfl (Z8.o.set5 rfl _ _ _ _ _) Tryz.underlying25 rfl (inf_pred _ rfl)) rfl (parR_fail HE.o (B8.o.set5 (Nat.le_refl _) _ _ _ _ _))
  | ok j =>
   obtain⟨n,p2,hN,hPP,hq⟩:=HQ2.o j rfl
   obtain⟨y,hy⟩:=P8.o.at
   have HJ:=ħ P8.o.1
   obtain⟨d0,d1,d2,d3,d4⟩:=hy.cells
   have hp2:p2.1=p:=HVQ.o p2 hPP
   rw[hp2] at hq
   have HQ:=ħ hq
   have HNV:Hid (nmeV N=n.1):=ħ (by rw[hN];rfl)
   clear hq hN hPP hp2 hy d0 d2 d4 HQ1 HQ2
   by_cases hj:j<ts.length
   ·have ij:(j:Int)<ts.length:=by omega
    have HE:=ħ (HP1.o _ (by rw[HQ.o,if_pos hj]))
    have KF:=ħ (fail_s w8 R ao cap ts sz (.ok j) j 12 P8.o (by decide) HJ.o HN2.o)
    clear hj HQ HP1 HP2
    go_wp2_with fail
    refine KF.o.mono ?_
    rintro e wa ⟨rfl,ha,oa⟩
    have Za:=ħ (Z8.o.only oa (by have:=HR.o;omega))
    have Ba:=ħ (B8.o.trans (oa.below B8.o.size (fun g (e:g=R)=>by have:=HR.o;omega)))
    clear d1 d3
    obtain⟨hz0,i4,hi4,hs4⟩:=ha
    obtain⟨d0,d1,d2,d3,d4⟩:=hs4.cells
    clear oa Z8 B8 P8 KF d0 d1 d2 hs4 hz0 hi4
    go_upto_region 13 with (fail)
    have z0:=Za.o.cell 0 _ rfl
    have z1:=Za.o.cell 1 _ rfl
    have z2:=Za.o.cell 2 _ rfl
    have z3:=Za.o.cell 3 _ rfl
    have z4:=Za.o.cell 4 _ rfl
    have y0:=Za.o.warm 0
    have y1:=Za.o.warm 1
    have y2:=Za.o.warm 2
    have y3:=Za.o.warm 3
    have y4:=Za.o.warm 4
    have n1:¬ R=w.heap.size:=by have:=HR.o;omega
    have n2:¬ w.heap.size=R:=by have:=HR.o;omega
    go_region
    go_wp2_with fail
    exact bodyPost_ret (results_tct2_row (s:=2) (p:=3) (u:=4) (v:=5) (by kernel_rfl) _ _ w.heap.size 25 pred0.toArray (0,0) _ rfl (Za.o.set5 rfl _ _ _ _ _) Tryz.underlying25 rfl (inf_pred _ rfl)) rfl (parR_fail (e:=(12,offP ts sz j)) HE.o (Ba.o.set5 (Nat.le_refl _) _ _ _ _ _))
   ·have ij:¬ ((j:Int)<ts.length):=by omega
    have HEQ:=ħ (by rw[HQ.o,if_neg hj]:questP ts sz=if smallP p=true then .ok (n.1,p) else .error (6,0))
    clear HQ hj
    have KF:=ħ (few_any p 100 12 (by decide) (by decide) w8 _ vs (len_wd p HWD.o) PC8.o)
    rw[few_small] at KF
    go_wp2_with (refine wpList_load_row rfl 25 (.tmp 11) rfl X ?y1 25 vs.toArray (0,0) _ S8.o Tryz.underlying25 rfl (inf_pred _ HL5.o) ?_;(case y1=>rfl))
    refine KF.o.mono ?_
    rintro e wa ⟨rfl,ba⟩
    have Za:=ħ (Z8.o.step ba)
    have Ba:=ħ (B8.o.trans (ba.mono B8.o.size))
    have Sa:=ħ (S8.o.step ba)
    have PCa:=ħ (PC8.o.below ba)
    clear ba Z8 B8 S8 PC8 P8 KF d1 d3
    cases hsm:smallP p with
    | false =>
     have HE:=ħ (HP1.o _ (by rw[HEQ.o,if_neg (by rw[hsm];simp)]))
     clear hsm HP1 HP2 HEQ
     go_wp2_with (refine wpList_store_abs rfl 25 (.tmp 3) (.tmp 75) rfl w.heap.size pred0.toArray ?s1 ?s2 25 _ Za.o (inf_pred _ rfl) rfl (by simp[pred0,Value.oneCell']) ?_;(case s1=>rfl);(case s2=>rfl);intro w9 s9 u9;have S9:=ħ s9;have U9:=ħ u9;clear s9 u9)
     exact bodyPost_ret (results_tct2_row (s:=2) (p:=3) (u:=4) (v:=5) (by kernel_rfl) _ _ w.heap.size 25 pred0.toArray (0,0) _ rfl S9.o Tryz.underlying25 rfl (inf_pred _ rfl)) rfl (parR_fail (e:=(6,0)) HE.o (U9.o.below Ba.o (Nat.le_refl _)))
    | true =>
     have HE:=ħ (HP2.o _ (by rw[HEQ.o,if_pos hsm]))
     clear hsm HP1 HP2 HEQ
     obtain⟨xa,xn,xc,hvf,-⟩:=PCa.o.form
     subst hvf
     have x0:=Sa.o.cell 0 _ rfl
     have x1:=Sa.o.cell 1 _ rfl
     have x2:=Sa.o.cell 2 _ rfl
     have x3:=Sa.o.cell 3 _ rfl
     have x4:=Sa.o.cell 4 _ rfl
     have z0:=Za.o.cell 0 _ rfl
     have z1:=Za.o.cell 1 _ rfl
     have z2:=Za.o.cell 2 _ rfl
     have z3:=Za.o.cell 3 _ rfl
     have z4:=Za.o.cell 4 _ rfl
     have y0:=Za.o.warm 0
     have y1:=Za.o.warm 1
     have y2:=Za.o.warm 2
     have y3:=Za.o.warm 3
     have y4:=Za.o.warm 4
     go_upto_region 16 with (fail)
     go_region
     go_wp2_with fail
     exact bodyPost_ret (results_tct2_row (s:=2) (p:=3) (u:=4) (v:=5) (by kernel_rfl) _ _ w.heap.size 25 _ (0,0) _ rfl (Za.o.set5 rfl _ _ _ _ _) Tryz.underlying25 rfl (inf_pred _ rfl)) rfl (by rw[HNV.o];exact parR_good HE.o (Ba.o.set5 (Nat.le_refl _) _ _ _ _ _) ⟨_,rfl,(PCa.o.set5 (by have:=HR.o;omega) _ _ _ _ _).mono (fun g hg _=>by have:=HR.o;omega)⟩)
 ·have hx2:(x != 0)=true:=by rw[bne_iff_ne];exact hx
  have HP:=ħ (parse_scan HSC.o hx)
  clear hx
  go_wp2_with (refine wpList_store_abs rfl 25 (.tmp 3) (.tmp 20) rfl w.heap.size pred0.toArray ?s1 ?s2 25 _ Z1.o (inf_pred _ rfl) rfl (by simp[pred0,Value.oneCell']) ?_;(case s1=>rfl);(case s2=>rfl);intro w9 s9 u9;have S9:=ħ s9;have U9:=ħ u9;clear s9 u9)
  exact bodyPost_ret (results_tct2_row (s:=2) (p:=3) (u:=4) (v:=5) (by kernel_rfl) _ _ w.heap.size 25 pred0.toArray (0,0) _ rfl S9.o Tryz.underlying25 rfl (inf_pred _ rfl)) rfl (parR_fail (e:=(x,a1)) HP.o (U9.o.below B1.o (Nat.le_refl _)))
end
section
open Go.RowKit Go.Sort
theorem askparses_walk (s:List Nat) (w:World) (B:Nat) (hG:Good w B) (hsb:∀ y∈s,y<256) :
  Calls Tryz.prog 3 #[.string (strN s)] w fun e w'=>e = .returned (.bool true)∧Below w.heap.size w w':=by
 have HSA:=ħ (sane5_any w B hG)
 have HG:=ħ (fun W (hW:Below w.heap.size w W)=>hG.step hW)
 have HSB:=ħ hsb
 have hz2:=strN_size s
 clear hsb hG
 obtain⟨ls,hls⟩:∃ ls,s.length=ls:=⟨_,rfl⟩
 have HLS:=ħ hls
 rw[hls] at hz2
 clear hls
 obtain⟨ys,hys⟩:∃ ys,strN s=ys:=⟨_,rfl⟩
 have HYS:=ħ hys
 rw[hys] at hz2 ⊢
 clear hys
 go_enter Tryz.func3,Tryz.ntmps3
 go_wp2_with fail
 refine HSA.o.mono ?_
 rintro e w2 ⟨rfl,b2⟩
 have B2:=ħ b2
 clear b2 HSA
 by_cases h700:700<ls
 ·have h700':(700:Int)<(ls:Int):=by omega
  go_wp2
  go_ret
  exact⟨rfl,B2.o⟩
 ·have h700':¬ (700:Int)<(ls:Int):=by omega
  have HS700:Hid (s.length≤1000000):=ħ (by have:=HLS.o;omega)
  have HPS:=ħ (fun W (hW:Below w.heap.size w W)=>parse_any s W B (HG.o W hW).tab HS700.o HSB.o)
  have HPR:=ħ (fun W=>sparse_any s W HS700.o HSB.o)
  have HV1:=ħ (fun W (hW:Below w.heap.size w W)=>vname_any s W B (HG.o W hW).tab HS700.o HSB.o)
  have HV2:=ħ (fun W=>rvname_any s W HS700.o HSB.o)
  have HVS:Hid (validP (parseF s).2.1=true):=ħ (back_valid HSB.o)
  unfold ParseR at HPS HPR
  rw[HYS.o] at HPS HPR HV1 HV2
  clear h700 HYS HLS HS700
  generalize (parseF s).1=pn at *
  generalize hpq:(parseF s).2.1=pq at *
  generalize (parseF s).2.2.1=pa at *
  generalize (parseF s).2.2.2=pe at *
  generalize validN s=vn at *
  clear hpq HSB
  generalize strN pn=yn at *
  have HFQ:=ħ (fun W P vs h=>few_true pq 100 12 (by omega) (by omega) HVS.o (by omega) (by omega) W P vs h)
  have HSQ:=ħ (fun W P P' vs us h h'=>same_self pq W P P' vs us (by have:=small_of HVS.o;omega) (byt_form pq (valid_form HVS.o)) h h')
  go_wp2_with fail
  refine (HPS.o w2 B2.o).mono ?_
  rintro e w3 ⟨va,rfl,hva,b3⟩
  have B3:=ħ (B2.o.trans (b3.mono B2.o.size))
  obtain⟨va1,va2,va3,rfl,hpv⟩:=PredV.open hva
  have PA:=ħ hpv
  clear hpv hva b3 HPS B2
  have bx:=(Below.refl w3.heap.size w3).alloc (Nat.le_refl _) (.cells #[.int .i64 pq.k,.string (strN pq.l),.string (strN pq.r),.int .i64 pq.c,.slice va1 va2 va3] 25)
  have V4:Hid (HasV (w3.alloc (.cells #[.int .i64 pq.k,.string (strN pq.l),.string (strN pq.r),.int .i64 pq.c,.slice va1 va2 va3] 25)) w3.heap.size 25 [.int .i64 pq.k,.string (strN pq.l),.string (strN pq.r),.int .i64 pq.c,.slice va1 va2 va3]):=ħ (heap_alloc_new _ _)
  have B4:=ħ (B3.o.trans (bx.mono B3.o.size))
  have PA4:=ħ (PA.o.below bx)
  clear bx B3 PA
  go_upto_region 5 with (fail)
  generalize w3.alloc (.cells #[.int .i64 pq.k,.string (strN pq.l),.string (strN pq.r),.int .i64 pq.c,.slice va1 va2 va3] 25)=w4 at *
  generalize w3.heap.size=A1 at *
  go_wp2_with fail
  refine (HPR.o w4).mono ?_
  rintro e w5 ⟨vb,rfl,hvb,b5⟩
  have B5:=ħ (B4.o.trans (b5.mono B4.o.size))
  have V5:=ħ (V4.o.step b5)
  have PA5:=ħ (PA4.o.below b5)
  obtain⟨vb1,vb2,vb3,rfl,hpv⟩:=PredV.open hvb
  have PB:=ħ hpv
  clear hpv hvb b5 HPR B4 V4 PA4
  have bx:=(Below.refl w5.heap.size w5).alloc (Nat.le_refl _) (.cells #[.int .i64 pq.k,.string (strN pq.l),.string (strN pq.r),.int .i64 pq.c,.slice vb1 vb2 vb3] 25)
  have U6:Hid (HasV (w5.alloc (.cells #[.int .i64 pq.k,.string (strN pq.l),.string (strN pq.r),.int .i64 pq.c,.slice vb1 vb2 vb3] 25)) w5.heap.size 25 [.int .i64 pq.k,.string (strN pq.l),.string (strN pq.r),.int .i64 pq.c,.slice vb1 vb2 vb3]):=ħ (heap_alloc_new _ _)
  have B6:=ħ (B5.o.trans (bx.mono B5.o.size))
  have V6:=ħ (V5.o.step bx)
  have PA6:=ħ (PA5.o.below bx)
  have PB6:=ħ (PB.o.below bx)
  clear bx B5 V5 PA5 PB
  go_upto_region 6 with (fail)
  generalize w5.alloc (.cells #[.int .i64 pq.k,.string (strN pq.l),.string (strN pq.r),.int .i64 pq.c,.slice vb1 vb2 vb3] 25)=w6 at *
  generalize w5.heap.size=A2 at *
  have HF6:=ħ (HFQ.o w6 _ _ PA6.o)
  have HS7:=ħ (fun W (hW:Below w6.heap.size w6 W)=>HSQ.o W _ _ _ _ (PA6.o.below hW) (PB6.o.below hW))
  clear HFQ HSQ PA6 PB6 HVS
  generalize pq.k=u0 at *
  generalize strN pq.l=u1 at *
  generalize strN pq.r=u2 at *
  generalize pq.c=u3 at *
  go_wp2_with (refine wpList_load_wanted (by rfl) 25 (.tmp 5) rfl A1 (by rfl) 25 #[.int .i64 u0,.string u1,.string u2,.int .i64 u3,.slice va1 va2 va3] (0,0) _ V6.o Tryz.underlying25 rfl (inf_pred _ rfl) ?_)
  refine HF6.o.mono ?_
  rintro e w7 ⟨rfl,b7⟩
  have B7:=ħ (B6.o.trans (b7.mono B6.o.size))
  have V7:=ħ (V6.o.step b7)
  have U7:=ħ (U6.o.step b7)
  have HS8:=ħ (HS7.o w7 b7)
  clear b7 B6 V6 U6 HF6 HS7
  go_wp2_with (first | (refine wpList_load_wanted (by rfl) 25 (.tmp 5) rfl A1 (by rfl) 25 #[.int .i64 u0,.string u1,.string u2,.int .i64 u3,.slice va1 va2 va3] (0,0) _ V7.o Tryz.underlying25 rfl (inf_pred _ rfl) ?_) | (refine wpList_load_wanted (by rfl) 25 (.tmp 9) rfl A2 (by rfl) 25 #[.int .i64 u0,.string u1,.string u2,.int .i64 u3,.slice vb1 vb2 vb3] (0,0) _ U7.o Tryz.underlying25 rfl (inf_pred _ rfl) ?_))
  refine HS8.o.mono ?_
  rintro e w8 ⟨rfl,b8⟩
  have B8:=ħ (B7.o.trans (b8.mono B7.o.size))
  clear b8 B7 V7 U7 HS8
  go_wp2_with fail
  refine (HV1.o w8 B8.o).mono ?_
  rintro e w9 ⟨rfl,b9⟩
  have B9:=ħ (B8.o.trans ((below_dn b9).mono B8.o.size))
  clear b9 B8 HV1
  go_wp2_with fail
  refine (HV2.o w9).mono ?_
  rintro e wa ⟨rfl,ba⟩
  have Ba:=ħ (B9.o.trans (ba.mono B9.o.size))
  clear ba B9 HV2
  have hvv:(vn==vn)=true:=beq_self_eq_true vn
  go_wp2
  go_ret
  exact⟨ret_bool (by simp),Ba.o⟩
end
end Go.Proofs.YtmkdfbelbcocpaaGreatDoor
