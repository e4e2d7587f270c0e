import Derived.Test.YtmkdfbelbcocpaaGreatDoorRows
import Derived.ProofKit
import Derived.LaidMore
import Derived.OpenShut
import Derived.Stop.Joined
import Derived.Carry
import Derived.Lib.LaidTab
import Derived.Lib.SmallJoins
import Derived.Shelf.Vars
import Derived.HandedShaped
import Derived.Test.YtmkdfbelbcocpaaGreatDoorHP27
import Derived.Test.YtmkdfbelbcocpaaGreatDoorHP31
set_option linter.unusedVariables false
set_option linter.unusedSimpArgs false
set_option maxRecDepth 100000
namespace Go.Proofs.YtmkdfbelbcocpaaGreatDoor
section
open Go Go.ChangeShapes Go.WideShapes Go.ChangeAt Go.WideMaps Go.WideElems Go.RowKit Go.Joins
def laidL:List (String×DataW Unit):=[("math/bits.deBruijn32tab",Rows.laid_math_bits_deBruijn32tab),("math/bits.deBruijn64tab",Rows.laid_math_bits_deBruijn64tab),("internal/strconv.uint64pow10",Rows.laid_internal_strconv_uint64pow10),("cloak/base.signs",Rows.laid_cloak_base_signs),("cloak/ask.reserved",Rows.laid_cloak_ask_reserved)]
theorem own:ownKnob Tryz.prog.godebug=none:=by kernel_rfl
theorem gPow:Tryz.prog.globalNamed "internal/strconv.uint64pow10"=some 3:=by kernel_rfl
theorem tPow:(Tryz.prog.globals[(3:Nat)]?).map (·.type)=some 327:=by kernel_rfl
theorem gSgn:Tryz.prog.globalNamed "cloak/base.signs"=some 1:=by kernel_rfl
theorem tSgn:(Tryz.prog.globals[(1:Nat)]?).map (·.type)=some 220:=by kernel_rfl
theorem gRes:Tryz.prog.globalNamed "cloak/ask.reserved"=some 0:=by kernel_rfl
theorem tRes:(Tryz.prog.globals[(0:Nat)]?).map (·.type)=some 59:=by kernel_rfl
theorem gB64:Tryz.prog.globalNamed "math/bits.deBruijn64tab"=some 5:=by kernel_rfl
section
variable {H:Type} {enc:TypeId×Value→H} {P:Program} {W:World}
theorem cells_of_strs {base:Nat} {sp:Nat→Bool} {held:Bool} {fuel:Nat} {t e:TypeId} {n:Nat} {cs:List Value} {zs:List (List UInt8)} {p:List MemPlace}
  (ht:P.underlying t=some (.array n e)) (he:P.underlying e=some .string) (hce:P.cellsOf e=1) (hct:P.cellsOf t=n)
  (h:DataW.trod enc P W base sp held fuel t cs=some (.agg (zs.map fun z=>.lit (.string z)),p)):cs=zs.map fun z=>Value.string ⟨z.toArray⟩:=by
 obtain⟨xs,m,-,hx,hl,hxl,hf⟩:=DataW.trod_array ht h
 have hxs:xs.map (·.1)=zs.map fun z=>(DataW.lit (.string z):DataW H):=by
  have:=congrArg Prod.fst hx
  simpa using this.symm
 have hzl:zs.length=n:=by
  have:=congrArg List.length hxs
  simp at this
  omega
 rw[hct] at hl
 apply List.ext_getElem?
 intro i
 by_cases hi:i<n
 ·have h1:=hf i hi
  rw[hce,Nat.mul_one,List.getElem?_eq_getElem (by omega)] at h1
  obtain⟨s,hc,hd,_⟩:=DataW.trod_string he h1
  have h2:cs[i]?=some (.string s):=by
   have:=congrArg (·[0]?) hc
   simpa [List.getElem?_take,List.getElem?_drop] using this
  have h3:(xs.map (·.1))[i]?=some (DataW.lit (.string s.data.toList):DataW H):=by
   rw[List.getElem?_map,List.getElem?_eq_getElem (by omega),hd]
   rfl
  rw[hxs,List.getElem?_map] at h3
  obtain⟨z,hz,hzz⟩:=Option.map_eq_some_iff.1 h3
  injection hzz with hzz
  injection hzz with hzz
  rw[h2,List.getElem?_map,hz,hzz]
  rfl
 ·rw[List.getElem?_eq_none (by omega),List.getElem?_eq_none (by simp;omega)]
end
theorem signs_eq:(Rows.laid_cloak_base_signs:DataW Unit) = .agg (sgnsP.map fun s=>.lit (.string (s.map UInt8.ofNat))):=by kernel_rfl
theorem res_eq:(Rows.laid_cloak_ask_reserved:DataW Unit) = .slice (wordsL.map fun s=>.lit (.string (s.map UInt8.ofNat))) []:=by kernel_rfl
theorem pow_eq:(Rows.laid_internal_strconv_uint64pow10:DataW Unit)=Lib.tabData .u64 Lib.pow10Tab:=by kernel_rfl
theorem good_of_laid {W:World} (h:laidMetH Tryz.prog laidL W) (hs:W.ShapedOpen Tryz.prog):Good W W.heap.size:=by
 rw[MakeChecks.laidMetH_plain _ _ _ (by kernel_rfl)] at h
 obtain⟨ps,h,-,-⟩:=h
 obtain⟨g1,t1,cs1,f1,p1,q1,hg1,ht1,hv1,hd1,h,-⟩:=h
 obtain⟨g2,t2,cs2,f2,p2,q2,hg2,ht2,hv2,hd2,h,-⟩:=h
 obtain⟨g3,t3,cs3,f3,p3,q3,hg3,ht3,hv3,hd3,h,-⟩:=h
 obtain⟨g4,t4,cs4,f4,p4,q4,hg4,ht4,hv4,hd4,h,-⟩:=h
 obtain⟨g5,t5,cs5,f5,p5,q5,hg5,ht5,hv5,hd5,h,-⟩:=h
 obtain rfl:=Option.some.inj (gPow.symm.trans hg3)
 obtain rfl:=Option.some.inj (tPow.symm.trans ht3)
 obtain rfl:=Option.some.inj (gSgn.symm.trans hg4)
 obtain rfl:=Option.some.inj (tSgn.symm.trans ht4)
 obtain rfl:=Option.some.inj (gRes.symm.trans hg5)
 obtain rfl:=Option.some.inj (tRes.symm.trans ht5)
 rw[pow_eq] at hd3
 rw[signs_eq] at hd4
 rw[res_eq] at hd5
 have hP:Pow W:=by
  unfold Pow Lib.TabIs
  rw[hv3,← Lib.cells_of_tab Tryz.underlying327 Tryz.underlying249 (by kernel_rfl) (by kernel_rfl) hd3]
 have hS0:=cells_of_strs (zs:=sgnsP.map fun s=>s.map UInt8.ofNat) Tryz.underlying220 Tryz.underlying9 (by kernel_rfl) (by kernel_rfl) (by rw[List.map_map];exact hd4)
 have hS:Reads W 1 0 (sgnsP.map (fun s=>Value.string (strN s))):=fun j v hj=>by
  have h1:=World.var?_cell gSgn hv4 j
  rw[Nat.zero_add]
  rw[h1,← Array.getElem?_toList,hS0,List.map_map]
  exact hj
 obtain⟨a,cap,hc5,hl5,hel⟩:=open_row Tryz.underlying59 (by kernel_rfl) hd5
 have hcell5:W.cell? ⟨0,0,none⟩=some (.slice (some a) 8 cap):=by
  rw[World.var?_cell gRes hv5 0,← Array.getElem?_toList,hc5]
  rfl
 have key:∀ (i:Nat) (s:List Nat),wordsL[i]?=some s→W.cell? (a.add i)=some (.string (strN s)):=fun i s hi=>by
  obtain⟨v,n,q,h1,h2⟩:=hel i (.lit (.string (s.map UInt8.ofNat))) (by rw[List.getElem?_map,hi];rfl)
  obtain⟨z,h3,h4,-⟩:=DataW.trod_string Tryz.underlying9 h2
  simp only[List.cons.injEq,and_true] at h3
  simp only[Prod.mk.injEq,DataW.lit.injEq,Lit.string.injEq] at h4
  rw[h1,h3]
  have:z=strN s:=by
   obtain⟨⟨zl⟩⟩:=z
   show (⟨⟨zl⟩⟩:ByteArray)=⟨(s.map UInt8.ofNat).toArray⟩
   rw[h4.1]
  rw[this]
 obtain⟨b,off,ha,hb⟩:=addr_one (key 0 _ rfl)
 have ha':a=⟨b,off,none⟩:=by
  obtain⟨ab,ao,asp⟩:=a
  simp only[Addr.add,Addr.mk.injEq] at ha
  simpa using ha
 subst ha'
 have h5c:∃ v,W.cell? ⟨5,0,none⟩=some v:=by
  obtain rfl:=Option.some.inj (gB64.symm.trans hg2)
  have hl2:0<cs2.size:=by
   rcases Nat.eq_zero_or_pos cs2.size with h0 | h0
   ·exfalso
    have h1:cs2=#[]:=Array.eq_empty_of_size_eq_zero h0
    subst h1
    obtain rfl:=Option.some.inj ((show (Tryz.prog.globals[(5:Nat)]?).map (·.type)=some 343 by kernel_rfl).symm.trans ht2)
    obtain⟨xs,m,-,-,hl,-,-⟩:=DataW.trod_array Tryz.underlying343 hd2
    rw[show Tryz.prog.cellsOf 343=64 by kernel_rfl] at hl
    simp at hl
   ·exact h0
  exact⟨_,(World.var?_cell gB64 hv2 0).trans (Array.getElem?_eq_getElem hl2)⟩
 obtain⟨v5,hv5c⟩:=h5c
 have h6:5<W.heap.size:=World.block_lt_of_cell? W ⟨5,0,none⟩ hv5c
 exact⟨⟨hS,⟨b,off,cap,hb,hcell5,fun j v hj=>by
   rw[List.getElem?_map] at hj
   obtain⟨s,h1,rfl⟩:=Option.map_eq_some_iff.1 hj
   rw[← Go.WideShapes.add_plain]
   exact key j s h1⟩,
  cell_of_shapedOpen_int (zero:=#[.int .i64 0]) (t:=3) hs (of_decide_eq_true (by kernel_rfl)) (by kernel_rfl) rfl (by kernel_rfl) (by kernel_rfl) Tryz.underlying3,by omega,Nat.le_refl _⟩,hP⟩
theorem door_met (os:Os) (args:Array Value):laidMetH Tryz.prog laidL ((World.doorLaid Tryz.prog 400 os).forCall (fun _ _=>0) ⟨#[],args,[]⟩).memory :=
 laidMetH_of_parts3 (fuel:=8) (laidMet_of_run' 8 (by kernel_rfl) (by kernel_rfl)) (by kernel_rfl) (by kernel_rfl)
theorem door_shaped (os:Os) (args:Array Value):((World.doorLaid Tryz.prog 400 os).forCall (fun _ _=>0) ⟨#[],args,[]⟩).Shaped Tryz.prog:=World.shaped_of_RefB (by kernel_rfl) (by kernel_rfl)
theorem row_wrap {H:Type} {enc:TypeId×Value→H} {C:Checked} {os:Os} {f:FuncId} {fn:Func} {s:ChangeSpec} {conds:List PathCond} {apart fresh handsOn again:Bool} {X:World→Array Value→Prop}
  (hX:∀ (w w':World) (args:Array Value),w.heap=w'.heap→X w args→X w' args)
  (hown:ownKnob C.prog.godebug=none) (started:os.Started) (noInit:C.prog.inits.idxOf? f=none) (hfn:C.prog.funcs[f]?=some fn)
  (witness:∃ (w:World) (tape:Tape) (i:Input),w.os=os∧(w.forCall tape i).Shaped C.prog∧i.vars=[]∧Input.okWide C.prog (w.forCall tape i) .any w.heap.size f i ∧
   ((s.pre enc C.prog fn conds apart (w.forCall tape i).memory i.args∧X (w.forCall tape i).memory i.args)∧sizedMet enc C.prog fn (OpenSpec.ofChange s) apart (w.forCall tape i).memory i.args)∧({}:Assume).holds C.prog (lone (Frame.enter C.prog f i.args .normal) [] (w.forCall tape i)))
  (contract:∀ (W:World) (base:Nat) (args:Array Value) (ds gs:List (DataW H)) (before:List MemPlace),
   (∀ (j:Nat) t v,fn.params[j]?=some t→args[j]?=some v→Value.okWide C.prog W .any base t v) →
   DataW.Whole enc C.prog fn.params.toList s.vars apart W args.toList ds gs before→X W args→W.ShapedOpen C.prog →
   Calls C.prog f args W fun e W'=>∃ v,e = .returned v∧s.post enc C.prog fn apart fresh handsOn again W args v W') :
  ReturnsInHanded {} C os f .any (fun w args=>(s.pre enc C.prog fn conds apart w args∧X w args)∧sizedMet enc C.prog fn (OpenSpec.ofChange s) apart w args) (s.post enc C.prog fn apart fresh handsOn again):=by
 refine returnsInHanded_of_calls hown started noInit witness ?_
 intro w tape i _ hsh _ hok hpre hholds
 obtain⟨_,_,_,fn',hfn',_,_,_,_,hval⟩:=hok
 have e:fn'=fn:=Option.some.inj (hfn'.symm.trans hfn)
 subst e
 obtain⟨⟨⟨ds,gs,before,hw,hc⟩,hx⟩,hz⟩:=hpre
 refine (contract (w.forCall tape i) w.heap.size i.args ds gs before hval (DataW.Whole.of_heap (w':=w.forCall tape i) (by rfl) hw) (hX _ _ _ (by rfl) hx) hsh).mono fun e W' ⟨v,he,hp⟩=>?_
 subst he
 exact ChangeSpec.post_blind hp
section
variable {H:Type} {enc:TypeId×Value→H} {P:Program}
theorem post_of_below {f:Func} {s:ChangeSpec} {apart fresh handsOn again:Bool} {W W':World} {args:Array Value} {v:Value} {ds gs:List (DataW H)} {before pa pv:List MemPlace}
  (hW:DataW.Whole enc P f.params.toList s.vars apart W args.toList ds gs before)
  (hres:∀ (b:Nat) (sp:Nat→Bool) (hd:Bool),DataW.TrodAll enc P W' b sp hd f.resultTypes.toList (v.resultList f.resultTypes.size) (s.fn H (ds++gs)).results [])
  (hargs:∀ sp:Nat→Bool,(∀ p∈before,sp p.block=true)→DataW.TrodAll enc P W' 0 sp true f.params.toList args.toList (s.fn H (ds++gs)).args pa)
  (hvars:∀ sp:Nat→Bool,(∀ p∈before,sp p.block=true)→DataW.TrodVars enc P W' sp s.vars (s.fn H (ds++gs)).vars pv)
  (hps:before=pa++pv) (hb:Below W.heap.size W W')
  (hok:∀ (j:Nat) (t:TypeId) (r:Value),f.resultTypes[j]?=some t→(v.resultList f.resultTypes.size)[j]?=some r→Value.okWide P W' .any 0 t r) :
  s.post enc P f apart fresh handsOn again W args v W':=by
 have hold:∀ p∈before,(fun b=>decide (b<W.heap.size)) p.block=true:=fun p hp=>by simpa using hW.lt p hp
 have hlt:=hW.lt
 refine⟨ds,gs,before,[],pa,pv,hW,hres _ _ _,hargs _ hold,hvars _ hold,World.keptBut_mono (fun p hp=>⟨hp,?_⟩) (hb.frame (·∈before)),fun _=>?_⟩
 ·rw[hps,List.mem_append] at hp
  exact Or.inr hp
 ·obtain⟨_,_,_,_,_,hz,hn⟩:=hW
  refine⟨hok,_,_,([]++pa)++pv,⟨[]++pa,pv,trodAll_append (hargs _ (fun _ _=>rfl)) (hres _ _ _),hvars _ (fun _ _=>rfl),rfl,?_,?_⟩,?_⟩
  ·intro b off hp
   have hm:MemPlace.cell b off∈before:=by rw[hps];simpa using hp
   rw[hb.frozen (p:=⟨b,off,none⟩) (hlt _ hm)]
   exact hz b off hm
  ·intro ha
   have:=hn ha
   rw[hps] at this
   simpa using this
  ·intro p hp _
   rw[hps]
   simpa using hp
theorem trodAll_stay (hl:laidOutB P=true) {W W':World} {sp':Nat→Bool}:∀ {ts:List TypeId} {vs:List Value} {ds:List (DataW H)} {ps:List MemPlace},
  (ts.all fun t=>P.readableRec t&&decide (t<P.types.size))=true→DataW.TrodAll enc P W 0 (fun _=>true) true ts vs ds ps→(∀ x∈ps,W.sameAt W' x)→(∀ x∈ps,sp' x.block=true) →
  DataW.TrodAll enc P W' 0 sp' true ts vs ds ps
 | [],_,_,_,_,h,_,_=>by
  obtain⟨rfl,rfl,rfl⟩:=trodAll_nil h
  exact trodAll_mk0
 | t::ts,_,_,_,hts,h,hs,hp=>by
  obtain⟨v0,vs0,d0,ds0,p0,q0,rfl,rfl,rfl,h0,r0⟩:=trodAll_cons h
  rw[List.all_cons,Bool.and_eq_true,Bool.and_eq_true,decide_eq_true_eq] at hts
  exact trodAll_cons_mk (WideElems.Trod_stays hl hts.1.1 hts.1.2 h0 (fun x hx=>hs x (List.mem_append_left _ hx)) (fun x hx=>hp x (List.mem_append_left _ hx)))
   (trodAll_stay hl hts.2 r0 (fun x hx=>hs x (List.mem_append_right _ hx)) (fun x hx=>hp x (List.mem_append_right _ hx)))
end
end
section
open Go
theorem joined_of {P:Program} {f:FuncId} {fn:Func} {s:ChangeSpec} {c:OpenClaim}
  (k0:(c.wf (OpenSpec.ofChange s))=true)
  (k1:(laidOutB P)=true)
  (k2:(mapsRowed P)=true)
  (k3:(fn.params.all (P.readableRec ·))=true)
  (k4:(namedTie P c.named s.vars)=true)
  (k5:(c.stops==[])=true)
  (k6:(P.stops==[])=true)
  (k7:(c.knobs==[])=true)
  (k8:(P.stopKnobs==[])=true)
  (k9:(c.inPlace==P.inPlace f)=true)
  (k10:(c.unfollowed==P.unfollowed f)=true)
  (k11:(c.recurses==P.recurses f)=true)
  (k12:(c.named==P.varsNamed f)=true)
  (k13:(c.maps==(fn.params.toList++s.plain.varTypes P).any (P.mapsRec ·))=true)
  (k14:(c.ifaces==(fn.params.toList++s.plain.varTypes P).any (P.ifacesRec ·))=true)
  (k15:(c.mapsOut==P.mapsAmong fn.resultTypes.toList)=true)
  (k16:(c.loops==(fn.params.toList++s.plain.varTypes P).any (P.loopsFrom ·))=true)
  (k17:(c.wideKeys==(fn.params.toList++s.plain.varTypes P++fn.resultTypes.toList).any (P.wideKeysFrom ·))=true)
  (k18:(s.vars.all (P.varReadable ·))=true)
  (k19:(fn.resultTypes.all (fun t=>P.readableRec t&&decide (t<P.types.size)))=true)
  (k20:(c.ifacesOut==fn.resultTypes.toList.any (P.ifacesRec ·))=true)
  (k21:(c.loopsOut==fn.resultTypes.toList.any (P.loopsFrom ·))=true)
  (k22:(c.plainKeys==P.plainKeys)=true)
  (k23:(c.shortTexts.isNone)=true)
  (k24:(P.stopsHeard)=true)
  (k25:(P.mayEnter)=true)
  (k26:(c.lifted==P.liftsFinal)=true)
  (k27:(P.make==some c.make)=true)
  (k28:(c.kinds==[])=true)
  (k29:(c.pinned==c.pinnedBy)=true)
  (k30:(c.veiled==(fn.params.toList++s.plain.varTypes P++fn.resultTypes.toList).any (P.veiledRec ·))=true)
  (k31:(c.veiledFits P fn.params.toList (fn.params.toList++s.plain.varTypes P++fn.resultTypes.toList))=true)
  (k32:(c.domain.isEmpty)=true):joinedFacts P f fn s c=true:=by
 unfold joinedFacts
 rw[if_pos k32,k0,k1,k2,k3,k4,k5,k6,k7,k8,k9,k10,k11,k12,k13,k14,k15,k16,k17,k18,k19,k20,k21,k22,k23,k24,k25,k26,k27,k28,k29,k30,k31]
 rfl
theorem com1:(laidOutB Tryz.prog)=true:=by kernel_rfl
theorem com2:(mapsRowed Tryz.prog)=true:=by kernel_rfl
theorem com6:((Tryz.prog.stops==[]))=true:=by kernel_rfl
theorem com8:((Tryz.prog.stopKnobs==[]))=true:=by kernel_rfl
theorem com24:(Tryz.prog.stopsHeard)=true:=by kernel_rfl
theorem com25:(Tryz.prog.mayEnter)=true:=by kernel_rfl
end
end Go.Proofs.YtmkdfbelbcocpaaGreatDoor
