import Derived.Test.YtbcgocpihobjnaaGreatDoorRows
import Derived.ProofKit
import Derived.LaidMore
import Derived.OpenShut
import Derived.Stop.Joined
import Derived.Carry
import Derived.Lib.LaidTab
import Derived.Lib.SmallJoins
import Derived.Shelf.Vars
import Derived.HandedShaped
import Derived.Test.YtbcgocpihobjnaaGreatDoorCL24
import Derived.Test.YtbcgocpihobjnaaGreatDoorCL29
set_option linter.all false
set_option maxRecDepth 100000
namespace Go.Proofs.YtbcgocpihobjnaaGreatDoor
section
open Go Go.ChangeShapes Go.WideShapes Go.ChangeAt Go.WideMaps Go.WideElems Go.RowKit Go.Joins
theorem own:ownKnob Tryz.prog.godebug=none:=by kernel_rfl
theorem WX:Tryz.prog.globalNamed "cloak/ask.reserved"=some 0:=by kernel_rfl
theorem Z5e:(Tryz.prog.globals[(0:Nat)]?).map (·.type)=some 194:=by kernel_rfl
section
variable {H:Type} {enc:TypeId×Value->H} {P:Program} {W:World}
end
theorem Z3d:(Rows.laid_cloak_ask_reserved:DataW Unit) = .slice (tY.map fun s=>.lit (.string (s.map UInt8.ofNat))) []:=by kernel_rfl
theorem Zqh(os:Os)(args:Array Value):((World.doorLaid Tryz.prog 400 os).forCall (fun _ _=>0) ⟨#[],args,[]⟩).Shaped Tryz.prog:=World.shaped_of_RefB (by kernel_rfl) (by kernel_rfl)
theorem Zz4 {H:Type} {enc:TypeId×Value->H} {C:Checked} {os:Os} {f:FuncId} {fn:Func} {s:ChangeSpec} {conds:List PathCond} {apart fresh handsOn again:Bool} {X:World->Array Value->Prop}
  (hX:∀ (w w':World) (args:Array Value),w.heap=w'.heap->X w args->X w' args)
  (bD:ownKnob C.prog.godebug=none) (started:os.Started) (noInit:C.prog.inits.idxOf? f=none) (sq:C.prog.funcs[f]?=some fn)
  (witness:∃ (w:World) (tape:Tape) (i:Input),w.os=os/\(w.forCall tape i).Shaped C.prog/\i.vars=[]/\Input.okWide C.prog (w.forCall tape i) .any w.heap.size f i /\
   ((s.pre enc C.prog fn conds apart (w.forCall tape i).memory i.args/\X (w.forCall tape i).memory i.args)/\sizedMet enc C.prog fn (OpenSpec.ofChange s) apart (w.forCall tape i).memory i.args)/\({}:Assume).holds C.prog (lone (Frame.enter C.prog f i.args .normal) [] (w.forCall tape i)))
  (contract:∀ (W:World) (base:Nat) (args:Array Value) (ds gs:List (DataW H)) (before:List MemPlace),
   (∀ (j:Nat) t v,fn.params[j]?=some t->args[j]?=some v->Value.okWide C.prog W .any base t v) ->
   DataW.Whole enc C.prog fn.params.toList s.vars apart W args.toList ds gs before->X W args->W.ShapedOpen C.prog ->
   Calls C.prog f args W fun e W'=>∃ v,e = .returned v/\s.post enc C.prog fn apart fresh handsOn again W args v W') :
  ReturnsInHanded {} C os f .any (fun w args=>(s.pre enc C.prog fn conds apart w args/\X w args)/\sizedMet enc C.prog fn (OpenSpec.ofChange s) apart w args) (s.post enc C.prog fn apart fresh handsOn again):=by
 refine returnsInHanded_of_calls bD started noInit witness ?_;intro w tape i _ Bn _ aJ Pl sr;obtain⟨_,_,_,fn',sw,_,_,_,_,kY⟩:=aJ;have e:fn'=fn:=Option.some.inj (sw.symm.trans sq);subst e;obtain⟨⟨⟨ds,gs,before,hw,hc⟩,hx⟩,hz⟩:=Pl
 refine(contract (w.forCall tape i) w.heap.size i.args ds gs before kY (DataW.Whole.of_heap (w':=w.forCall tape i) (by rfl) hw) (hX _ _ _ (by rfl) hx) Bn).mono fun e W' ⟨v,he,hp⟩=>?_
 subst he;exact ChangeSpec.post_blind hp
section
variable {H:Type} {enc:TypeId×Value->H} {P:Program}
theorem Zms {f:Func} {s:ChangeSpec} {apart fresh handsOn again:Bool} {W W':World} {args:Array Value} {v:Value} {ds gs:List (DataW H)} {before pa pv:List MemPlace}
  (hW:DataW.Whole enc P f.params.toList s.vars apart W args.toList ds gs before)
  (aN:∀ (b:Nat) (sp:Nat->Bool) (hd:Bool),DataW.TrodAll enc P W' b sp hd f.resultTypes.toList (v.resultList f.resultTypes.size) (s.fn H (ds++gs)).results [])
  (wE:∀ sp:Nat->Bool,(∀ p∈before,sp p.block=true)->DataW.TrodAll enc P W' 0 sp true f.params.toList args.toList (s.fn H (ds++gs)).args pa)
  (Md:∀ sp:Nat->Bool,(∀ p∈before,sp p.block=true)->DataW.TrodVars enc P W' sp s.vars (s.fn H (ds++gs)).vars pv)
  (gt:before=pa++pv) (hb:Below W.heap.size W W')
  (aJ:∀ (j:Nat) (t:TypeId) (r:Value),f.resultTypes[j]?=some t->(v.resultList f.resultTypes.size)[j]?=some r->Value.okWide P W' .any 0 t r) :
  s.post enc P f apart fresh handsOn again W args v W':=by
 have rA:∀ p∈before,(fun b=>decide (b<W.heap.size)) p.block=true:=fun p hp=>by simpa using hW.lt p hp
 have aE:=hW.lt;refine⟨ds,gs,before,[],pa,pv,hW,aN _ _ _,wE _ rA,Md _ rA,World.keptBut_mono (fun p hp=>⟨hp,?_⟩) (hb.frame (·∈before)),fun _=>?_⟩
 ·rw[gt,List.mem_append] at hp
  exact Or.inr hp
 ·obtain⟨_,_,_,_,_,hz,hn⟩:=hW
  refine⟨aJ,_,_,([]++pa)++pv,⟨[]++pa,pv,trodAll_append (wE _ (fun _ _=>rfl)) (aN _ _ _),Md _ (fun _ _=>rfl),rfl,?_,?_⟩,?_⟩
  ·intro b off hp
   have hm:MemPlace.cell b off∈before:=by rw[gt];simpa using hp
   rw[hb.frozen (p:=⟨b,off,none⟩) (aE _ hm)];exact hz b off hm
  ·intro ha
   have:=hn ha;rw[gt] at this;simpa using this
  ·intro p hp _
   rw[gt];simpa using hp
theorem WY(hl:laidOutB P=true){W W':World}{sp':Nat->Bool}:∀ {ts:List TypeId} {vs:List Value} {ds:List (DataW H)} {ps:List MemPlace},
  (ts.all fun t=>P.readableRec t&&decide (t<P.types.size))=true->DataW.TrodAll enc P W 0 (fun _=>true) true ts vs ds ps->(∀ x∈ps,W.sameAt W' x)->(∀ x∈ps,sp' x.block=true) ->
  DataW.TrodAll enc P W' 0 sp' true ts vs ds ps
 | [],_,_,_,_,h,_,_=>by
  obtain⟨rfl,rfl,rfl⟩:=trodAll_nil h;exact trodAll_mk0
 | t::ts,_,_,_,xU,h,hs,hp=>by
  obtain⟨v0,II,d0,l8,p0,q0,rfl,rfl,rfl,h0,r0⟩:=trodAll_cons h;rw[List.all_cons,Bool.and_eq_true,Bool.and_eq_true,decide_eq_true_eq] at xU
  exact trodAll_cons_mk (WideElems.Trod_stays hl xU.1.1 xU.1.2 h0 (fun x hx=>hs x (List.mem_append_left _ hx)) (fun x hx=>hp x (List.mem_append_left _ hx)))
   (WY hl xU.2 r0 (fun x hx=>hs x (List.mem_append_right _ hx)) (fun x hx=>hp x (List.mem_append_right _ hx)))
end
end
section
open Go
theorem Zwo {P:Program} {f:FuncId} {fn:Func} {s:ChangeSpec} {c:OpenClaim}
  (k0:(c.wf (OpenSpec.ofChange s))=true)
  (k1:(laidOutB P)=true)
  (k2:(mapsRowed P)=true)
  (k3:(fn.params.all (P.readableRec ·))=true)
  (k4:(namedTie P c.named s.vars)=true)
  (k5:(c.stops==[])=true)
  (k6:(P.stops==[])=true)
  (k7:(c.knobs==[])=true)
  (k8:(P.stopKnobs==[])=true)
  (k9:(c.inPlace==P.inPlace f)=true)
  (l9:(c.unfollowed==P.unfollowed f)=true)
  (m3:(c.recurses==P.recurses f)=true)
  (Bv:(c.named==P.varsNamed f)=true)
  (gx:(c.maps==(fn.params.toList++s.plain.varTypes P).any (P.mapsRec ·))=true)
  (gy:(c.ifaces==(fn.params.toList++s.plain.varTypes P).any (P.ifacesRec ·))=true)
  (gz:(c.mapsOut==P.mapsAmong fn.resultTypes.toList)=true)
  (m5:(c.loops==(fn.params.toList++s.plain.varTypes P).any (P.loopsFrom ·))=true)
  (m6:(c.wideKeys==(fn.params.toList++s.plain.varTypes P++fn.resultTypes.toList).any (P.wideKeysFrom ·))=true)
  (m7:(s.vars.all (P.varReadable ·))=true)
  (m9:(fn.resultTypes.all (fun t=>P.readableRec t&&decide (t<P.types.size)))=true)
  (n7:(c.ifacesOut==fn.resultTypes.toList.any (P.ifacesRec ·))=true)
  (n9:(c.loopsOut==fn.resultTypes.toList.any (P.loopsFrom ·))=true)
  (o7:(c.plainKeys==P.plainKeys)=true)
  (p5:(c.shortTexts.isNone)=true)
  (p6:(P.stopsHeard)=true)
  (p7:(P.mayEnter)=true)
  (p8:(c.lifted==P.liftsFinal)=true)
  (p9:(P.make==some c.make)=true)
  (r9:(c.kinds==[])=true)
  (s5:(c.pinned==c.pinnedBy)=true)
  (s6:(c.veiled==(fn.params.toList++s.plain.varTypes P++fn.resultTypes.toList).any (P.veiledRec ·))=true)
  (s7:(c.veiledFits P fn.params.toList (fn.params.toList++s.plain.varTypes P++fn.resultTypes.toList))=true)
  (s8:(c.domain.isEmpty)=true):joinedFacts P f fn s c=true:=by
 unfold joinedFacts;rw[if_pos s8,k0,k1,k2,k3,k4,k5,k6,k7,k8,k9,l9,m3,Bv,gx,gy,gz,m5,m6,m7,m9,n7,n9,o7,p5,p6,p7,p8,p9,r9,s5,s6,s7];rfl
theorem Z5f:(laidOutB Tryz.prog)=true:=by kernel_rfl
theorem Z5g:(mapsRowed Tryz.prog)=true:=by kernel_rfl
theorem Z5h:((Tryz.prog.stops==[]))=true:=by kernel_rfl
theorem Z5i:((Tryz.prog.stopKnobs==[]))=true:=by kernel_rfl
theorem Z38:(Tryz.prog.stopsHeard)=true:=by kernel_rfl
theorem Z39:(Tryz.prog.mayEnter)=true:=by kernel_rfl
end
end Go.Proofs.YtbcgocpihobjnaaGreatDoor
