import Derived.SizedLaws
import Derived.Test.YtmkdfbelbcocpaaGreatDoorCD41
import Derived.Test.YtmkdfbelbcocpaaGreatDoorCD38
set_option linter.unusedVariables false
set_option linter.unusedSimpArgs false
namespace Go.Proofs.YtmkdfbelbcocpaaGreatDoor
open Go Go.ChangeShapes Go.WideShapes Go.ChangeAt Go.WideMaps Go.WideElems Go.RowKit Go.Joins
theorem Z06 {H:Type} {enc:TypeId×Value→H} {C:Checked} {os:Os} {f:FuncId} {fn:Func} {s:ChangeSpec} {conds:List PathCond} {apart fresh handsOn again:Bool} {X:World→Array Value→Prop}
  (hX:∀ (w w':World) (args:Array Value),w.heap=w'.heap→X w args→X w' args)
  (hown:ownKnob C.prog.godebug=none) (started:os.Started) (noInit:C.prog.inits.idxOf? f=none) (hfn:C.prog.funcs[f]?=some fn)
  (witness:∃ (w:World) (tape:Tape) (i:Input),w.os=os∧(w.forCall tape i).Shaped C.prog∧i.vars=[]∧Input.okWide C.prog (w.forCall tape i) .any w.heap.size f i ∧
   ((s.pre enc C.prog fn conds apart (w.forCall tape i).memory i.args∧X (w.forCall tape i).memory i.args)∧sizedMet enc C.prog fn (OpenSpec.ofChange s) apart (w.forCall tape i).memory i.args)∧({}:Assume).holds C.prog (lone (Frame.enter C.prog f i.args .normal) [] (w.forCall tape i)))
  (contract:∀ (W:World) (base:Nat) (args:Array Value) (ds gs:List (DataW H)) (before:List MemPlace),
   (∀ (j:Nat) t v,fn.params[j]?=some t→args[j]?=some v→Value.okWide C.prog W .any base t v) →
   DataW.Whole enc C.prog fn.params.toList s.vars apart W args.toList ds gs before→X W args→W.ShapedOpen C.prog →
   (DataW.weightsEach C.prog (fn.params.toList++s.plain.varTypes C.prog) (ds++gs)).all (·≤reachBytes)=true →
   Calls C.prog f args W fun e W'=>∃ v,e = .returned v∧s.post enc C.prog fn apart fresh handsOn again W args v W') :
  ReturnsInHanded {} C os f .any (fun w args=>(s.pre enc C.prog fn conds apart w args∧X w args)∧sizedMet enc C.prog fn (OpenSpec.ofChange s) apart w args) (s.post enc C.prog fn apart fresh handsOn again):=by
 refine returnsInHanded_of_calls hown started noInit witness ?_
 intro w tape i _ hsh _ hok hpre hholds
 obtain⟨_,_,_,fn',hfn',_,_,_,_,hval⟩:=hok
 have e:fn'=fn:=Option.some.inj (hfn'.symm.trans hfn)
 subst e
 obtain⟨⟨⟨ds,gs,before,hw,hc⟩,hx⟩,hz⟩:=hpre
 refine (contract (w.forCall tape i) w.heap.size i.args ds gs before hval (DataW.Whole.of_heap (w':=w.forCall tape i) (by rfl) hw) (hX _ _ _ (by rfl) hx) hsh (hz.weights hw)).mono fun e W' ⟨v,he,hp⟩=>?_
 subst he
 exact ChangeSpec.post_blind hp
section
variable {H:Type} {enc:TypeId×Value→H} {W:World}
theorem Zw2 {ts:List TypeId} {ds:List (DataW H)} {j:Nat} {ao:Option Addr} {n c:Nat} {d:DataW H} {p:List MemPlace} (hz:(DataW.weightsEach Tryz.prog ts ds).all (·≤reachBytes)=true) (ht:ts[j]?=some 23) (hd:ds[j]?=some d)
  (h:DataW.Trod enc Tryz.prog W 0 (fun _=>true) true 23 (.slice ao n c) d p):(n+1)*72≤140737488355328:=by
 obtain⟨fuel,hf⟩:=h
 have hb:Tryz.prog.bytesOf 25=72:=by kernel_rfl
 rcases DataW.trod_slice Tryz.underlying23 (show DataW.trod enc Tryz.prog W 0 (fun _=>true) true fuel 23 [.slice ao n c]=some (d,p) from hf) with ⟨h1,_⟩ | ⟨a,len,cap,elems,rest,n',hn,hc,hx,_,hl,hm,hlen,_,_,_⟩
 ·injection h1 with h1 _
  injection h1 with _ h2 _
  omega
 ·injection hc with hc _
  injection hc with _ h2 _
  have hd2:d = .slice (elems.map (·.1)) (rest.map (·.1)):=congrArg Prod.fst hx
  have h3:=sized_slice hz ht (by rw[hd,hd2]) Tryz.underlying23
  rw[hb,List.length_map,hlen,← h2] at h3
  have h4:reachBytes=140737488351232:=by decide
  rw[h4] at h3
  have h5:n*72≤140737488351232:=Nat.le_trans (Nat.mul_le_mul_right 72 (Nat.le_add_right n _)) h3
  omega
end
end Go.Proofs.YtmkdfbelbcocpaaGreatDoor
