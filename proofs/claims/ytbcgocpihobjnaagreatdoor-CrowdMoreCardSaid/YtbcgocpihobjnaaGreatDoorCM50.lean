import Derived.SevenTiedAt
import Derived.SizedLaws
import Derived.Test.YtbcgocpihobjnaaGreatDoorCM43
import Derived.Test.YtbcgocpihobjnaaGreatDoorCM30
set_option linter.all false
set_option maxRecDepth 100000
namespace Go.Proofs.YtbcgocpihobjnaaGreatDoor
open Go Go.ChangeShapes Go.WideShapes Go.ChangeAt Go.WideMaps Go.WideElems Go.RowKit Go.Joins
theorem Zv8 {H:Type} {enc:TypeId×Value→H} {C:Checked} {os:Os} {f:FuncId} {fn:Func} {s:ChangeSpec} {conds:List PathCond} {apart fresh handsOn again:Bool} {X:World→Array Value→Prop}
  (hX:∀ (w w':World) (args:Array Value),w.heap=w'.heap→X w args→X w' args)
  (hown:ownKnob C.prog.godebug=none) (started:os.Started) (noInit:C.prog.inits.idxOf? f=none) (hfn:C.prog.funcs[f]?=some fn)
  (witness:∃ (w:World) (tape:Tape) (i:Input),w.os=os∧(w.forCall tape i).Shaped C.prog∧i.vars=[]∧Input.okWide C.prog (w.forCall tape i) .any w.heap.size f i ∧
   ((s.pre enc C.prog fn conds apart (w.forCall tape i).memory i.args∧X (w.forCall tape i).memory i.args)∧sizedMet enc C.prog fn (OpenSpec.ofChange s) apart (w.forCall tape i).memory i.args)∧({}:Assume).holds C.prog (lone (Frame.enter C.prog f i.args .normal) [] (w.forCall tape i)))
  (contract:∀ (W:World) (base:Nat) (args:Array Value) (ds gs:List (DataW H)) (before:List MemPlace),
   (∀ (j:Nat) t v,fn.params[j]?=some t→args[j]?=some v→Value.okWide C.prog W .any base t v) →
   DataW.Whole enc C.prog fn.params.toList s.vars apart W args.toList ds gs before→X W args→W.ShapedOpen C.prog →
   (DataW.weightsEach C.prog (fn.params.toList++s.plain.varTypes C.prog) (ds++gs)).all (·≤reachBytes)=true →
   Calls C.prog f args W fun e W'=>∃ v,e = .returned v∧s.post enc C.prog fn apart fresh handsOn again W args v W') :
  ReturnsInHanded {} C os f .any (fun w args=>(s.pre enc C.prog fn conds apart w args∧X w args)∧sizedMet enc C.prog fn (OpenSpec.ofChange s) apart w args) (s.post enc C.prog fn apart fresh handsOn again):=by
 refine returnsInHanded_of_calls hown started noInit witness ?_;intro w tape i _ hsh _ hok hpre hholds;obtain⟨_,_,_,fn',hfn',_,_,_,_,hval⟩:=hok;have e:fn'=fn:=Option.some.inj (hfn'.symm.trans hfn);subst e;obtain⟨⟨⟨ds,gs,before,hw,hc⟩,hx⟩,hz⟩:=hpre
 refine (contract (w.forCall tape i) w.heap.size i.args ds gs before hval (DataW.Whole.of_heap (w':=w.forCall tape i) (by rfl) hw) (hX _ _ _ (by rfl) hx) hsh (hz.weights hw)).mono fun e W' ⟨v,he,hp⟩=>?_
 subst he;exact ChangeSpec.post_blind hp
section
variable {H:Type} {enc:TypeId×Value→H} {W:World}
theorem Ziy {E L:TypeId} {bt:Nat} (hu:Tryz.prog.underlying L=some (.slice E)) (hb:Tryz.prog.bytesOf E=bt) {ts:List TypeId} {ds:List (DataW H)} {j:Nat} {t:TypeId} {y:DataW H×List MemPlace} {fuel:Nat} {c0:Value} (hz:(DataW.weightsEach Tryz.prog ts ds).all (·≤reachBytes)=true) (ht:ts[j]?=some t) (hd:ds[j]?=some y.1) (hf:DataW.trod enc Tryz.prog W 0 (fun _=>true) true fuel L [c0]=some y) (hL:t=L:=by rfl):∀ ao n c,c0 = .slice ao n c→n*bt≤140737488351232:=by
 intro ao n c hc0;subst hc0 hL;obtain⟨d,p⟩:=y;rcases DataW.trod_slice hu hf with ⟨h1,_⟩ | ⟨a,len,cap,elems,rest,n',hn,hc,hx,_,hl,hm,hlen,_,_,_⟩
 ·injection h1 with h1 _
  injection h1 with _ h2 _;rw[h2,Nat.zero_mul];exact Nat.zero_le _
 ·injection hc with hc _
  injection hc with _ h2 _;have hd2:d = .slice (elems.map (·.1)) (rest.map (·.1)):=congrArg Prod.fst hx;have h3:=sized_slice hz ht (by rw[hd,hd2]) hu;rw[hb,List.length_map,hlen,← h2] at h3
  have h4:reachBytes=140737488351232:=by decide
  rw[h4] at h3;exact Nat.le_trans (Nat.mul_le_mul_right bt (Nat.le_add_right n _)) h3
theorem Zv9 {P:Program} {ts:List TypeId} {ds:List (DataW H)} (hz:(DataW.weightsEach P ts ds).all (·≤reachBytes)=true) {j:Nat} {t:TypeId} {d:DataW H} (ht:ts[j]?=some t) (hd:ds[j]?=some d):(DataW.weights P t d).all (·≤reachBytes)=true :=
 List.all_eq_true.2 (fun n hn=>List.all_eq_true.1 hz n (DataW.weights_mem_each ht hd n hn))
theorem Zwa {r:Reach} {b0:Nat} {v:Value} {d:DataW H} {p:List MemPlace} (hv:Value.okWide Tryz.prog W r b0 44 v) (h:DataW.Trod enc Tryz.prog W 0 (fun _=>true) true 44 v d p) (hz:(DataW.weights Tryz.prog 44 d).all (·≤reachBytes)=true) :
  ∃ (m:Mem) (cs:List Value),v = .agg cs.toArray∧Zjw W m cs∧((∀ b∈m.b,NmL b.n)∧m.b.length≤10000000000000∧m.t.length≤100000000000000):=by
 obtain⟨cs,rfl,hsz⟩:=okWide_struct Tryz.underlying44 hv;obtain⟨fuel,h7⟩:=h;have hcs:(Value.agg cs).cells=cs:=rfl;rw[hcs] at h7;obtain⟨xs,n2,hn,hx9,hl,hxl,hf⟩:=DataW.trod_struct Tryz.underlying44 h7
 have hl3:cs.toList.length=3:=by rw[hl];kernel_rfl
 obtain⟨l0⟩:=cs
 match l0,hl3 with
 | [c0,c1,c2],_ =>
  match xs,hxl with
  | [y0,y1,y2],_ =>
   have f0:DataW.trod enc Tryz.prog W 0 (fun _=>true) true n2 42 (([c0,c1,c2]:List Value).drop 0 |>.take (Tryz.prog.cellsOf 42))=some y0:=hf 0 _ rfl;have f1:DataW.trod enc Tryz.prog W 0 (fun _=>true) true n2 33 (([c0,c1,c2]:List Value).drop 1 |>.take (Tryz.prog.cellsOf 33))=some y1:=hf 1 _ rfl;have f2:DataW.trod enc Tryz.prog W 0 (fun _=>true) true n2 3 (([c0,c1,c2]:List Value).drop 2 |>.take (Tryz.prog.cellsOf 3))=some y2:=hf 2 _ rfl;rw[cLB] at f0;rw[cLI] at f1;rw[cI] at f2;have hd9:d = .agg [y0.1,y1.1,y2.1]:=congrArg Prod.fst hx9
   have hz9:(DataW.weightsEach Tryz.prog [42,33,3] [y0.1,y1.1,y2.1]).all (·≤reachBytes)=true:=by
    rw[hd9] at hz
    have e9:DataW.weights Tryz.prog 44 (.agg [y0.1,y1.1,y2.1])=DataW.weightsEach Tryz.prog [42,33,3] [y0.1,y1.1,y2.1]:=by
     unfold DataW.weights;rw[Tryz.underlying44];rfl
    rwa [e9] at hz
   have sz0:=Ziy Tryz.underlying42 (bt:=24) (by kernel_rfl) (t:=42) (j:=0) hz9 rfl rfl (show DataW.trod enc Tryz.prog W 0 (fun _=>true) true n2 42 [c0]=some y0 from f0);have sz1:=Ziy Tryz.underlying33 (bt:=8) (by kernel_rfl) (t:=33) (j:=1) hz9 rfl rfl (show DataW.trod enc Tryz.prog W 0 (fun _=>true) true n2 33 [c1]=some y1 from f1);obtain⟨bl,bo,bn,bc,e0,hb1,hb2,hb3,hb4,hb5⟩:=Znx (show DataW.trod enc Tryz.prog W 0 (fun _=>true) true n2 42 [c0]=some y0 from f0);obtain⟨tl,ta,tn,tc,e1,ht1,ht2,ht3,ht4⟩:=Znw (show DataW.trod enc Tryz.prog W 0 (fun _=>true) true n2 33 [c1]=some y1 from f1);obtain⟨k,e2,-,-⟩:=DataW.trod_int Tryz.underlying3 (show DataW.trod enc Tryz.prog W 0 (fun _=>true) true n2 3 [c2]=some y2 from f2);simp only[List.cons.injEq,and_true] at e2;have z0:=sz0 bo bn bc (by simpa using e0);have z1:=sz1 ta tn tc (by simpa using e1);subst e0 e1 e2 hb1 ht1;refine⟨⟨bl,tl,k⟩,_,rfl,⟨bo,bc,ta,tc,rfl,?_,ht4⟩,hb4,by show bl.length≤_;omega,by show tl.length≤_;omega⟩;rcases hb5 with hb5 | ⟨g5,o5,q1,q2,q3⟩
   ·exact .inl hb5
   ·exact .inr ⟨g5,o5,q1,trivial,q2,q3⟩
end
end Go.Proofs.YtbcgocpihobjnaaGreatDoor
