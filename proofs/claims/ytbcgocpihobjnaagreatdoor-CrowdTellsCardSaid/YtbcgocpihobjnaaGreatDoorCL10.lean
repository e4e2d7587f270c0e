import Derived.BigQuiet
import Derived.OrdersHeld
import Derived.StillTail
import Derived.StillTailTactics
import Derived.Test.YtbcgocpihobjnaaGreatDoorCL9
set_option linter.all false
namespace Go.Proofs.YtbcgocpihobjnaaGreatDoor
section
open Go.RowKit
section
variable {P:Program} {ops:Array Oper} {Q:Exit->Act->World->Prop} {md:Region.Mode} {S:World->Prop} {early:List Nat}
def wW(P:Program)(md:Region.Mode)(ops:Array Oper)(Q:Exit->Act->World->Prop)(S:World->Prop)(early:List Nat):Nat->Array Bool->Act->World->Prop
 | 0,listed,a,w=>Region.ready md ops listed=[]/\Q .normal a w
 | fuel+1,listed,a,w =>
  (Region.ready md ops listed=[]->Q .normal a w) /\
  ∀ i∈Region.ready md ops listed,wpOp P ops Q i (fun a' w'=>(early.contains i=true->S w')/\wW P md ops Q S early fuel (listed.setIfInBounds i true) a' w') a w
theorem QS:∀ (fuel:Nat) (listed:Array Bool) (a:Act) (w:World),wW P md ops Q S early fuel listed a w->wpAny P md ops Q fuel listed a w
 | 0,_,_,_,h=>h
 | fuel+1,_,_,_,h=>⟨h.1,fun i hi=>wpOp_mono (fun a' w' h'=>QS fuel _ a' w' h'.2) (h.2 i hi)⟩
theorem J_{listed:Array Bool}{i j:Nat}{oj:Oper}(hr:i∈Region.ready md ops listed)(hj:j∈Region.ready md ops listed)(vZ:ops[j]?=some oj) :
  ∀ e∈oj.after,Region.binds md e=true->e.on≠i:=fun e he hb tO=>by
 obtain⟨_,oj',qt,aD⟩:=mem_ready.1 hj;obtain rfl:oj'=oj:=Option.some.inj (qt.symm.trans vZ);have h1:=aD e he hb;have h0:=(mem_ready.1 hr).1;rw[tO,getD_both h0] at h1;cases h1
theorem K_ {i:Nat} {oi:Oper} {v:Value} (hi:ops[i]?=some oi) (gF:∀ (j:Nat) (o:Oper) cs b,ops[j]?=some o->o.op ≠ .select cs b)
  (hQ:∀ c a w,Q (.panic c) (a.put oi.dst v) w->Q (.panic c) a w) :
  ∀ (fuel:Nat) (listed:Array Bool) (a:Act) (w:World),
   (∀ j oj,ops[j]?=some oj->j≠i->listed.getD j true=false->(∀ e∈oj.after,Region.binds md e=true->e.on≠i)->oi.apart ops oj=true) ->
   (∀ j,listed.getD j true=false->j=i\/early.contains j=true\/Region.waitsFor md ops j i=true) ->
   i∈Region.ready md ops listed->YieldsIf P ops S oi v a->S w ->
   wW P md ops Q S early fuel (listed.setIfInBounds i true) (a.put oi.dst v) w->wW P md ops Q S early (fuel+1) listed a w:=by
 intro fuel
 induction fuel with
 | zero =>
  intro listed a w _ _ hr hy hS H;refine⟨fun h=>(by rw[h] at hr;cases hr),fun j hj=>?_⟩;by_cases iI:j=i
  ·subst iI;exact hy.wpOp hi hS ⟨fun _=>hS,H⟩
  ·have:=ready_mono hj iI
   rw[H.1] at this;cases this
 | succ fuel ih =>
  intro listed a w sJ hl hr hy hS H;refine⟨fun h=>(by rw[h] at hr;cases hr),fun j hj=>?_⟩;by_cases iI:j=i
  ·subst iI;exact hy.wpOp hi hS ⟨fun _=>hS,H⟩
  ·have h1:=H.2 j (ready_mono hj iI)
   obtain⟨uI,oj,vZ,aD⟩:=mem_ready.1 hj;have Jb:=J_ hr hj vZ
   have yT:early.contains j=true:=by
    rcases hl j uI with h | h | h
    ·exact absurd h iI
    ·exact h
    ·obtain⟨o',nT,e,he,hb,xF⟩:=Region.waitsFor_spec h
     obtain rfl:o'=oj:=Option.some.inj (nT.symm.trans vZ);exact absurd xF (Jb e he hb)
   have h2:=wpOp_putIf vZ (sJ j oj vZ iI uI Jb) (fun cs b=>gF i oi cs b hi) (fun cs b=>gF j oj cs b vZ) hQ hy h1
   have Pi:∀ k ok,ops[k]?=some ok->k≠i->(listed.setIfInBounds j true).getD k true=false ->
     (∀ e∈ok.after,Region.binds md e=true->e.on≠i)->oi.apart ops ok=true:=fun k ok hk Lo gV nK=>by
    refine sJ k ok hk Lo ?_ nK;by_cases Bo:j=k
    ·subst Bo;exact uI
    ·rw[getD_set_ne true Bo] at gV;exact gV
   have uJ:∀ k,(listed.setIfInBounds j true).getD k true=false->k=i\/early.contains k=true\/Region.waitsFor md ops k i=true:=fun k hk=>by
    refine hl k ?_;by_cases Bo:j=k
    ·subst Bo;exact uI
    ·rw[getD_set_ne true Bo] at hk;exact hk
   refine wpOp_mono (fun a' w' h3=>⟨h3.2.1,ih (listed.setIfInBounds j true) a' w' Pi uJ (ready_mono hr (Ne.symm iI)) h3.1 (h3.2.1 yT) ?_⟩) h2;rw[Array.setIfInBounds_comm _ _ iI];exact h3.2.2
def QT(md:Region.Mode)(ops:Array Oper)(early:List Nat)(listed:Array Bool)(i:Nat):Bool :=
 (List.range listed.size).all fun j=>listed.getD j true||decide (j=i)||early.contains j||Region.waitsFor md ops j i
theorem QU (i:Nat) {oi:Oper} {v:Value} {fuel:Nat} {listed:Array Bool} {a:Act} {w:World} (hi:ops[i]?=some oi)
  (hB:(Region.noSelect ops&&Region.free md ops listed i&&(Region.ready md ops listed).contains i&&QT md ops early listed i)=true)
  (hQ:∀ c a w,Q (.panic c) (a.put oi.dst v) w->Q (.panic c) a w) (hS:S w) (hy:YieldsIf P ops S oi v a)
  (h:wW P md ops Q S early fuel (listed.setIfInBounds i true) (a.put oi.dst v) w):wW P md ops Q S early (fuel+1) listed a w:=by
 simp only[Bool.and_eq_true] at hB;obtain⟨⟨⟨hs,hf⟩,hr⟩,he⟩:=hB;refine K_ hi (Region.noSelect_spec hs) hQ fuel listed a w (Region.free_spec hi hf) (fun j hj=>?_) (by simpa using hr) hy hS h;rcases Nat.lt_or_ge j listed.size with aE | qu
 ·have:=List.all_eq_true.1 he j (List.mem_range.2 aE)
  simp only[hj,Bool.false_or,Bool.or_eq_true,decide_eq_true_eq] at this;rcases this with(h | h) | h
  ·exact .inl h
  ·exact .inr (.inl h)
  ·exact .inr (.inr h)
 ·rw[Array.getD,dif_neg (by omega)] at hj;cases hj
def Ks(K:Act->World->Prop)(Q:Exit->Act->World->Prop):Exit->Act->World->Prop
 | .normal,a,w=>K a w
 | e,a,w=>Q e a w
theorem CQ{o:Oper}{a:Act}{w:World}{K:Act->World->Prop}(h:o.wp P a w K (Ks K Q)):o.wp P a w K Q:=by
 unfold Oper.wp at *;generalize (execOp a.eval o).run P w=r at *
 cases r with
 | ok n w' =>
  cases n<;>simp only[Oper.upon] at h ⊢ <;>
   first
    | exact h
    | exact Calls.mono h (fun e w'' he=>by cases e<;>exact he)
 | halt x w'=>cases x<;>simp only[Oper.upon] at h ⊢ <;> exact h
theorem CR{listed:Array Bool}{a:Act}{w:World}(hB:(Region.ready md ops listed==[])=true)(h:Q .normal a w) :
  ∀ fuel,wW P md ops Q S early fuel listed a w
 | 0=>⟨by simpa using hB,h⟩
 | _+1=>⟨fun _=>h,by rw[show Region.ready md ops listed=[] by simpa using hB];simp⟩
theorem QV {id:Nat} {a:Act} {w:World} (S:World->Prop) (early:List Nat) (hm:P.follows .mixedOrders=true)
  (h:wW P .any ops Q S early ops.size (Array.replicate ops.size false) a { w with drawn:=w.drawn+1 }):(Code.region id ops true).wp P Q a w :=
 wp_region_any hm (QS _ _ _ _ h)
def QW:Op->Bool
 | .move _=>true
 | .assign _=>true
 | .load _ _=>true
 | .fieldAddr _ _ _=>true
 | .indexAddr _ _ _=>true
 | .nilCheck _=>true
 | .build _ _=>true
 | _=>false
theorem Hi{P:Program}(s:Sem Value){w w':World}{n:Next}(hr:(do let x <- s;pure (Next.value x):Sem Next).run P w = .ok n w'):∃ v,n = .value v:=by
 simp only[Sem.run_bind,Sem.run_pure] at hr;generalize s.run P w=r at hr
 cases r with
 | ok v w1 =>
  simp only[Result.andThen] at hr;cases hr;exact⟨v,rfl⟩
 | halt x w1=>simp only[Result.andThen] at hr;cases hr
theorem QY{P:Program}{ρ:Operand->Value}{o:Oper}(h:QW o.op=true){w w':World}{n:Next}(hr:(execOp ρ o).run P w = .ok n w'):∃ v,n = .value v:=by
 unfold execOp at hr
 cases jP:o.op with
 | move x=>rw[jP] at hr;simp only[Sem.run_pure] at hr;cases hr;exact⟨_,rfl⟩
 | assign x=>rw[jP] at hr;simp only[Sem.run_pure] at hr;cases hr;exact⟨_,rfl⟩
 | load t a=>rw[jP] at hr;exact Hi _ hr
 | build t ps=>rw[jP] at hr;exact Hi _ hr
 | fieldAddr t a f=>rw[jP] at hr;exact Hi _ hr
 | indexAddr t a f=>rw[jP] at hr;exact Hi _ hr
 | nilCheck x =>
  rw[jP] at hr
  have sK:∀ v:Value,(pure (Next.value v):Sem Next).run P w = .ok n w'->∃ v,n = .value v:=fun v h=>by
   simp only[Sem.run_pure] at h;cases h;exact⟨v,rfl⟩
  dsimp only at hr
  split at hr
  ·simp[runtimePanic] at hr
  ·simp[runtimePanic] at hr
  ·simp[runtimePanic] at hr
  ·split at hr
   ·simp[runtimePanic] at hr
   ·have uK:∀ {α:Type} (r:Result α) (f:α->World->Result Next),(∀ a w1,f a w1 = .ok n w'->∃ v,n = .value v)->r.andThen f = .ok n w'->∃ v,n = .value v:=fun r f hf h=>by
     cases r with
     | ok a w1=>exact hf a w1 h
     | halt x w1=>simp only[Result.andThen] at h;cases h
    simp only[Sem.run_bind] at hr;refine uK _ _ (fun a w1 h=>?_) hr;refine uK _ _ (fun a w1 h=>?_) h
    split at h
    ·simp only[Sem.run_bind] at h
     refine uK _ _ (fun a w1 h=>?_) h;simp only[Sem.run_pure] at h;cases h;exact⟨_,rfl⟩
    ·simp only[Sem.run_pure] at h;cases h;exact⟨_,rfl⟩
   ·exact sK _ hr
  ·exact sK _ hr
 | _=>rw[jP] at h;cases h
def iH(l:List Oper)(is:List Nat):List (Nat×Oper):=is.filterMap (fun i=>(l[i]?).map (fun o=>(i,o)))
theorem lk{l:List Oper}{is:List Nat}{p:Nat×Oper}(h:p∈iH l is):l[p.1]?=some p.2:=by
 obtain⟨i,_,hi⟩:=List.mem_filterMap.1 h
 cases ho:l[i]? with
 | none=>rw[ho] at hi;cases hi
 | some o=>rw[ho] at hi;cases hi;exact ho
def Sk(md:Region.Mode)(ops:Array Oper)(early:List Nat):List (Nat×Oper)->Array Bool->Bool
 | [],_=>true
 | p::l,listed=>Region.free md ops listed p.1&&(Region.ready md ops listed).contains p.1&&QT md ops early listed p.1&&Sk md ops early l (listed.setIfInBounds p.1 true)
def Sl:List (Nat×Oper)->Array Bool->Array Bool
 | [],listed=>listed
 | p::l,listed=>Sl l (listed.setIfInBounds p.1 true)
def ln(sz:Nat):List Oper->Bool
 | []=>true
 | o::l=>QW o.op&&(match o.dst with | some d=>decide (d<sz)&&l.all (fun o'=>o'.dst != some d) | none=>false)&&ln sz l
theorem QZ(a:Act)(d:Option Tmp)(v:Value):(a.put d v).tmps.size=a.tmps.size:=by
 cases d<;>simp[Act.put]
theorem CS{w:World}{F:Act}(d:Nat):∀ (l:List (Nat×Oper)) (a:Act),(∀ p∈l,ops[p.1]?=some p.2)->(l.map (·.2)).all (fun o'=>o'.dst != some d)=true->wpStill P ops w (fun a'=>a'=F) (l.map (·.2)) a->F.tmps[d]?=a.tmps[d]?
 | [],a,_,_,h=>by
  have h:a=F:=h;rw[h]
 | (k,o)::l,a,hl,hd,h=>by
  have h0:ops[k]?=some o:=hl (k,o) (by simp)
  have aV:stOp P ops w k (wpStill P ops w (fun a'=>a'=F) (l.map (·.2))) a:=by unfold stOp;simp only[h0];exact h
  obtain⟨v,hy,hK⟩:=yieldsAt_of_stOp h0 aV;simp only[List.map_cons,List.all_cons,Bool.and_eq_true,bne_iff_ne,ne_eq] at hd;rw[CS d l _ (fun p hp=>hl p (List.mem_cons_of_mem _ hp)) hd.2 hK]
  cases ho:o.dst with
  | none=>rfl
  | some e =>
   have cT:e≠d:=fun x=>hd.1 (by rw[ho,x])
   simp only[Act.put];rw[Array.getElem?_setIfInBounds_ne cT]
theorem RA{F:Act}{fuel:Nat}(gF:Region.noSelect ops=true)(hQ:∀ c a (d:Option Tmp) v w,Q (.panic c) (a.put d v) w->Q (.panic c) a w) :
  ∀ (l:List (Nat×Oper)) (listed:Array Bool) (a:Act) (w:World),(∀ p∈l,ops[p.1]?=some p.2)->Sk md ops early l listed=true->ln a.tmps.size (l.map (·.2))=true ->
   (∀ w',S w'->wpStill P ops w' (fun a'=>a'=F) (l.map (·.2)) a)->S w->wW P md ops Q S early fuel (Sl l listed) F w->wW P md ops Q S early (l.length+fuel) listed a w
 | [],listed,a,w,_,_,_,h,hS,H=>by
  have:a=F:=h w hS;subst this;rw[show([]:List (Nat×Oper)).length+fuel=fuel by simp];exact H
 | (k,o)::l,listed,a,w,hl,hB,hD,h,hS,H=>by
  have h0:ops[k]?=some o:=hl (k,o) (by simp)
  have uJ:∀ p∈l,ops[p.1]?=some p.2:=fun p hp=>hl p (List.mem_cons_of_mem _ hp)
  have key:∀ w',S w'->∃ v,YieldsAt P ops w' o v a/\wpStill P ops w' (fun a'=>a'=F) (l.map (·.2)) (a.put o.dst v):=fun w' bM=>by
   have aV:stOp P ops w' k (wpStill P ops w' (fun a'=>a'=F) (l.map (·.2))) a:=by unfold stOp;simp only[h0];exact h w' bM
   exact yieldsAt_of_stOp h0 aV
  simp only[Sk,Bool.and_eq_true] at hB;obtain⟨⟨⟨hf,hr⟩,ho⟩,hB'⟩:=hB;simp only[List.map_cons,ln,Bool.and_eq_true] at hD;obtain⟨⟨Ja,mR⟩,hD'⟩:=hD
  cases eD:o.dst with
  | none=>rw[eD] at mR;cases mR
  | some d =>
   rw[eD] at mR;simp only[Bool.and_eq_true,decide_eq_true_eq] at mR
   have hv:∀ w' v,wpStill P ops w' (fun a'=>a'=F) (l.map (·.2)) (a.put o.dst v)->v=(F.tmps[d]?).getD undef:=fun w' v hk=>by
    rw[CS d l _ uJ mR.2 hk,eD];simp only[Act.put];rw[Array.getElem?_setIfInBounds_self_of_lt mR.1];rfl
   have hy:YieldsIf P ops S o ((F.tmps[d]?).getD undef) a:=by
    have kY:∀ w',S w'->(Region.wanted o (yielded ops a.tmps)=true/\(execOp a.eval o).run P w' = .ok (.value ((F.tmps[d]?).getD undef)) w')\/(Region.wanted o (yielded ops a.tmps)=false/\(F.tmps[d]?).getD undef=undef):=fun w' bM=>by
     obtain⟨v,hy,hk⟩:=key w' bM;obtain rfl:=hv w' v hk;rcases hy with ⟨h1,h2 | ⟨h2,_⟩ | ⟨f,args,h2,_⟩⟩ | h1
     ·exact .inl ⟨h1,h2⟩
     ·obtain⟨_,h3⟩:=QY Ja h2;cases h3
     ·obtain⟨_,h3⟩:=QY Ja h2;cases h3
     ·exact .inr h1
    rcases kY w hS with ⟨h1,_⟩ | h1
    ·refine .inl ⟨h1,fun w' bM=>?_⟩
     rcases kY w' bM with h2 | h2
     ·exact h2.2
     ·rw[h1] at h2;cases h2.1
    ·exact .inr h1
   rw[show((k,o)::l).length+fuel=(l.length+fuel)+1 by simp;omega];refine QU k h0 (by simp[gF,hf,ho];simpa using hr) (fun c a w hh=>hQ c a _ _ w hh) hS hy ?_;refine RA gF hQ l _ _ w uJ hB' (by rw[QZ];exact hD') (fun w' bM=>?_) hS H;obtain⟨v',f5,kZ⟩:=key w' bM;rw[<- hv w' v' kZ];exact kZ
def Nn(P:Program)(ops:Array Oper)(Q:Exit->Act->World->Prop)(S:World->Prop):List Oper->Act->World->Prop
 | [],a,w=>Q .normal a w
 | [o],a,w=>wpList P ops Q [o] a w
 | o::o'::l,a,w=>wpList P ops (Ks (fun a' w'=>S w'/\Nn P ops Q S (o'::l) a' w') Q) [o] a w
theorem jT{o o':Oper}{l:List Oper}{a:Act}{w:World}(h:wpList P ops (Ks (fun a' w'=>S w'/\Nn P ops Q S (o'::l) a' w') Q) [o] a w):Nn P ops Q S (o::o'::l) a w:=h
theorem Kt{o:Oper}{a:Act}{w:World}(h:wpList P ops Q [o] a w):Nn P ops Q S [o] a w:=h
theorem aI{K:Act->World->Prop}{a:Act}{w:World}(h:K a w):Ks K Q .normal a w:=h
def No(md:Region.Mode)(ops:Array Oper):List (Nat×Oper)->Array Bool->Bool
 | [],listed=>Region.ready md ops listed==[]
 | p::l,listed=>Region.ready md ops listed==[p.1]&&No md ops l (listed.setIfInBounds p.1 true)
theorem RD:∀ (l:List (Nat×Oper)) (listed:Array Bool) (a:Act) (w:World),(∀ p∈l,ops[p.1]?=some p.2)->No md ops l listed=true->(∀ p,l.getLast?=some p->early.contains p.1=false) ->
  Nn P ops Q S (l.map (·.2)) a w->wW P md ops Q S early l.length listed a w
 | [],listed,a,w,_,hB,_,h=>CR hB h 0
 | [(k,o)],listed,a,w,hl,hB,he,h=>by
  have h0:ops[k]?=some o:=hl (k,o) (by simp);simp only[No,Bool.and_eq_true] at hB
  have hr:Region.ready md ops listed=[k]:=by simpa using hB.1
  refine⟨fun h1=>(by rw[hr] at h1;cases h1),fun j hj=>?_⟩;rw[hr] at hj
  obtain rfl:j=k:=by simpa using hj
  have f7:early.contains j=false:=he (j,o) rfl
  have h3:wpOp P ops Q j (fun a' w'=>Q .normal a' w') a w:=by
   unfold wpOp;simp only[h0];exact h
  exact wpOp_mono (fun a' w' hq=>⟨fun hh=>absurd (f7.symm.trans hh) Bool.false_ne_true,CR hB.2 hq 0⟩) h3
 | (k,o)::(k',o')::l,listed,a,w,hl,hB,he,h=>by
  have h0:ops[k]?=some o:=hl (k,o) (by simp);rw[show((k,o)::(k',o')::l).length=((k',o')::l).length+1 from rfl];rw[No] at hB;simp only[Bool.and_eq_true] at hB
  have hr:Region.ready md ops listed=[k]:=by simpa using hB.1
  have h:wpList P ops (Ks (fun a' w'=>S w'/\Nn P ops Q S (o'::l.map (·.2)) a' w') Q) [o] a w:=h
  have qR:=fun a' w'=>RD ((k',o')::l) (listed.setIfInBounds k true) a' w' (fun p hp=>hl p (List.mem_cons_of_mem _ hp)) hB.2 (fun p hp=>he p (by rw[List.getLast?_cons_cons];exact hp))
  have h3:wpOp P ops Q k (fun a' w'=>S w'/\Nn P ops Q S (o'::l.map (·.2)) a' w') a w:=by
   unfold wpOp;simp only[h0];unfold wpList at h;split
   ·rename_i hw
    rw[if_pos hw] at h;exact h.imp CQ id
   ·rename_i hw
    rw[if_neg hw] at h;exact h
  refine⟨fun h1=>(by rw[hr] at h1;cases h1),fun j hj=>?_⟩;rw[hr] at hj
  obtain rfl:j=k:=by simpa using hj
  exact wpOp_mono (fun a' w' hq=>⟨fun _=>hq.1,qR a' w' hq.2⟩) h3
theorem Ku {id:Nat} {a:Act} {w:World} {l:List Oper} (hd tl:List Nat) (S:World->Prop) (hm:P.follows .mixedOrders=true)
  (hB:(Region.noSelect l.toArray&&Sk .any l.toArray (hd++tl.dropLast) (iH l hd) (Array.replicate l.length false)&&No .any l.toArray (iH l tl) (Sl (iH l hd) (Array.replicate l.length false))&&decide ((iH l hd).length+(iH l tl).length=l.length)
   && (match (iH l tl).getLast? with | some p=>!(hd++tl.dropLast).contains p.1 | none=>true))=true)
  (hD:ln a.tmps.size ((iH l hd).map (·.2))=true) (hQ:∀ c a (d:Option Tmp) v w,Q (.panic c) (a.put d v) w->Q (.panic c) a w) (hS:S w.drew)
  (h:∃ F,(∀ w',S w'->wpStill P l.toArray w' (fun a'=>a'=F) ((iH l hd).map (·.2)) a)/\Nn P l.toArray Q S ((iH l tl).map (·.2)) F w.drew):(Code.region id l.toArray true).wp P Q a w:=by
 obtain⟨F,h1,h2⟩:=h;simp only[Bool.and_eq_true,decide_eq_true_eq] at hB;obtain⟨⟨⟨⟨gF,hh⟩,hs⟩,aQ⟩,iO⟩:=hB;refine QV S (hd++tl.dropLast) hm ?_
 have iK:l.toArray.size=l.length:=by simp
 have H1:=RD (P:=P) (md:=.any) (ops:=l.toArray) (Q:=Q) (S:=S) (early:=(hd++tl.dropLast)) (iH l tl) (Sl (iH l hd) (Array.replicate l.length false)) F w.drew (fun p hp=>by simpa using lk hp) hs
  (fun p hp=>by rw[hp] at iO;simpa using iO) h2
 have H2:=RA (P:=P) (md:=.any) (ops:=l.toArray) (Q:=Q) (S:=S) (early:=(hd++tl.dropLast)) (F:=F) (fuel:=(iH l tl).length) gF hQ (iH l hd) (Array.replicate l.length false) a w.drew
  (fun p hp=>by simpa using lk hp) hh hD h1 hS H1
 rw[aQ] at H2;rw[iK];exact H2
end
end
section
open Go.RowKit
theorem Only.belowB{w wk w':World}{p:Nat->Prop}(h:Only w wk p)(hb:Below w.heap.size wk w'):Only w w' p :=
 ⟨hb.os.trans h.os,hb.tape.trans h.tape,hb.output.trans h.output,Nat.le_trans h.size hb.size,fun k hk hp=>(hb.block k hk).trans (h.block k hk hp)⟩
structure KidsM (w wr:World) (lo:Nat) (bad:Nat->Prop) (ao:Option Addr) (k cp:Nat) (ps:List Prd) (vss:List (List Value)):Prop where
 own:OwnK wr lo 5 k cp vss.flatten ao
 len:vss.length=ps.length
 cnt:k=ps.length
 each:∀ (i:Nat) (p:Prd) (vs:List Value),ps[i]?=some p->vss[i]?=some vs->cK wr (fun g=>w.heap.size<=g/\¬ bad g/\blk ao≠some g) p vs
theorem cK.mono{w:World}{P P':Nat->Prop}{p:Prd}{vs:List Value}(h:cK w P p vs)(hP:∀ g,P g->g<w.heap.size->P' g):cK w P' p vs :=
 cK.keep (fun _ _ _=>rfl) (Nat.le_refl _) hP p vs h
theorem cK.form{w:World}{P:Nat->Prop}{p:Prd}{vs:List Value}(h:cK w P p vs):∃ a n c,vs=[.int .i64 p.k,.string (aB p.l),.string (aB p.r),.int .i64 p.c,.slice a n c]/\n=p.ks.length:=by
 cases p with
 | mk k l r c ks =>
  unfold cK at h;obtain⟨ao,cap,rfl,_⟩:=h;exact⟨ao,_,cap,rfl,rfl⟩
theorem oT(vs:List Value)(h:vs.length=5):(Tryz.prog.info? 54).map (·.size)=some vs.toArray.size:=by
 rw[List.size_toArray,h]
 kernel_rfl
end
end Go.Proofs.YtbcgocpihobjnaaGreatDoor
