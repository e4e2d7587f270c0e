import Derived.Test.YtbcgocpihobjnaaGreatDoorCL2
import Derived.Test.YtbcgocpihobjnaaGreatDoorCL10
set_option linter.all false
namespace Go.Proofs.YtbcgocpihobjnaaGreatDoor
section
open Go.RowKit
section
variable {P:Program} {ops:Array Oper} {md:Region.Mode} {Q:Exit->Act->World->Prop}
structure Mid (ops:Array Oper) (F:Nat->World->Value->Prop) (a0:Act) (w0:World) (listed:Array Bool) (a:Act) (w:World):Prop where
 size:listed.size=ops.size
 below:Below w0.heap.size w0 w
 defers:a.defers=a0.defers
 tsize:a.tmps.size=a0.tmps.size
 done:∀ (i:Nat) (o:Oper) (d:Tmp),ops[i]?=some o->listed.getD i false=true->o.dst=some d->F i w (a.tmps.getD d undef)
 same:∀ t,(∀ (i:Nat) (o:Oper),ops[i]?=some o->o.dst≠some t)->a.tmps.getD t undef=a0.tmps.getD t undef
theorem Np{l:Array Bool}{i:Nat}(hi:i<l.size):l.getD i true=l.getD i false:=by simp[Array.getD,hi]
theorem CT(a:Act)(d:Tmp)(v:Value)(hd:d<a.tmps.size):(a.put (some d) v).tmps.getD d undef=v:=by
 simp[Act.put,Array.getD,hd]
theorem Sm(a:Act)(d t:Tmp)(v:Value)(h:t≠d):(a.put (some d) v).tmps.getD t undef=a.tmps.getD t undef:=by
 simp[Act.put,Array.getElem?_setIfInBounds,Ne.symm h]
theorem yM{l:Array Bool}{i j:Nat}(hi:i<l.size):(l.setIfInBounds i true).getD j false=(if j=i then true else l.getD j false):=by
 by_cases h:j=i
 ·subst h;simp[Array.getD,hi]
 ·rw[if_neg h];simp[Array.getElem?_setIfInBounds,Ne.symm h]
theorem Mid.next {F:Nat->World->Value->Prop} {a0:Act} {w0:World} {listed:Array Bool} {a:Act} {w w':World} (h:Mid ops F a0 w0 listed a w)
  (hF:∀ i w w' v,F i w v->Below w.heap.size w w'->F i w' v)
  (eD:∀ (i j:Nat) (oi oj:Oper) (d:Tmp),ops[i]?=some oi->ops[j]?=some oj->oi.dst=some d->oj.dst=some d->i=j)
  (aT:∀ (i:Nat) (o:Oper),ops[i]?=some o->∃ d,o.dst=some d/\d<a0.tmps.size)
  {i:Nat} {o:Oper} (hi:ops[i]?=some o) {v:Value} (hb:Below w.heap.size w w') (hv:F i w' v):Mid ops F a0 w0 (listed.setIfInBounds i true) (a.put o.dst v) w':=by
 obtain⟨d,hd,qS⟩:=aT i o hi
 have vY:i<listed.size:=by rw[h.size];exact(Array.getElem?_eq_some_iff.1 hi).1
 have qv:d<a.tmps.size:=by rw[h.tsize];exact qS
 refine⟨by simp[h.size],h.below.trans (hb.mono h.below.size),?_,?_,fun j oj dj hj hl Jc=>?_,fun t ht=>?_⟩
 ·rw[hd];exact h.defers
 ·rw[hd];simp[Act.put,h.tsize]
 ·rw[yM vY] at hl
  rw[hd];by_cases iI:j=i
  ·subst iI
   rw[hi] at hj;obtain rfl:=Option.some.inj hj;rw[hd] at Jc;obtain rfl:=Option.some.inj Jc;rw[CT a _ v qv];exact hv
  ·rw[if_neg iI] at hl
   have cT:dj≠d:=fun e=>iI (eD j i oj o dj hj hi Jc (by rw[hd,e]))
   rw[Sm a d dj v cT];exact hF j w w' _ (h.done j oj dj hj hl Jc) hb
 ·rw[hd,Sm a d t v (fun e=>ht i o hi (by rw[hd,e]))]
  exact h.same t ht
def wX(listed:Array Bool):Nat:=listed.toList.countP (fun b=>!b)
theorem Sn{listed:Array Bool}{i:Nat}(hi:i<listed.size)(hl:listed.getD i false=false):wX (listed.setIfInBounds i true)+1=wX listed:=by
 unfold wX
 have key:∀ (l:List Bool) (i:Nat),l[i]?=some false->(l.set i true).countP (fun b=>!b)+1=l.countP (fun b=>!b):=by
  intro l
  induction l with
  | nil=>intro i h;simp at h
  | cons b l ih =>
   intro i h
   cases i with
   | zero=>simp at h;subst h;simp
   | succ i =>
    have:=ih i (by simpa using h);rw[List.set_cons_succ,List.countP_cons,List.countP_cons];omega
 have h2:listed.toList[i]?=some false:=by
  rw[Array.getElem?_toList,Array.getElem?_eq_getElem hi]
  have:listed.getD i false=listed[i]:=by simp[Array.getD,hi]
  rw[<- this,hl]
 rw[Array.toList_setIfInBounds];exact key _ i h2
theorem dx{listed:Array Bool}(h:wX listed=0):∀ i,i<listed.size->listed.getD i false=true:=by
 intro i hi;unfold wX at h;rw[List.countP_eq_zero] at h;have:=h listed[i] (by simp)
 have e:listed.getD i false=listed[i]:=by simp[Array.getD,hi]
 rw[e];simpa using this
theorem oJ{l:List Oper}{n:Nat}(h:l.all (fun o=>match o.dst with | some d=>decide (d<n) | none=>false)=true):∀ (i:Nat) (o:Oper),l.toArray[i]?=some o->∃ d,o.dst=some d/\d<n:=by
 intro i o hi;rw[List.all_eq_true] at h;have hm:o∈l:=List.mem_of_getElem? (by simpa using hi);have:=h o hm
 cases hd:o.dst with
 | none=>rw[hd] at this;simp at this
 | some d=>rw[hd] at this;exact⟨d,rfl,of_decide_eq_true this⟩
theorem jD{l:List Oper}(h:decide ((l.map (·.dst)).Nodup)=true):∀ (i j:Nat) (oi oj:Oper) (d:Tmp),l.toArray[i]?=some oi->l.toArray[j]?=some oj->oi.dst=some d->oj.dst=some d->i=j:=by
 intro i j oi oj d hi hj h1 h2;have hn:=of_decide_eq_true h
 have iP:(l.map (·.dst))[i]?=some (some d):=by rw[List.getElem?_map,show l[i]?=some oi by simpa using hi];simp[h1]
 have xG:(l.map (·.dst))[j]?=some (some d):=by rw[List.getElem?_map,show l[j]?=some oj by simpa using hj];simp[h2]
 have vY:=(List.getElem?_eq_some_iff.1 iP).1;exact(List.getElem?_inj vY hn).1 (iP.trans xG.symm)
theorem aP{i:Nat}{o:Oper}{a:Act}{w:World}{K:Act->World->Prop}(hi:ops[i]?=some o)(h:wpList P ops (Ks K Q) [o] a w):wpOp P ops Q i K a w:=by
 unfold wpOp;simp only[hi];unfold wpList at h;split
 ·rename_i hw
  rw[if_pos hw] at h;exact h.imp CQ id
 ·rename_i hw
  rw[if_neg hw] at h;exact h
theorem RE{o:Oper}{listed:Array Bool}(hl:∀ e∈o.after,Region.binds .any e=true->listed.getD e.on false=true)(k:Nat)(h:o.after.toList.any (fun e=>e.on==k&&Region.binds .any e)=true):listed.getD k false=true:=by
 obtain⟨e,he,h2⟩:=List.any_eq_true.1 h;rw[Bool.and_eq_true,beq_iff_eq] at h2;rw[<- h2.1];exact hl e (by simpa using he) h2.2
theorem fcL{f:Act->Nat->Act}{b:Act}{d:Nat}{ds:List Nat}:(d::ds).foldl f b=ds.foldl f (f b d):=rfl
theorem fnL{f:Act->Nat->Act}{b:Act}:([]:List Nat).foldl f b=b:=rfl
theorem sbT{l:List Value}{i:Nat}{v:Value}:l.toArray.setIfInBounds i v=(l.set i v).toArray:=List.setIfInBounds_toArray ..
theorem scS{x v:Value}{l:List Value}{n:Nat}:(x::l).set (n+1) v=x::l.set n v:=rfl
theorem scZ{x v:Value}{l:List Value}:(x::l).set 0 v=v::l:=rfl
def lF(L:List Value)(i:Nat)(W:World)(v:Value):Prop:=match L[i]? with | some x=>v=x | none=>True
def CU(ops:Array Oper)(o:Oper)(j d:Nat):Bool:=(match ops[j]? with | some q=>q.dst==some d | none=>false)&&o.after.toList.any (fun e=>e.on==j&&Region.binds .any e)
theorem Mid.hC{ops:Array Oper}{F:Nat->World->Value->Prop}{a0:Act}{w0:World}{listed:Array Bool}{a:Act}{w:World}(H:Mid ops F a0 w0 listed a w){o:Oper}(hl:∀ e∈o.after,Region.binds .any e=true->listed.getD e.on false=true)(j:Nat)(d:Tmp)(h:CU ops o j d=true):F j w (a.tmps.getD d undef):=by
 unfold CU at h;rw[Bool.and_eq_true] at h;obtain⟨h1,h3⟩:=h
 cases hq:ops[j]? with
 | none=>rw[hq] at h1;cases h1
 | some q=>rw[hq] at h1;exact H.done j q d hq (RE hl j h3) (by simpa using h1)
theorem Mid.hL{ops:Array Oper}{L:List Value}{a0:Act}{w0:World}{listed:Array Bool}{t:Array Value}{df:List Deferred}{w:World}(H:Mid ops (lF L) a0 w0 listed ⟨t,df⟩ w){o:Oper}(hl:∀ e∈o.after,Region.binds .any e=true->listed.getD e.on false=true){f:Nat->Value}(hf:∀ d,t.getD d undef=f d)(j:Nat)(d:Tmp){x:Value}(h:CU ops o j d=true)(hx:L[j]?=some x):f d=x:=by
 have h1:=H.hC hl j d h;unfold lF at h1;rw[hx] at h1;exact(hf d).symm.trans h1
theorem Mid.hD{ops:Array Oper}{F:Nat->World->Value->Prop}{a0:Act}{w0:World}{listed:Array Bool}{a:Act}{w:World}(H:Mid ops F a0 w0 listed a w){o:Oper}(hl:∀ e∈o.after,Region.binds .any e=true->listed.getD e.on false=true)(j:Nat)(d:Tmp){q:Oper}(h1:ops[j]?=some q)(h2:q.dst=some d)(h3:o.after.toList.any (fun e=>e.on==j&&Region.binds .any e)=true):F j w (a.tmps.getD d undef):=H.done j q d h1 (RE hl j h3) h2
theorem L_{l:List Oper}{t:Tmp}(h:l.all (fun o=>o.dst != some t)=true):∀ (i:Nat) (o:Oper),l.toArray[i]?=some o->o.dst≠some t:=by
 intro i o hi e;rw[List.all_eq_true] at h;have:=h o (List.mem_of_getElem? (by simpa using hi));rw[e] at this;simp at this
theorem Mid.sm{l:List Oper}{F:Nat->World->Value->Prop}{a0:Act}{w0:World}{listed:Array Bool}{a:Act}{w:World}(H:Mid l.toArray F a0 w0 listed a w)(t:Nat)(h:l.all (fun o=>o.dst != some t)=true):a.tmps.getD t undef=a0.tmps.getD t undef:=H.same t (L_ h)
end
end
section
open Go.RowKit
section
variable {P:Program} {ops:Array Oper} {md:Region.Mode} {Q:Exit->Act->World->Prop}
theorem RG{listed:Array Bool}(hs:listed.size=ops.size)(h:∀ i,i<ops.size->listed.getD i false=true):Region.ready md ops listed=[]:=by
 cases hr:Region.ready md ops listed with
 | nil=>rfl
 | cons i l =>
  have hi:i∈Region.ready md ops listed:=by rw[hr];simp
  obtain⟨h1,o,h2,-⟩:=mem_ready.1 hi;have aE:=(Array.getElem?_eq_some_iff.1 h2).1;rw[Np (by rw[hs];exact aE),h i aE] at h1;cases h1
theorem M_{listed:Array Bool}(hs:listed.size=ops.size)(h:∀ i,i<ops.size->listed.getD i false=true){a:Act}{w:World}(hq:Q .normal a w):∀ f,wpAny P md ops Q f listed a w
 | 0=>⟨RG hs h,hq⟩
 | f+1=>⟨fun _=>hq,fun i hi=>by rw[RG hs h] at hi;cases hi⟩
theorem Mid.next1 {F F':Nat->World->Value->Prop} {a0:Act} {w0:World} {listed:Array Bool} {a:Act} {w w':World} (h:Mid ops F a0 w0 listed a w)
  (hF:∀ i v,F i w v->F' i w' v)
  (eD:∀ (i j:Nat) (oi oj:Oper) (d:Tmp),ops[i]?=some oi->ops[j]?=some oj->oi.dst=some d->oj.dst=some d->i=j)
  {i:Nat} {o:Oper} (hi:ops[i]?=some o) {d:Tmp} (hd:o.dst=some d) (qS:d<a0.tmps.size) {v:Value} (hb:Below w.heap.size w w') (hv:F' i w' v):Mid ops F' a0 w0 (listed.setIfInBounds i true) (a.put o.dst v) w':=by
 have vY:i<listed.size:=by rw[h.size];exact(Array.getElem?_eq_some_iff.1 hi).1
 have qv:d<a.tmps.size:=by rw[h.tsize];exact qS
 refine⟨by simp[h.size],h.below.trans (hb.mono h.below.size),?_,?_,fun j oj dj hj hl Jc=>?_,fun t ht=>?_⟩
 ·rw[hd];exact h.defers
 ·rw[hd];simp[Act.put,h.tsize]
 ·rw[yM vY] at hl
  rw[hd];by_cases iI:j=i
  ·subst iI
   rw[hi] at hj;obtain rfl:=Option.some.inj hj;rw[hd] at Jc;obtain rfl:=Option.some.inj Jc;rw[CT a _ v qv];exact hv
  ·rw[if_neg iI] at hl
   have cT:dj≠d:=fun e=>iI (eD j i oj o dj hj hi Jc (by rw[hd,e]))
   rw[Sm a d dj v cT];exact hF j _ (h.done j oj dj hj hl Jc)
 ·rw[hd,Sm a d t v (fun e=>ht i o hi (by rw[hd,e]))]
  exact h.same t ht
theorem Fe{l:List Oper}{n m:Nat}(h:(l.take n).all (fun o=>match o.dst with | some d=>decide (d<m) | none=>false)=true):∀ (i:Nat) (o:Oper),i<n->l.toArray[i]?=some o->∃ d,o.dst=some d/\d<m:=by
 intro i o hi ho;rw[List.all_eq_true] at h
 have hm:o∈l.take n:=by
  have:(l.take n)[i]?=some o:=by rw[List.getElem?_take_of_lt hi];simpa using ho
  exact List.mem_of_getElem? this
 have:=h o hm
 cases hd:o.dst with
 | none=>rw[hd] at this;simp at this
 | some d=>rw[hd] at this;exact⟨d,rfl,of_decide_eq_true this⟩
theorem N_{l:List Oper}(h:decide ((l.filterMap (·.dst)).Nodup)=true):∀ (i j:Nat) (oi oj:Oper) (d:Tmp),l.toArray[i]?=some oi->l.toArray[j]?=some oj->oi.dst=some d->oj.dst=some d->i=j:=by
 intro i j oi oj d hi hj h1 h2;have hn:=of_decide_eq_true h
 have iP:l[i]?=some oi:=by simpa using hi
 have xG:l[j]?=some oj:=by simpa using hj
 clear hi hj h
 induction l generalizing i j with
 | nil=>simp at iP
 | cons x l ih =>
  have GL:(l.filterMap (·.dst)).Nodup:=by
   rw[List.filterMap_cons] at hn
   split at hn
   ·exact hn
   ·exact(List.nodup_cons.1 hn).2
  have out:∀ (k:Nat) (ok:Oper),l[k]?=some ok->ok.dst=some d->x.dst=some d->False:=fun k ok hk h3 h4=>by
   rw[List.filterMap_cons,h4] at hn;exact(List.nodup_cons.1 hn).1 (List.mem_filterMap.2 ⟨ok,List.mem_of_getElem? hk,h3⟩)
  match i,j,iP,xG with
  | 0,0,_,_=>rfl
  | 0,j+1,iP,xG =>
   have e:x=oi:=by simpa using iP
   exact(out j oj (by simpa using xG) h2 (by rw[e];exact h1)).elim
  | i+1,0,iP,xG =>
   have e:x=oj:=by simpa using xG
   exact(out i oi (by simpa using iP) h1 (by rw[e];exact h2)).elim
  | i+1,j+1,iP,xG=>rw[ih i j GL (by simpa using iP) (by simpa using xG)]
end
end
section
open Go.RowKit
section
variable {P:Program} {ops:Array Oper} {md:Region.Mode} {Q:Exit->Act->World->Prop}
def zV(P:Program)(ops:Array Oper)(Q:Exit->Act->World->Prop):Nat->Nat->Act->World->Prop
 | 0,_,a,w=>Q .normal a w
 | k+1,i,a,w=>wpOp P ops Q i (fun a' w'=>zV P ops Q k (i+1) a' w') a w
theorem vM{i:Nat}{a:Act}{w:World}(h:Q .normal a w):zV P ops Q 0 i a w:=h
theorem nE{k i:Nat}{a:Act}{w:World}(h:wpOp P ops Q i (fun a' w'=>zV P ops Q k (i+1) a' w') a w):zV P ops Q (k+1) i a w:=h
end
end
section
open Go.RowKit
section
variable {P:Program} {ops:Array Oper} {md:Region.Mode} {Q:Exit->Act->World->Prop}
theorem dy(cJ:∀ (i:Nat) (o:Oper),ops[i]?=some o->∀ e∈o.after,Region.binds md e=true->e.on<i){listed:Array Bool}(hs:listed.size=ops.size)(h:Region.ready md ops listed=[]):∀ i,i<ops.size->listed.getD i false=true:=by
 intro i
 induction i using Nat.strongRecOn with
 | _ i ih =>
  intro hi
  cases hl:listed.getD i false with
  | true=>rfl
  | false =>
   have:i∈Region.ready md ops listed:=mem_ready.2 ⟨by rw[Np (by rw[hs];exact hi)];exact hl,ops[i],Array.getElem?_eq_getElem hi,fun e he hb=>ih e.on (cJ i _ (Array.getElem?_eq_getElem hi) e he hb) (Nat.lt_trans (cJ i _ (Array.getElem?_eq_getElem hi) e he hb) hi)⟩;rw[h] at this;exact absurd this List.not_mem_nil
theorem iV{l:List Oper}(h:l.zipIdx.all (fun p=>p.1.after.toList.all (fun e=>!Region.binds .any e||decide (e.on<p.2)))=true):∀ (i:Nat) (o:Oper),l.toArray[i]?=some o->∀ e∈o.after,Region.binds .any e=true->e.on<i:=by
 intro i o hi e he hb;rw[List.all_eq_true] at h
 have hm:(o,i)∈l.zipIdx:=by
  rw[List.mem_zipIdx_iff_getElem?];simpa using hi
 have h2:=List.all_eq_true.1 (h _ hm) e (by simpa using he);rw[hb] at h2;simpa using h2
end
end
section
open Go.RowKit
section
variable {P:Program} {ops:Array Oper} {md:Region.Mode} {Q:Exit->Act->World->Prop}
def Hj(md:Region.Mode)(ops:Array Oper)(L:Nat->Bool):Prop:=∀ (i:Nat) (o:Oper),ops[i]?=some o->L i=true->∀ e∈o.after,Region.binds md e=true->L e.on=true
theorem Hj.set{listed:Array Bool}{i:Nat}{o:Oper}(h:Hj md ops (fun j=>listed.getD j false))(hi:i<listed.size)(ho:ops[i]?=some o)(h3:∀ e∈o.after,Region.binds md e=true->listed.getD e.on false=true):Hj md ops (fun j=>(listed.setIfInBounds i true).getD j false):=by
 intro j oj hj hl e he hb;show(listed.setIfInBounds i true).getD e.on false=true;have aU:(listed.setIfInBounds i true).getD j false=true:=hl;rw[yM hi] at aU ⊢;by_cases iI:j=i
 ·subst iI
  rw[hj] at ho;obtain rfl:=Option.some.inj ho;split
  ·rfl
  ·exact h3 e he hb
 ·rw[if_neg iI] at aU
  split
  ·rfl
  ·exact h j oj hj aU e he hb
def lp(md:Region.Mode)(ops:Array Oper)(n:Nat):Prop:=∀ (i:Nat) (o:Oper),n<=i->ops[i]?=some o->∀ L:Nat->Bool,Hj md ops L->(∀ e∈o.after,Region.binds md e=true->L e.on=true)->∀ j,j<i->L j=true
theorem CV{n:Nat}(cJ:∀ (i:Nat) (o:Oper),ops[i]?=some o->∀ e∈o.after,Region.binds md e=true->e.on<i)(iO:lp md ops n) :
  ∀ (k i f:Nat) (listed:Array Bool) (a:Act) (w:World),Hj md ops (fun j=>listed.getD j false)->n<=i->i+k=ops.size->listed.size=ops.size->(∀ j,j<i->listed.getD j false=true)->(∀ j,i<=j->j<ops.size->listed.getD j false=false)->wX listed<=f->zV P ops Q k i a w->wpAny P md ops Q f listed a w
 | 0,i,f,listed,a,w,dW,_,hk,hs,h1,_,_,hq=>M_ hs (fun j hj=>h1 j (by omega)) hq f
 | k+1,i,0,listed,a,w,dW,_,hk,hs,h1,h2,hf,hq=>by
  have:=dx (Nat.le_zero.1 hf) i (by omega);rw[h2 i (Nat.le_refl _) (by omega)] at this;cases this
 | k+1,i,f+1,listed,a,w,dW,hn,hk,hs,h1,h2,hf,hq=>by
  have wA:=h2 i (Nat.le_refl _) (by omega);refine⟨fun hr=>?_,fun j hj=>?_⟩
  ·have:=dy cJ hs hr i (by omega)
   rw[wA] at this;cases this
  ·obtain⟨g1,o,g2,g3⟩:=mem_ready.1 hj
   have aE:=(Array.getElem?_eq_some_iff.1 g2).1;rw[Np (by rw[hs];exact aE)] at g1
   have fs:i<=j:=by
    rcases Nat.lt_or_ge j i with h | h
    ·rw[h1 j h] at g1;cases g1
    ·exact h
   have iI:j=i:=by
    rcases Nat.lt_or_eq_of_le fs with h | h
    ·have:=iO j o (by omega) g2 (fun j=>listed.getD j false) dW g3 i h
     rw[show listed.getD i false=true from this] at wA;cases wA
    ·exact h.symm
   subst iI;refine wpOp_mono (fun a' w' Bp=>?_) hq;refine CV cJ iO k (j+1) f _ a' w' (dW.set (by rw[hs];exact aE) g2 g3) (by omega) (by omega) (by simp[hs]) (fun l hl=>?_) (fun l hl aU=>?_) ?_ Bp
   ·rw[yM (by rw[hs];exact aE)]
    split
    ·rfl
    ·exact h1 l (by omega)
   ·rw[yM (by rw[hs];exact aE),if_neg (by omega)]
    exact h2 l (by omega) aU
   ·have:=Sn (by rw[hs];exact aE) g1
    omega
def Hk(ops:Array Oper)(n:Nat)(a0 a:Act):Prop:=∀ t,(∀ (i:Nat) (o:Oper),i<n->ops[i]?=some o->o.dst≠some t)->a.tmps.getD t undef=a0.tmps.getD t undef
theorem Hk.put{n:Nat}{a0 a:Act}{i:Nat}{o:Oper}(h:Hk ops n a0 a)(hi:i<n)(ho:ops[i]?=some o)(v:Value):Hk ops n a0 (a.put o.dst v):=by
 intro t ht
 cases hd:o.dst with
 | none=>exact h t ht
 | some d =>
  rw[Sm a d t v (fun e=>ht i o hi ho (by rw[hd,e]))];exact h t ht
theorem RH {F:Nat->World->Value->Prop} {a0:Act} {w0:World} {n k:Nat} (hn:ops.size=n+(k+1))
  (hF:∀ i w w' v,F i w v->Below w.heap.size w w'->F i w' v)
  (eD:∀ (i j:Nat) (oi oj:Oper) (d:Tmp),ops[i]?=some oi->ops[j]?=some oj->oi.dst=some d->oj.dst=some d->i=j)
  (aT:∀ (i:Nat) (o:Oper),i<n->ops[i]?=some o->∃ d,o.dst=some d/\d<a0.tmps.size)
  (cJ:∀ (i:Nat) (o:Oper),ops[i]?=some o->∀ e∈o.after,Region.binds md e=true->e.on<i)
  (iO:lp md ops n)
  (fP:∀ (i:Nat) (o:Oper),i<n->ops[i]?=some o->∀ listed a w,Mid ops F a0 w0 listed a w->Hk ops n a0 a->(∀ e∈o.after,Region.binds md e=true->listed.getD e.on false=true)->wpOp P ops Q i (fun a' w'=>∃ v,a'=a.put o.dst v/\Below w.heap.size w w'/\F i w' v) a w)
  (pE:∀ listed a w,Mid ops F a0 w0 listed a w->Hk ops n a0 a->(∀ i,i<n->listed.getD i false=true)->zV P ops Q (k+1) n a w) :
  ∀ (f:Nat) (listed:Array Bool) (a:Act) (w:World),Hj md ops (fun j=>listed.getD j false)->(∀ j,n<=j->j<ops.size->listed.getD j false=false)->wX listed<=f->Mid ops F a0 w0 listed a w->Hk ops n a0 a->wpAny P md ops Q f listed a w
 | 0,listed,a,w,dW,kW,hf,h,bA=>by
  have:=dx (Nat.le_zero.1 hf) n (by rw[h.size];omega);rw[kW n (Nat.le_refl _) (by omega)] at this;cases this
 | f+1,listed,a,w,dW,kW,hf,h,bA=>by
  by_cases aD:∀ i,i<n->listed.getD i false=true
  ·exact CV cJ iO (k+1) n (f+1) listed a w dW (Nat.le_refl _) hn.symm h.size aD kW hf (pE listed a w h bA aD)
  ·refine⟨fun hr=>absurd (fun i hi=>dy cJ h.size hr i (by omega)) aD,fun i hi=>?_⟩
   obtain⟨h1,o,h2,h3⟩:=mem_ready.1 hi;have aE:=(Array.getElem?_eq_some_iff.1 h2).1;rw[Np (by rw[h.size];exact aE)] at h1;by_cases qw:n<=i
   ·exact absurd (fun j hj=>iO i o qw h2 (fun j=>listed.getD j false) dW h3 j (by omega)) aD
   ·have iP:i<n:=by omega
    obtain⟨d,hd,qS⟩:=aT i o iP h2;refine wpOp_mono (fun a' w' hh=>?_) (fP i o iP h2 listed a w h bA h3);obtain⟨v,rfl,hb,hv⟩:=hh;refine RH hn hF eD aT cJ iO fP pE f _ _ _ (dW.set (by rw[h.size];exact aE) h2 h3) (fun j hj nJ=>?_) ?_ (h.next1 (fun j u hu=>hF j w w' u hu hb) eD h2 hd qS hb hv) (bA.put iP h2 v)
    ·rw[yM (by rw[h.size];exact aE),if_neg (by omega)]
     exact kW j hj nJ
    ·have:=Sn (by rw[h.size];exact aE) h1
     omega
theorem Ff {id:Nat} {a:Act} {w:World} {l:List Oper} (n k:Nat) (F:Nat->World->Value->Prop) (hm:P.follows .mixedOrders=true) (hn:l.toArray.size=n+(k+1))
  (hF:∀ i w w' v,F i w v->Below w.heap.size w w'->F i w' v)
  (eD:∀ (i j:Nat) (oi oj:Oper) (d:Tmp),l.toArray[i]?=some oi->l.toArray[j]?=some oj->oi.dst=some d->oj.dst=some d->i=j)
  (aT:∀ (i:Nat) (o:Oper),i<n->l.toArray[i]?=some o->∃ d,o.dst=some d/\d<a.tmps.size)
  (cJ:∀ (i:Nat) (o:Oper),l.toArray[i]?=some o->∀ e∈o.after,Region.binds .any e=true->e.on<i)
  (iO:lp .any l.toArray n)
  (fP:∀ (i:Nat) (o:Oper),i<n->l.toArray[i]?=some o->∀ listed a' w',Mid l.toArray F a w listed a' w'->Hk l.toArray n a a'->(∀ e∈o.after,Region.binds .any e=true->listed.getD e.on false=true)->wpOp P l.toArray Q i (fun a'' w''=>∃ v,a''=a'.put o.dst v/\Below w'.heap.size w' w''/\F i w'' v) a' w')
  (pE:∀ listed a' w',Mid l.toArray F a w listed a' w'->Hk l.toArray n a a'->(∀ i,i<n->listed.getD i false=true)->zV P l.toArray Q (k+1) n a' w') :
  (Code.region id l.toArray true).wp P Q a w:=by
 refine wp_region_any hm ?_;have hb:Below w.heap.size w { w with drawn:=w.drawn+1 }:=(Below.refl w.heap.size w).drew
 have hz:∀ i,(Array.replicate l.toArray.size false).getD i false=false:=fun i=>by simp[Array.getD]
 have h0:Mid l.toArray F a w (Array.replicate l.toArray.size false) a { w with drawn:=w.drawn+1 }:=by
  refine⟨by simp,hb,rfl,rfl,fun i o d hi hl=>?_,fun t _=>rfl⟩;rw[hz i] at hl;cases hl
 exact RH hn hF eD aT cJ iO fP pE _ _ _ _ (fun i o hi hl=>absurd ((hz i).symm.trans hl) (by simp)) (fun j _ _=>hz j) (by unfold wX;exact Nat.le_trans List.countP_le_length (by simp)) h0 (fun t _=>rfl)
def So(o:Oper):List Nat:=o.after.toList.filterMap (fun e=>if Region.binds .any e=true then some e.on else none)
def dz(l:List Oper):List Nat->Nat->List Nat
 | acc,0=>acc
 | acc,j+1=>dz l (if acc.contains j then(match l[j]? with | some o=>acc++So o | none=>acc) else acc) j
theorem CW{o:Oper}{j:Nat}(h:j∈So o):∃ e∈o.after,e.on=j/\Region.binds .any e=true:=by
 unfold So at h;obtain⟨e,he,h2⟩:=List.mem_filterMap.1 h
 split at h2
 ·rename_i hb
  exact⟨e,by simpa using he,Option.some.inj h2,hb⟩
 ·cases h2
theorem CY{l:List Oper}{L:Nat->Bool}(hW:Hj .any l.toArray L):∀ (k:Nat) (acc:List Nat),(∀ j∈acc,L j=true)->∀ j∈dz l acc k,L j=true
 | 0,acc,h,j,hj=>h j hj
 | k+1,acc,h,j,hj=>by
  unfold dz at hj;refine CY hW k _ (fun x hx=>?_) j hj
  split at hx
  ·rename_i hc
   split at hx
   ·rename_i o ho
    rcases List.mem_append.1 hx with hx | hx
    ·exact h x hx
    ·obtain⟨e,he,rfl,hb⟩:=CW hx
     exact hW k o (by simpa using ho) (h k (by simpa using hc)) e he hb
   ·exact h x hx
  ·exact h x hx
theorem Fg{l:List Oper}{n:Nat}(h:l.zipIdx.all (fun p=>decide (p.2<n)||(List.range p.2).all (fun j=>(dz l (So p.1) p.2).contains j))=true):lp .any l.toArray n:=by
 intro i o hi ho L hW hL j hj;rw[List.all_eq_true] at h
 have hm:(o,i)∈l.zipIdx:=by
  rw[List.mem_zipIdx_iff_getElem?];simpa using ho
 have:=h _ hm;rw[Bool.or_eq_true,decide_eq_true_eq] at this;rcases this with h1 | h1
 ·exact absurd h1 (by show ¬ i<n;omega)
 ·have:=List.all_eq_true.1 h1 j (List.mem_range.2 hj)
  refine CY hW i (So o) (fun x hx=>?_) j (by simpa using this);obtain⟨e,he,rfl,hb⟩:=CW hx;exact hL e he hb
theorem RI {F:Nat->World->Value->Prop} {a0:Act} {w0:World}
  (hF:∀ i w w' v,F i w v->Below w.heap.size w w'->F i w' v)
  (eD:∀ (i j:Nat) (oi oj:Oper) (d:Tmp),ops[i]?=some oi->ops[j]?=some oj->oi.dst=some d->oj.dst=some d->i=j)
  (aT:∀ (i:Nat) (o:Oper),ops[i]?=some o->∃ d,o.dst=some d/\d<a0.tmps.size)
  (cJ:∀ (i:Nat) (o:Oper),ops[i]?=some o->∀ e∈o.after,Region.binds md e=true->e.on<i)
  (fP:∀ (i:Nat) (o:Oper),ops[i]?=some o->∀ listed a w,Mid ops F a0 w0 listed a w->(∀ e∈o.after,Region.binds md e=true->listed.getD e.on false=true)->wpOp P ops Q i (fun a' w'=>∃ v,a'=a.put o.dst v/\Below w.heap.size w w'/\F i w' v) a w)
  (pE:∀ listed a w,Mid ops F a0 w0 listed a w->(∀ i,i<ops.size->listed.getD i false=true)->Q .normal a w) :
  ∀ (f:Nat) (listed:Array Bool) (a:Act) (w:World),wX listed<=f->Mid ops F a0 w0 listed a w->wpAny P md ops Q f listed a w
 | 0,listed,a,w,hf,h=>by
  have aD:=dx (Nat.le_zero.1 hf);rw[h.size] at aD;refine⟨?_,pE listed a w h aD⟩
  cases hr:Region.ready md ops listed with
  | nil=>rfl
  | cons i l =>
   have hi:i∈Region.ready md ops listed:=by rw[hr];simp
   obtain⟨h1,o,h2,-⟩:=mem_ready.1 hi;have aE:=(Array.getElem?_eq_some_iff.1 h2).1;rw[Np (by rw[h.size];exact aE),aD i aE] at h1;cases h1
 | f+1,listed,a,w,hf,h=>by
  refine⟨fun hr=>pE listed a w h (dy cJ h.size hr),fun i hi=>?_⟩;obtain⟨h1,o,h2,h3⟩:=mem_ready.1 hi;have aE:=(Array.getElem?_eq_some_iff.1 h2).1;rw[Np (by rw[h.size];exact aE)] at h1;refine wpOp_mono (fun a' w' hh=>?_) (fP i o h2 listed a w h h3);obtain⟨v,rfl,hb,hv⟩:=hh;refine RI hF eD aT cJ fP pE f _ _ _ ?_ (h.next hF eD aT h2 hb hv);have:=Sn (by rw[h.size];exact aE) h1;omega
theorem oK {id:Nat} {a:Act} {w:World} {l:List Oper} (F:Nat->World->Value->Prop) (hm:P.follows .mixedOrders=true)
  (hF:∀ i w w' v,F i w v->Below w.heap.size w w'->F i w' v)
  (eD:∀ (i j:Nat) (oi oj:Oper) (d:Tmp),l.toArray[i]?=some oi->l.toArray[j]?=some oj->oi.dst=some d->oj.dst=some d->i=j)
  (aT:∀ (i:Nat) (o:Oper),l.toArray[i]?=some o->∃ d,o.dst=some d/\d<a.tmps.size)
  (cJ:∀ (i:Nat) (o:Oper),l.toArray[i]?=some o->∀ e∈o.after,Region.binds .any e=true->e.on<i)
  (fP:∀ (i:Nat) (o:Oper),l.toArray[i]?=some o->∀ listed a' w',Mid l.toArray F a w listed a' w'->(∀ e∈o.after,Region.binds .any e=true->listed.getD e.on false=true)->wpOp P l.toArray Q i (fun a'' w''=>∃ v,a''=a'.put o.dst v/\Below w'.heap.size w' w''/\F i w'' v) a' w')
  (pE:∀ listed a' w',Mid l.toArray F a w listed a' w'->(∀ i,i<l.toArray.size->listed.getD i false=true)->Q .normal a' w') :
  (Code.region id l.toArray true).wp P Q a w:=by
 refine wp_region_any hm ?_;have hb:Below w.heap.size w { w with drawn:=w.drawn+1 }:=(Below.refl w.heap.size w).drew
 have h0:Mid l.toArray F a w (Array.replicate l.toArray.size false) a { w with drawn:=w.drawn+1 }:=by
  refine⟨by simp,hb,rfl,rfl,fun i o d hi hl=>?_,fun t _=>rfl⟩
  have:(Array.replicate l.toArray.size false).getD i false=false:=by
   simp[Array.getD]
  rw[this] at hl;cases hl
 exact RI hF eD aT cJ fP pE _ _ _ _ (by unfold wX;exact Nat.le_trans List.countP_le_length (by simp)) h0
theorem lq(f:Nat->Value):∀ (ds:List Nat) (b:Act),(ds.foldl (fun b d=>b.put (some d) (f d)) b).tmps.size=b.tmps.size/\(ds.foldl (fun b d=>b.put (some d) (f d)) b).defers=b.defers /\
  ∀ t,t<b.tmps.size->(ds.foldl (fun b d=>b.put (some d) (f d)) b).tmps.getD t undef=if t∈ds then f t else b.tmps.getD t undef
 | [],b=>⟨rfl,rfl,fun t _=>by simp⟩
 | d::ds,b=>by
  obtain⟨h1,h2,h3⟩:=lq f ds (b.put (some d) (f d))
  have hs:(b.put (some d) (f d)).tmps.size=b.tmps.size:=by simp[Act.put]
  refine⟨h1.trans hs,h2,fun t ht=>?_⟩;rw[List.foldl_cons,h3 t (by rw[hs];exact ht)];by_cases ft:t∈ds
  ·rw[if_pos ft,if_pos (List.mem_cons_of_mem _ ft)]
  ·rw[if_neg ft]
   by_cases e:t=d
   ·subst e
    rw[CT b t (f t) ht,if_pos (List.mem_cons_self ..)]
   ·rw[Sm b d t (f d) e,if_neg (fun h=>(List.mem_cons.1 h).elim e ft)]
theorem Mid.act{F:Nat->World->Value->Prop}{a0:Act}{w0:World}{listed:Array Bool}{a:Act}{w:World}(h:Mid ops F a0 w0 listed a w)(ds:List Nat)(qS:∀ t,t ∉ ds->∀ (i:Nat) (o:Oper),ops[i]?=some o->o.dst≠some t):a=ds.foldl (fun b d=>b.put (some d) (a.tmps.getD d undef)) a0:=by
 obtain⟨h1,h2,h3⟩:=lq (fun d=>a.tmps.getD d undef) ds a0;have hd:=h.defers;have hs:=h.tsize;have hk:=h.same;generalize ds.foldl (fun b d=>b.put (some d) (a.tmps.getD d undef)) a0=b at *
 have ht:a.tmps=b.tmps:=by
  apply Array.ext
  ·rw[hs,h1]
  ·intro t ha hb
   have e1:a.tmps.getD t undef=a.tmps[t]:=by simp[Array.getD,ha]
   have e2:b.tmps.getD t undef=b.tmps[t]:=by simp[Array.getD,hb]
   refine e1.symm.trans (Eq.trans ?_ e2);rw[h3 t (by rw[<- hs];exact ha)];by_cases hn:t∈ds
   ·rw[if_pos hn]
   ·rw[if_neg hn]
    exact hk t (qS t hn)
 obtain⟨ta,da⟩:=a;obtain⟨tb,db⟩:=b;have e1:ta=tb:=ht;have e2:da=db:=hd.trans h2.symm;rw[e1,e2]
theorem Mid.actz{F:Nat->World->Value->Prop}{a0:Act}{w0:World}{listed:Array Bool}{a:Act}{w:World}(h:Mid ops F a0 w0 listed a w)(ds:List Nat)(qS:∀ t,t ∉ ds->∀ (i:Nat) (o:Oper),ops[i]?=some o->o.dst≠some t):∃ z:Nat->Value,(∀ t,a.tmps.getD t undef=z t)/\a=ds.foldl (fun b d=>b.put (some d) (z d)) a0:=⟨_,fun _=>rfl,h.act ds qS⟩
theorem oL{l:List Oper}{ds:List Nat}(h:l.all (fun o=>match o.dst with | some d=>ds.contains d | none=>true)=true):∀ t,t ∉ ds->∀ (i:Nat) (o:Oper),l.toArray[i]?=some o->o.dst≠some t:=by
 intro t ht i o hi hd;rw[List.all_eq_true] at h;have:=h o (List.mem_of_getElem? (by simpa using hi));rw[hd] at this;exact ht (by simpa using this)
theorem Mid.actN{F:Nat->World->Value->Prop}{a0:Act}{w0:World}{listed:Array Bool}{a:Act}{w:World}{n:Nat}(h:Mid ops F a0 w0 listed a w)(hk:Hk ops n a0 a)(ds:List Nat)(qS:∀ t,t ∉ ds->∀ (i:Nat) (o:Oper),i<n->ops[i]?=some o->o.dst≠some t):a=ds.foldl (fun b d=>b.put (some d) (a.tmps.getD d undef)) a0:=by
 obtain⟨h1,h2,h3⟩:=lq (fun d=>a.tmps.getD d undef) ds a0;have hd:=h.defers;have hs:=h.tsize;generalize ds.foldl (fun b d=>b.put (some d) (a.tmps.getD d undef)) a0=b at *
 have ht:a.tmps=b.tmps:=by
  apply Array.ext
  ·rw[hs,h1]
  ·intro t ha hb
   have e1:a.tmps.getD t undef=a.tmps[t]:=by simp[Array.getD,ha]
   have e2:b.tmps.getD t undef=b.tmps[t]:=by simp[Array.getD,hb]
   refine e1.symm.trans (Eq.trans ?_ e2);rw[h3 t (by rw[<- hs];exact ha)];by_cases hn:t∈ds
   ·rw[if_pos hn]
   ·rw[if_neg hn]
    exact hk t (qS t hn)
 obtain⟨ta,da⟩:=a;obtain⟨tb,db⟩:=b;have e1:ta=tb:=ht;have e2:da=db:=hd.trans h2.symm;rw[e1,e2]
theorem Mid.actNz{F:Nat->World->Value->Prop}{a0:Act}{w0:World}{listed:Array Bool}{a:Act}{w:World}{n:Nat}(h:Mid ops F a0 w0 listed a w)(hk:Hk ops n a0 a)(ds:List Nat)(qS:∀ t,t ∉ ds->∀ (i:Nat) (o:Oper),i<n->ops[i]?=some o->o.dst≠some t):∃ z:Nat->Value,(∀ t,a.tmps.getD t undef=z t)/\a=ds.foldl (fun b d=>b.put (some d) (z d)) a0:=⟨_,fun _=>rfl,h.actN hk ds qS⟩
theorem RJ{l:List Oper}{n i:Nat}{o:Oper}(hi:i<n)(ho:l.toArray[i]?=some o):o∈l.take n:=by
 have h:l[i]?=some o:=by simpa using ho
 refine List.mem_of_getElem? (i:=i) ?_;rw[List.getElem?_take_of_lt hi];exact h
theorem Fh{l:List Oper}{n:Nat}{ds:List Nat}(h:(l.take n).all (fun o=>match o.dst with | some d=>ds.contains d | none=>true)=true):∀ t,t ∉ ds->∀ (i:Nat) (o:Oper),i<n->l.toArray[i]?=some o->o.dst≠some t:=by
 intro t ht i o hi ho hd;rw[List.all_eq_true] at h;have:=h o (RJ hi ho);rw[hd] at this;exact ht (by simpa using this)
theorem gK{l:List Oper}{n t:Nat}(h:(l.take n).all (fun o=>match o.dst with | some d=>d != t | none=>true)=true):∀ (i:Nat) (o:Oper),i<n->l.toArray[i]?=some o->o.dst≠some t:=by
 intro i o hi ho hd;rw[List.all_eq_true] at h;have:=h o (RJ hi ho);rw[hd] at this;simp at this
end
end
section
open Go.RowKit
section
variable {P:Program} {ops:Array Oper} {md:Region.Mode} {Q:Exit->Act->World->Prop}
def qN(n i:Nat):Prop:=i<n\/i=n+1
def zW(ops:Array Oper)(n:Nat)(a0 a:Act):Prop:=∀ t,(∀ (i:Nat) (o:Oper),qN n i->ops[i]?=some o->o.dst≠some t)->a.tmps.getD t undef=a0.tmps.getD t undef
theorem zW.put{n:Nat}{a0 a:Act}{i:Nat}{o:Oper}(h:zW ops n a0 a)(hi:qN n i)(ho:ops[i]?=some o)(v:Value):zW ops n a0 (a.put o.dst v):=by
 intro t ht
 cases hd:o.dst with
 | none=>exact h t ht
 | some d =>
  rw[Sm a d t v (fun e=>ht i o hi ho (by rw[hd,e]))];exact h t ht
def Vo(md:Region.Mode)(ops:Array Oper)(i m:Nat):Prop:=∀ (o:Oper),ops[i]?=some o->∀ L:Nat->Bool,Hj md ops L->(∀ e∈o.after,Region.binds md e=true->L e.on=true)->∀ j,j<m->L j=true
theorem RK{n:Nat}(hn:ops.size=n+3)(cJ:∀ (i:Nat) (o:Oper),ops[i]?=some o->∀ e∈o.after,Region.binds md e=true->e.on<i)(aV:Vo md ops (n+2) (n+2)){f:Nat}{listed:Array Bool}{a:Act}{w:World}(dW:Hj md ops (fun j=>listed.getD j false))(hs:listed.size=ops.size)(h1:∀ j,j<n+2->listed.getD j false=true)(h2:listed.getD (n+2) false=false)(hf:wX listed<=f)(hq:zV P ops Q 1 (n+2) a w):wpAny P md ops Q f listed a w :=
 CV (n:=n+2) cJ (fun i o hi ho L hL he j hj=>by
  have fu:i=n+2:=by have:=(Array.getElem?_eq_some_iff.1 ho).1;omega
  subst fu
  exact aV o ho L hL he j hj) 1 (n+2) f listed a w dW (Nat.le_refl _) (by omega) hs h1 (fun j hj nJ=>by
  have:j=n+2:=by omega
  subst this;exact h2) hf hq
theorem RL {F:Nat->World->Value->Prop} {a0:Act} {w0:World} {n:Nat} (hn:ops.size=n+3)
  (hF:∀ i w w' v,F i w v->Below w.heap.size w w'->F i w' v)
  (eD:∀ (i j:Nat) (oi oj:Oper) (d:Tmp),ops[i]?=some oi->ops[j]?=some oj->oi.dst=some d->oj.dst=some d->i=j)
  (aT:∀ (i:Nat) (o:Oper),qN n i->ops[i]?=some o->∃ d,o.dst=some d/\d<a0.tmps.size)
  (cJ:∀ (i:Nat) (o:Oper),ops[i]?=some o->∀ e∈o.after,Region.binds md e=true->e.on<i)
  (Jd:Vo md ops n n) (aV:Vo md ops (n+2) (n+2))
  (fP:∀ (i:Nat) (o:Oper),qN n i->ops[i]?=some o->∀ listed a w,Mid ops F a0 w0 listed a w->zW ops n a0 a->(∀ e∈o.after,Region.binds md e=true->listed.getD e.on false=true)->wpOp P ops Q i (fun a' w'=>∃ v,a'=a.put o.dst v/\Below w.heap.size w w'/\F i w' v) a w)
  (hA:∀ listed a w,Mid ops F a0 w0 listed a w->zW ops n a0 a->(∀ i,i<n->listed.getD i false=true)->listed.getD (n+1) false=true->wpOp P ops Q n (fun a' w'=>zV P ops Q 1 (n+2) a' w') a w)
  (hB:∀ listed a w,Mid ops F a0 w0 listed a w->zW ops n a0 a->(∀ i,i<n->listed.getD i false=true)->zV P ops Q 3 n a w) :
  ∀ (f:Nat) (listed:Array Bool) (a:Act) (w:World),Hj md ops (fun j=>listed.getD j false)->listed.getD n false=false->listed.getD (n+2) false=false->wX listed<=f->Mid ops F a0 w0 listed a w->zW ops n a0 a->wpAny P md ops Q f listed a w
 | 0,listed,a,w,dW,kW,aU,hf,h,bA=>by
  have:=dx (Nat.le_zero.1 hf) n (by rw[h.size];omega);rw[kW] at this;cases this
 | f+1,listed,a,w,dW,kW,aU,hf,h,bA=>by
  refine⟨fun hr=>?_,fun i hi=>?_⟩
  ·have:=dy cJ h.size hr n (by omega)
   rw[kW] at this;cases this
  ·obtain⟨h1,o,h2,h3⟩:=mem_ready.1 hi
   have aE:=(Array.getElem?_eq_some_iff.1 h2).1;rw[Np (by rw[h.size];exact aE)] at h1
   have rN:i<listed.size:=by rw[h.size];exact aE
   by_cases hx:qN n i
   ·obtain⟨d,hd,qS⟩:=aT i o hx h2
    refine wpOp_mono (fun a' w' hh=>?_) (fP i o hx h2 listed a w h bA h3);obtain⟨v,rfl,hb,hv⟩:=hh;refine RL hn hF eD aT cJ Jd aV fP hA hB f _ _ _ (dW.set rN h2 h3) ?_ ?_ ?_ (h.next1 (fun j u hu=>hF j w w' u hu hb) eD h2 hd qS hb hv) (bA.put hx h2 v)
    ·rw[yM rN,if_neg (by unfold qN at hx;omega)];exact kW
    ·rw[yM rN,if_neg (by unfold qN at hx;omega)];exact aU
    ·have:=Sn rN h1
     omega
   ·have Bq:i=n\/i=n+2:=by unfold qN at hx;omega
    rcases Bq with rfl | rfl
    ·have aD:∀ j,j<i->listed.getD j false=true:=fun j hj=>Jd o h2 (fun j=>listed.getD j false) dW h3 j hj
     by_cases mQ:listed.getD (i+1) false=true
     ·refine wpOp_mono (fun a' w' Bp=>?_) (hA listed a w h bA aD mQ)
      refine RK hn cJ aV (dW.set rN h2 h3) (by simp[h.size]) (fun j hj=>?_) ?_ ?_ Bp
      ·rw[yM rN]
       split
       ·rfl
       ·rcases Nat.lt_or_ge j i with g | g
        ·exact aD j g
        ·have:j=i+1:=by omega
         subst this;exact mQ
      ·rw[yM rN,if_neg (by omega)];exact aU
      ·have:=Sn rN h1
       omega
     ·rw[Bool.not_eq_true] at mQ
      have hB':=hB listed a w h bA aD;refine wpOp_mono (fun a' w' Bp=>?_) hB';have Wo:=dW.set rN h2 h3
      have qC:∀ j,(listed.setIfInBounds i true).getD j false=(if j=i then true else listed.getD j false):=fun j=>yM rN
      have qT:=Sn rN h1
      have iK:(listed.setIfInBounds i true).size=ops.size:=by simp[h.size]
      generalize listed.setIfInBounds i true=l1 at *
      cases f with
      | zero =>
       have:=dx (show wX l1=0 by omega) (i+1) (by rw[iK];omega);rw[qC,if_neg (by omega),mQ] at this;cases this
      | succ f =>
       refine⟨fun hr=>?_,fun j hj=>?_⟩
       ·have:=dy cJ iK hr (i+1) (by omega)
        rw[qC,if_neg (by omega),mQ] at this;cases this
       ·obtain⟨g1,o2,g2,g3⟩:=mem_ready.1 hj
        have Br:=(Array.getElem?_eq_some_iff.1 g2).1;rw[Np (by rw[iK];exact Br)] at g1
        have iI:j=i+1:=by
         rcases Nat.lt_trichotomy j i with g | g | g
         ·rw[qC,if_neg (by omega),aD j g] at g1;cases g1
         ·rw[qC,if_pos g] at g1;cases g1
         ·rcases Nat.lt_or_ge j (i+2) with g' | g'
          ·omega
          ·have nJ:j=i+2:=by omega
           subst nJ;have h7:l1.getD (i+1) false=true:=aV o2 g2 (fun j=>l1.getD j false) Wo g3 (i+1) (by omega)
           have h8:l1.getD (i+1) false=false:=by rw[qC,if_neg (by omega)];exact mQ
           rw[h8] at h7;cases h7
        subst iI;refine wpOp_mono (fun a2 w2 qU=>?_) Bp;refine RK hn cJ aV (Wo.set (by rw[iK];exact Br) g2 g3) (by simp[iK]) (fun k hk=>?_) ?_ ?_ qU
        ·rw[yM (by rw[iK];exact Br),qC]
         split
         ·rfl
         ·split
          ·rfl
          ·exact aD k (by omega)
        ·rw[yM (by rw[iK];exact Br),if_neg (by omega),qC,if_neg (by omega)];exact aU
        ·have:=Sn (show i+1<l1.size by rw[iK];exact Br) g1
         omega
    ·have:=aV o h2 (fun j=>listed.getD j false) dW h3 n (by omega)
     rw[show listed.getD n false=true from this] at kW;cases kW
theorem O_ {id:Nat} {a:Act} {w:World} {l:List Oper} (n:Nat) (F:Nat->World->Value->Prop) (hm:P.follows .mixedOrders=true) (hn:l.toArray.size=n+3)
  (hF:∀ i w w' v,F i w v->Below w.heap.size w w'->F i w' v)
  (eD:∀ (i j:Nat) (oi oj:Oper) (d:Tmp),l.toArray[i]?=some oi->l.toArray[j]?=some oj->oi.dst=some d->oj.dst=some d->i=j)
  (aT:∀ (i:Nat) (o:Oper),qN n i->l.toArray[i]?=some o->∃ d,o.dst=some d/\d<a.tmps.size)
  (cJ:∀ (i:Nat) (o:Oper),l.toArray[i]?=some o->∀ e∈o.after,Region.binds .any e=true->e.on<i)
  (Jd:Vo .any l.toArray n n) (aV:Vo .any l.toArray (n+2) (n+2))
  (fP:∀ (i:Nat) (o:Oper),qN n i->l.toArray[i]?=some o->∀ listed a' w',Mid l.toArray F a w listed a' w'->zW l.toArray n a a'->(∀ e∈o.after,Region.binds .any e=true->listed.getD e.on false=true)->wpOp P l.toArray Q i (fun a'' w''=>∃ v,a''=a'.put o.dst v/\Below w'.heap.size w' w''/\F i w'' v) a' w')
  (hA:∀ listed a' w',Mid l.toArray F a w listed a' w'->zW l.toArray n a a'->(∀ i,i<n->listed.getD i false=true)->listed.getD (n+1) false=true->wpOp P l.toArray Q n (fun a'' w''=>zV P l.toArray Q 1 (n+2) a'' w'') a' w')
  (hB:∀ listed a' w',Mid l.toArray F a w listed a' w'->zW l.toArray n a a'->(∀ i,i<n->listed.getD i false=true)->zV P l.toArray Q 3 n a' w') :
  (Code.region id l.toArray true).wp P Q a w:=by
 refine wp_region_any hm ?_;have hb:Below w.heap.size w { w with drawn:=w.drawn+1 }:=(Below.refl w.heap.size w).drew
 have hz:∀ i,(Array.replicate l.toArray.size false).getD i false=false:=fun i=>by simp[Array.getD]
 have h0:Mid l.toArray F a w (Array.replicate l.toArray.size false) a { w with drawn:=w.drawn+1 }:=by
  refine⟨by simp,hb,rfl,rfl,fun i o d hi hl=>?_,fun t _=>rfl⟩;rw[hz i] at hl;cases hl
 exact RL hn hF eD aT cJ Jd aV fP hA hB _ _ _ _ (fun i o hi hl=>absurd ((hz i).symm.trans hl) (by simp)) (hz _) (hz _) (by unfold wX;exact Nat.le_trans List.countP_le_length (by simp)) h0 (fun t _=>rfl)
theorem RM{l:List Oper}{i m:Nat}(h:(match l[i]? with | some o=>(List.range m).all (fun j=>(dz l (So o) i).contains j) | none=>true)=true):Vo .any l.toArray i m:=by
 intro o ho L hL he j hj
 have nT:l[i]?=some o:=by simpa using ho
 rw[nT] at h;have h:=List.all_eq_true.1 h j (List.mem_range.2 hj);refine CY hL i (So o) (fun k hk=>?_) j (by simpa using h);obtain⟨e,h1,h2,h3⟩:=CW hk;rw[<- h2];exact he e h1 h3
theorem P_{l:List Oper}{n m:Nat}(h:l.zipIdx.all (fun p=>!(decide (p.2<n)||decide (p.2=n+1))||(match p.1.dst with | some d=>decide (d<m) | none=>false))=true):∀ (i:Nat) (o:Oper),qN n i->l.toArray[i]?=some o->∃ d,o.dst=some d/\d<m:=by
 intro i o hx ho
 have nT:l[i]?=some o:=by simpa using ho
 have hz:l.zipIdx[i]?=some (o,i):=by rw[List.getElem?_zipIdx,nT];simp
 have:=List.all_eq_true.1 h _ (List.mem_of_getElem? hz)
 have hb:(decide (i<n)||decide (i=n+1))=true:=by unfold qN at hx;rcases hx with h1 | h1<;>simp[h1]
 simp only[hb,Bool.not_true,Bool.false_or] at this
 cases hd:o.dst with
 | none=>rw[hd] at this;cases this
 | some d=>rw[hd] at this;exact⟨d,rfl,by simpa using this⟩
theorem Mid.actX{F:Nat->World->Value->Prop}{a0:Act}{w0:World}{listed:Array Bool}{a:Act}{w:World}{n:Nat}(h:Mid ops F a0 w0 listed a w)(hk:zW ops n a0 a)(ds:List Nat)(qS:∀ t,t ∉ ds->∀ (i:Nat) (o:Oper),qN n i->ops[i]?=some o->o.dst≠some t):a=ds.foldl (fun b d=>b.put (some d) (a.tmps.getD d undef)) a0:=by
 obtain⟨h1,h2,h3⟩:=lq (fun d=>a.tmps.getD d undef) ds a0;have hd:=h.defers;have hs:=h.tsize;generalize ds.foldl (fun b d=>b.put (some d) (a.tmps.getD d undef)) a0=b at *
 have ht:a.tmps=b.tmps:=by
  apply Array.ext
  ·rw[hs,h1]
  ·intro t ha hb
   have e1:a.tmps.getD t undef=a.tmps[t]:=by simp[Array.getD,ha]
   have e2:b.tmps.getD t undef=b.tmps[t]:=by simp[Array.getD,hb]
   refine e1.symm.trans (Eq.trans ?_ e2);rw[h3 t (by rw[<- hs];exact ha)];by_cases hn:t∈ds
   ·rw[if_pos hn]
   ·rw[if_neg hn]
    exact hk t (qS t hn)
 obtain⟨ta,da⟩:=a;obtain⟨tb,db⟩:=b;have e1:ta=tb:=ht;have e2:da=db:=hd.trans h2.symm;rw[e1,e2]
theorem Mid.actXz{F:Nat->World->Value->Prop}{a0:Act}{w0:World}{listed:Array Bool}{a:Act}{w:World}{n:Nat}(h:Mid ops F a0 w0 listed a w)(hk:zW ops n a0 a)(ds:List Nat)(qS:∀ t,t ∉ ds->∀ (i:Nat) (o:Oper),qN n i->ops[i]?=some o->o.dst≠some t):∃ z:Nat->Value,(∀ t,a.tmps.getD t undef=z t)/\a=ds.foldl (fun b d=>b.put (some d) (z d)) a0:=⟨_,fun _=>rfl,h.actX hk ds qS⟩
theorem RN{l:List Oper}{n:Nat}{ds:List Nat}(h:l.zipIdx.all (fun p=>!(decide (p.2<n)||decide (p.2=n+1))||(match p.1.dst with | some d=>ds.contains d | none=>true))=true):∀ t,t ∉ ds->∀ (i:Nat) (o:Oper),qN n i->l.toArray[i]?=some o->o.dst≠some t:=by
 intro t ht i o hx ho hd
 have nT:l[i]?=some o:=by simpa using ho
 have hz:l.zipIdx[i]?=some (o,i):=by rw[List.getElem?_zipIdx,nT];simp
 have:=List.all_eq_true.1 h _ (List.mem_of_getElem? hz)
 have hb:(decide (i<n)||decide (i=n+1))=true:=by unfold qN at hx;rcases hx with h1 | h1<;>simp[h1]
 simp only[hb,Bool.not_true,Bool.false_or,hd] at this;exact ht (by simpa using this)
theorem CZ{l:List Oper}{n t:Nat}(h:l.zipIdx.all (fun p=>!(decide (p.2<n)||decide (p.2=n+1))||(match p.1.dst with | some d=>d != t | none=>true))=true):∀ (i:Nat) (o:Oper),qN n i->l.toArray[i]?=some o->o.dst≠some t:=by
 intro i o hx ho hd
 have nT:l[i]?=some o:=by simpa using ho
 have hz:l.zipIdx[i]?=some (o,i):=by rw[List.getElem?_zipIdx,nT];simp
 have:=List.all_eq_true.1 h _ (List.mem_of_getElem? hz)
 have hb:(decide (i<n)||decide (i=n+1))=true:=by unfold qN at hx;rcases hx with h1 | h1<;>simp[h1]
 simp only[hb,Bool.not_true,Bool.false_or,hd] at this;simp at this
end
end
end Go.Proofs.YtbcgocpihobjnaaGreatDoor
