import Derived.Test.YtbcgocpihobjnaaGreatDoorCC2
import Derived.Test.YtbcgocpihobjnaaGreatDoorCC10
set_option linter.all false
namespace Go.Proofs.YtbcgocpihobjnaaGreatDoor
section
open Go.RowKit
section
variable {P:Program} {ops:Array Oper} {md:Region.Mode} {Q:Exit->Act->World->Prop}
structure Mid (ops:Array Oper) (F:Nat->World->Value->Prop) (a0:Act) (w0:World) (listed:Array Bool) (a:Act) (w:World):Prop where
 size:listed.size=ops.size
 below:Below w0.heap.size w0 w
 defers:a.defers=a0.defers
 tsize:a.tmps.size=a0.tmps.size
 done:∀ (i:Nat) (o:Oper) (d:Tmp),ops[i]?=some o->listed.getD i false=true->o.dst=some d->F i w (a.tmps.getD d undef)
 same:∀ t,(∀ (i:Nat) (o:Oper),ops[i]?=some o->o.dst≠some t)->a.tmps.getD t undef=a0.tmps.getD t undef
theorem Zfs{l:Array Bool}{i:Nat}(hi:i<l.size):l.getD i true=l.getD i false:=by simp[Array.getD,hi]
theorem Ze4(a:Act)(d:Tmp)(v:Value)(hd:d<a.tmps.size):(a.put (some d) v).tmps.getD d undef=v:=by
 simp[Act.put,Array.getD,hd]
theorem Zcq(a:Act)(d t:Tmp)(v:Value)(h:t≠d):(a.put (some d) v).tmps.getD t undef=a.tmps.getD t undef:=by
 simp[Act.put,Array.getElem?_setIfInBounds,Ne.symm h]
theorem Za6{l:Array Bool}{i j:Nat}(hi:i<l.size):(l.setIfInBounds i true).getD j false=(if j=i then true else l.getD j false):=by
 by_cases h:j=i
 ·subst h;simp[Array.getD,hi]
 ·rw[if_neg h];simp[Array.getElem?_setIfInBounds,Ne.symm h]
theorem Mid.next {F:Nat->World->Value->Prop} {a0:Act} {w0:World} {listed:Array Bool} {a:Act} {w w':World} (h:Mid ops F a0 w0 listed a w)
  (hF:∀ i w w' v,F i w v->Below w.heap.size w w'->F i w' v)
  (hdst:∀ (i j:Nat) (oi oj:Oper) (d:Tmp),ops[i]?=some oi->ops[j]?=some oj->oi.dst=some d->oj.dst=some d->i=j)
  (hin:∀ (i:Nat) (o:Oper),ops[i]?=some o->∃ d,o.dst=some d/\d<a0.tmps.size)
  {i:Nat} {o:Oper} (hi:ops[i]?=some o) {v:Value} (hb:Below w.heap.size w w') (hv:F i w' v):Mid ops F a0 w0 (listed.setIfInBounds i true) (a.put o.dst v) w':=by
 obtain⟨d,hd,hds⟩:=hin i o hi
 have hil:i<listed.size:=by rw[h.size];exact(Array.getElem?_eq_some_iff.1 hi).1
 have hda:d<a.tmps.size:=by rw[h.tsize];exact hds
 refine⟨by simp[h.size],h.below.trans (hb.mono h.below.size),?_,?_,fun j oj dj hj hl hdj=>?_,fun t ht=>?_⟩
 ·rw[hd];exact h.defers
 ·rw[hd];simp[Act.put,h.tsize]
 ·rw[Za6 hil] at hl
  rw[hd];by_cases hji:j=i
  ·subst hji
   rw[hi] at hj;obtain rfl:=Option.some.inj hj;rw[hd] at hdj;obtain rfl:=Option.some.inj hdj;rw[Ze4 a _ v hda];exact hv
  ·rw[if_neg hji] at hl
   have hne:dj≠d:=fun e=>hji (hdst j i oj o dj hj hi hdj (by rw[hd,e]))
   rw[Zcq a d dj v hne];exact hF j w w' _ (h.done j oj dj hj hl hdj) hb
 ·rw[hd,Zcq a d t v (fun e=>ht i o hi (by rw[hd,e]))]
  exact h.same t ht
def Zgz(listed:Array Bool):Nat:=listed.toList.countP (fun b=>!b)
theorem Zd1{listed:Array Bool}{i:Nat}(hi:i<listed.size)(hl:listed.getD i false=false):Zgz (listed.setIfInBounds i true)+1=Zgz listed:=by
 unfold Zgz
 have key:∀ (l:List Bool) (i:Nat),l[i]?=some false->(l.set i true).countP (fun b=>!b)+1=l.countP (fun b=>!b):=by
  intro l
  induction l with
  | nil=>intro i h;simp at h
  | cons b l ih =>
   intro i h
   cases i with
   | zero=>simp at h;subst h;simp
   | succ i =>
    have:=ih i (by simpa using h);rw[List.set_cons_succ,List.countP_cons,List.countP_cons];omega
 have h2:listed.toList[i]?=some false:=by
  rw[Array.getElem?_toList,Array.getElem?_eq_getElem hi]
  have:listed.getD i false=listed[i]:=by simp[Array.getD,hi]
  rw[<- this,hl]
 rw[Array.toList_setIfInBounds];exact key _ i h2
theorem Zet{listed:Array Bool}(h:Zgz listed=0):∀ i,i<listed.size->listed.getD i false=true:=by
 intro i hi;unfold Zgz at h;rw[List.countP_eq_zero] at h;have:=h listed[i] (by simp)
 have e:listed.getD i false=listed[i]:=by simp[Array.getD,hi]
 rw[e];simpa using this
theorem Zf5{l:List Oper}{n:Nat}(h:l.all (fun o=>match o.dst with | some d=>decide (d<n) | none=>false)=true):∀ (i:Nat) (o:Oper),l.toArray[i]?=some o->∃ d,o.dst=some d/\d<n:=by
 intro i o hi;rw[List.all_eq_true] at h;have hm:o∈l:=List.mem_of_getElem? (by simpa using hi);have:=h o hm
 cases hd:o.dst with
 | none=>rw[hd] at this;simp at this
 | some d=>rw[hd] at this;exact⟨d,rfl,of_decide_eq_true this⟩
theorem Zbr{l:List Oper}(h:decide ((l.map (·.dst)).Nodup)=true):∀ (i j:Nat) (oi oj:Oper) (d:Tmp),l.toArray[i]?=some oi->l.toArray[j]?=some oj->oi.dst=some d->oj.dst=some d->i=j:=by
 intro i j oi oj d hi hj h1 h2;have hn:=of_decide_eq_true h
 have hi':(l.map (·.dst))[i]?=some (some d):=by rw[List.getElem?_map,show l[i]?=some oi by simpa using hi];simp[h1]
 have hj':(l.map (·.dst))[j]?=some (some d):=by rw[List.getElem?_map,show l[j]?=some oj by simpa using hj];simp[h2]
 have hil:=(List.getElem?_eq_some_iff.1 hi').1;exact(List.getElem?_inj hil hn).1 (hi'.trans hj'.symm)
theorem Zab{i:Nat}{o:Oper}{a:Act}{w:World}{K:Act->World->Prop}(hi:ops[i]?=some o)(h:wpList P ops (Zgw K Q) [o] a w):wpOp P ops Q i K a w:=by
 unfold wpOp;simp only[hi];unfold wpList at h;split
 ·rename_i hw
  rw[if_pos hw] at h;exact h.imp Zje id
 ·rename_i hw
  rw[if_neg hw] at h;exact h
theorem Zap{o:Oper}{listed:Array Bool}(hl:∀ e∈o.after,Region.binds .any e=true->listed.getD e.on false=true)(k:Nat)(h:o.after.toList.any (fun e=>e.on==k&&Region.binds .any e)=true):listed.getD k false=true:=by
 obtain⟨e,he,h2⟩:=List.any_eq_true.1 h;rw[Bool.and_eq_true,beq_iff_eq] at h2;rw[<- h2.1];exact hl e (by simpa using he) h2.2
theorem Zam{l:List Oper}{t:Tmp}(h:l.all (fun o=>o.dst != some t)=true):∀ (i:Nat) (o:Oper),l.toArray[i]?=some o->o.dst≠some t:=by
 intro i o hi e;rw[List.all_eq_true] at h;have:=h o (List.mem_of_getElem? (by simpa using hi));rw[e] at this;simp at this
end
end
section
open Go.RowKit
section
variable {P:Program} {ops:Array Oper} {md:Region.Mode} {Q:Exit->Act->World->Prop}
theorem Zn2{listed:Array Bool}(hs:listed.size=ops.size)(h:∀ i,i<ops.size->listed.getD i false=true):Region.ready md ops listed=[]:=by
 cases hr:Region.ready md ops listed with
 | nil=>rfl
 | cons i l =>
  have hi:i∈Region.ready md ops listed:=by rw[hr];simp
  obtain⟨h1,o,h2,-⟩:=mem_ready.1 hi;have hlt:=(Array.getElem?_eq_some_iff.1 h2).1;rw[Zfs (by rw[hs];exact hlt),h i hlt] at h1;cases h1
theorem Zu7{listed:Array Bool}(hs:listed.size=ops.size)(h:∀ i,i<ops.size->listed.getD i false=true){a:Act}{w:World}(hq:Q .normal a w):∀ f,wpAny P md ops Q f listed a w
 | 0=>⟨Zn2 hs h,hq⟩
 | f+1=>⟨fun _=>hq,fun i hi=>by rw[Zn2 hs h] at hi;cases hi⟩
theorem Mid.next1 {F F':Nat->World->Value->Prop} {a0:Act} {w0:World} {listed:Array Bool} {a:Act} {w w':World} (h:Mid ops F a0 w0 listed a w)
  (hF:∀ i v,F i w v->F' i w' v)
  (hdst:∀ (i j:Nat) (oi oj:Oper) (d:Tmp),ops[i]?=some oi->ops[j]?=some oj->oi.dst=some d->oj.dst=some d->i=j)
  {i:Nat} {o:Oper} (hi:ops[i]?=some o) {d:Tmp} (hd:o.dst=some d) (hds:d<a0.tmps.size) {v:Value} (hb:Below w.heap.size w w') (hv:F' i w' v):Mid ops F' a0 w0 (listed.setIfInBounds i true) (a.put o.dst v) w':=by
 have hil:i<listed.size:=by rw[h.size];exact(Array.getElem?_eq_some_iff.1 hi).1
 have hda:d<a.tmps.size:=by rw[h.tsize];exact hds
 refine⟨by simp[h.size],h.below.trans (hb.mono h.below.size),?_,?_,fun j oj dj hj hl hdj=>?_,fun t ht=>?_⟩
 ·rw[hd];exact h.defers
 ·rw[hd];simp[Act.put,h.tsize]
 ·rw[Za6 hil] at hl
  rw[hd];by_cases hji:j=i
  ·subst hji
   rw[hi] at hj;obtain rfl:=Option.some.inj hj;rw[hd] at hdj;obtain rfl:=Option.some.inj hdj;rw[Ze4 a _ v hda];exact hv
  ·rw[if_neg hji] at hl
   have hne:dj≠d:=fun e=>hji (hdst j i oj o dj hj hi hdj (by rw[hd,e]))
   rw[Zcq a d dj v hne];exact hF j _ (h.done j oj dj hj hl hdj)
 ·rw[hd,Zcq a d t v (fun e=>ht i o hi (by rw[hd,e]))]
  exact h.same t ht
theorem Zeh{l:List Oper}{n m:Nat}(h:(l.take n).all (fun o=>match o.dst with | some d=>decide (d<m) | none=>false)=true):∀ (i:Nat) (o:Oper),i<n->l.toArray[i]?=some o->∃ d,o.dst=some d/\d<m:=by
 intro i o hi ho;rw[List.all_eq_true] at h
 have hm:o∈l.take n:=by
  have:(l.take n)[i]?=some o:=by rw[List.getElem?_take_of_lt hi];simpa using ho
  exact List.mem_of_getElem? this
 have:=h o hm
 cases hd:o.dst with
 | none=>rw[hd] at this;simp at this
 | some d=>rw[hd] at this;exact⟨d,rfl,of_decide_eq_true this⟩
theorem Zy8{l:List Oper}(h:decide ((l.filterMap (·.dst)).Nodup)=true):∀ (i j:Nat) (oi oj:Oper) (d:Tmp),l.toArray[i]?=some oi->l.toArray[j]?=some oj->oi.dst=some d->oj.dst=some d->i=j:=by
 intro i j oi oj d hi hj h1 h2;have hn:=of_decide_eq_true h
 have hi':l[i]?=some oi:=by simpa using hi
 have hj':l[j]?=some oj:=by simpa using hj
 clear hi hj h
 induction l generalizing i j with
 | nil=>simp at hi'
 | cons x l ih =>
  have hn':(l.filterMap (·.dst)).Nodup:=by
   rw[List.filterMap_cons] at hn
   split at hn
   ·exact hn
   ·exact(List.nodup_cons.1 hn).2
  have out:∀ (k:Nat) (ok:Oper),l[k]?=some ok->ok.dst=some d->x.dst=some d->False:=fun k ok hk h3 h4=>by
   rw[List.filterMap_cons,h4] at hn;exact(List.nodup_cons.1 hn).1 (List.mem_filterMap.2 ⟨ok,List.mem_of_getElem? hk,h3⟩)
  match i,j,hi',hj' with
  | 0,0,_,_=>rfl
  | 0,j+1,hi',hj' =>
   have e:x=oi:=by simpa using hi'
   exact(out j oj (by simpa using hj') h2 (by rw[e];exact h1)).elim
  | i+1,0,hi',hj' =>
   have e:x=oj:=by simpa using hj'
   exact(out i oi (by simpa using hi') h1 (by rw[e];exact h2)).elim
  | i+1,j+1,hi',hj'=>rw[ih i j hn' (by simpa using hi') (by simpa using hj')]
end
end
section
open Go.RowKit
section
variable {P:Program} {ops:Array Oper} {md:Region.Mode} {Q:Exit->Act->World->Prop}
def Zik(P:Program)(ops:Array Oper)(Q:Exit->Act->World->Prop):Nat->Nat->Act->World->Prop
 | 0,_,a,w=>Q .normal a w
 | k+1,i,a,w=>wpOp P ops Q i (fun a' w'=>Zik P ops Q k (i+1) a' w') a w
theorem Zbm{i:Nat}{a:Act}{w:World}(h:Q .normal a w):Zik P ops Q 0 i a w:=h
theorem Zas{k i:Nat}{a:Act}{w:World}(h:wpOp P ops Q i (fun a' w'=>Zik P ops Q k (i+1) a' w') a w):Zik P ops Q (k+1) i a w:=h
end
end
section
open Go.RowKit
section
variable {P:Program} {ops:Array Oper} {md:Region.Mode} {Q:Exit->Act->World->Prop}
theorem Zeu(hacyc:∀ (i:Nat) (o:Oper),ops[i]?=some o->∀ e∈o.after,Region.binds md e=true->e.on<i){listed:Array Bool}(hs:listed.size=ops.size)(h:Region.ready md ops listed=[]):∀ i,i<ops.size->listed.getD i false=true:=by
 intro i
 induction i using Nat.strongRecOn with
 | _ i ih =>
  intro hi
  cases hl:listed.getD i false with
  | true=>rfl
  | false =>
   have:i∈Region.ready md ops listed:=mem_ready.2 ⟨by rw[Zfs (by rw[hs];exact hi)];exact hl,ops[i],Array.getElem?_eq_getElem hi,fun e he hb=>ih e.on (hacyc i _ (Array.getElem?_eq_getElem hi) e he hb) (Nat.lt_trans (hacyc i _ (Array.getElem?_eq_getElem hi) e he hb) hi)⟩;rw[h] at this;exact absurd this List.not_mem_nil
theorem Zax{l:List Oper}(h:l.zipIdx.all (fun p=>p.1.after.toList.all (fun e=>!Region.binds .any e||decide (e.on<p.2)))=true):∀ (i:Nat) (o:Oper),l.toArray[i]?=some o->∀ e∈o.after,Region.binds .any e=true->e.on<i:=by
 intro i o hi e he hb;rw[List.all_eq_true] at h
 have hm:(o,i)∈l.zipIdx:=by
  rw[List.mem_zipIdx_iff_getElem?];simpa using hi
 have h2:=List.all_eq_true.1 (h _ hm) e (by simpa using he);rw[hb] at h2;simpa using h2
end
end
section
open Go.RowKit
section
variable {P:Program} {ops:Array Oper} {md:Region.Mode} {Q:Exit->Act->World->Prop}
def Zei(md:Region.Mode)(ops:Array Oper)(L:Nat->Bool):Prop:=∀ (i:Nat) (o:Oper),ops[i]?=some o->L i=true->∀ e∈o.after,Region.binds md e=true->L e.on=true
theorem Zei.set{listed:Array Bool}{i:Nat}{o:Oper}(h:Zei md ops (fun j=>listed.getD j false))(hi:i<listed.size)(ho:ops[i]?=some o)(h3:∀ e∈o.after,Region.binds md e=true->listed.getD e.on false=true):Zei md ops (fun j=>(listed.setIfInBounds i true).getD j false):=by
 intro j oj hj hl e he hb;show(listed.setIfInBounds i true).getD e.on false=true;have hl2:(listed.setIfInBounds i true).getD j false=true:=hl;rw[Za6 hi] at hl2 ⊢;by_cases hji:j=i
 ·subst hji
  rw[hj] at ho;obtain rfl:=Option.some.inj ho;split
  ·rfl
  ·exact h3 e he hb
 ·rw[if_neg hji] at hl2
  split
  ·rfl
  ·exact h j oj hj hl2 e he hb
def Zy9(md:Region.Mode)(ops:Array Oper)(n:Nat):Prop:=∀ (i:Nat) (o:Oper),n<=i->ops[i]?=some o->∀ L:Nat->Bool,Zei md ops L->(∀ e∈o.after,Region.binds md e=true->L e.on=true)->∀ j,j<i->L j=true
theorem Zhn{n:Nat}(hacyc:∀ (i:Nat) (o:Oper),ops[i]?=some o->∀ e∈o.after,Region.binds md e=true->e.on<i)(hlast:Zy9 md ops n) :
  ∀ (k i f:Nat) (listed:Array Bool) (a:Act) (w:World),Zei md ops (fun j=>listed.getD j false)->n<=i->i+k=ops.size->listed.size=ops.size->(∀ j,j<i->listed.getD j false=true)->(∀ j,i<=j->j<ops.size->listed.getD j false=false)->Zgz listed<=f->Zik P ops Q k i a w->wpAny P md ops Q f listed a w
 | 0,i,f,listed,a,w,hcl,_,hk,hs,h1,_,_,hq=>Zu7 hs (fun j hj=>h1 j (by omega)) hq f
 | k+1,i,0,listed,a,w,hcl,_,hk,hs,h1,h2,hf,hq=>by
  have:=Zet (Nat.le_zero.1 hf) i (by omega);rw[h2 i (Nat.le_refl _) (by omega)] at this;cases this
 | k+1,i,f+1,listed,a,w,hcl,hn,hk,hs,h1,h2,hf,hq=>by
  have hi0:=h2 i (Nat.le_refl _) (by omega);refine⟨fun hr=>?_,fun j hj=>?_⟩
  ·have:=Zeu hacyc hs hr i (by omega)
   rw[hi0] at this;cases this
  ·obtain⟨g1,o,g2,g3⟩:=mem_ready.1 hj
   have hlt:=(Array.getElem?_eq_some_iff.1 g2).1;rw[Zfs (by rw[hs];exact hlt)] at g1
   have hij:i<=j:=by
    rcases Nat.lt_or_ge j i with h | h
    ·rw[h1 j h] at g1;cases g1
    ·exact h
   have hji:j=i:=by
    rcases Nat.lt_or_eq_of_le hij with h | h
    ·have:=hlast j o (by omega) g2 (fun j=>listed.getD j false) hcl g3 i h
     rw[show listed.getD i false=true from this] at hi0;cases hi0
    ·exact h.symm
   subst hji;refine wpOp_mono (fun a' w' hq'=>?_) hq;refine Zhn hacyc hlast k (j+1) f _ a' w' (hcl.set (by rw[hs];exact hlt) g2 g3) (by omega) (by omega) (by simp[hs]) (fun l hl=>?_) (fun l hl hl2=>?_) ?_ hq'
   ·rw[Za6 (by rw[hs];exact hlt)]
    split
    ·rfl
    ·exact h1 l (by omega)
   ·rw[Za6 (by rw[hs];exact hlt),if_neg (by omega)]
    exact h2 l (by omega) hl2
   ·have:=Zd1 (by rw[hs];exact hlt) g1
    omega
def Zmt(ops:Array Oper)(n:Nat)(a0 a:Act):Prop:=∀ t,(∀ (i:Nat) (o:Oper),i<n->ops[i]?=some o->o.dst≠some t)->a.tmps.getD t undef=a0.tmps.getD t undef
theorem Zmt.put{n:Nat}{a0 a:Act}{i:Nat}{o:Oper}(h:Zmt ops n a0 a)(hi:i<n)(ho:ops[i]?=some o)(v:Value):Zmt ops n a0 (a.put o.dst v):=by
 intro t ht
 cases hd:o.dst with
 | none=>exact h t ht
 | some d =>
  rw[Zcq a d t v (fun e=>ht i o hi ho (by rw[hd,e]))];exact h t ht
theorem Zlq {F:Nat->World->Value->Prop} {a0:Act} {w0:World} {n k:Nat} (hn:ops.size=n+(k+1))
  (hF:∀ i w w' v,F i w v->Below w.heap.size w w'->F i w' v)
  (hdst:∀ (i j:Nat) (oi oj:Oper) (d:Tmp),ops[i]?=some oi->ops[j]?=some oj->oi.dst=some d->oj.dst=some d->i=j)
  (hin:∀ (i:Nat) (o:Oper),i<n->ops[i]?=some o->∃ d,o.dst=some d/\d<a0.tmps.size)
  (hacyc:∀ (i:Nat) (o:Oper),ops[i]?=some o->∀ e∈o.after,Region.binds md e=true->e.on<i)
  (hlast:Zy9 md ops n)
  (hstep:∀ (i:Nat) (o:Oper),i<n->ops[i]?=some o->∀ listed a w,Mid ops F a0 w0 listed a w->Zmt ops n a0 a->(∀ e∈o.after,Region.binds md e=true->listed.getD e.on false=true)->wpOp P ops Q i (fun a' w'=>∃ v,a'=a.put o.dst v/\Below w.heap.size w w'/\F i w' v) a w)
  (hend:∀ listed a w,Mid ops F a0 w0 listed a w->Zmt ops n a0 a->(∀ i,i<n->listed.getD i false=true)->Zik P ops Q (k+1) n a w) :
  ∀ (f:Nat) (listed:Array Bool) (a:Act) (w:World),Zei md ops (fun j=>listed.getD j false)->(∀ j,n<=j->j<ops.size->listed.getD j false=false)->Zgz listed<=f->Mid ops F a0 w0 listed a w->Zmt ops n a0 a->wpAny P md ops Q f listed a w
 | 0,listed,a,w,hcl,hl0,hf,h,hsn=>by
  have:=Zet (Nat.le_zero.1 hf) n (by rw[h.size];omega);rw[hl0 n (Nat.le_refl _) (by omega)] at this;cases this
 | f+1,listed,a,w,hcl,hl0,hf,h,hsn=>by
  by_cases hall:∀ i,i<n->listed.getD i false=true
  ·exact Zhn hacyc hlast (k+1) n (f+1) listed a w hcl (Nat.le_refl _) hn.symm h.size hall hl0 hf (hend listed a w h hsn hall)
  ·refine⟨fun hr=>absurd (fun i hi=>Zeu hacyc h.size hr i (by omega)) hall,fun i hi=>?_⟩
   obtain⟨h1,o,h2,h3⟩:=mem_ready.1 hi;have hlt:=(Array.getElem?_eq_some_iff.1 h2).1;rw[Zfs (by rw[h.size];exact hlt)] at h1;by_cases hin':n<=i
   ·exact absurd (fun j hj=>hlast i o hin' h2 (fun j=>listed.getD j false) hcl h3 j (by omega)) hall
   ·have hi':i<n:=by omega
    obtain⟨d,hd,hds⟩:=hin i o hi' h2;refine wpOp_mono (fun a' w' hh=>?_) (hstep i o hi' h2 listed a w h hsn h3);obtain⟨v,rfl,hb,hv⟩:=hh;refine Zlq hn hF hdst hin hacyc hlast hstep hend f _ _ _ (hcl.set (by rw[h.size];exact hlt) h2 h3) (fun j hj hj2=>?_) ?_ (h.next1 (fun j u hu=>hF j w w' u hu hb) hdst h2 hd hds hb hv) (hsn.put hi' h2 v)
    ·rw[Za6 (by rw[h.size];exact hlt),if_neg (by omega)]
     exact hl0 j hj hj2
    ·have:=Zd1 (by rw[h.size];exact hlt) h1
     omega
theorem Za2 {id:Nat} {a:Act} {w:World} {l:List Oper} (n k:Nat) (F:Nat->World->Value->Prop) (hm:P.follows .mixedOrders=true) (hn:l.toArray.size=n+(k+1))
  (hF:∀ i w w' v,F i w v->Below w.heap.size w w'->F i w' v)
  (hdst:∀ (i j:Nat) (oi oj:Oper) (d:Tmp),l.toArray[i]?=some oi->l.toArray[j]?=some oj->oi.dst=some d->oj.dst=some d->i=j)
  (hin:∀ (i:Nat) (o:Oper),i<n->l.toArray[i]?=some o->∃ d,o.dst=some d/\d<a.tmps.size)
  (hacyc:∀ (i:Nat) (o:Oper),l.toArray[i]?=some o->∀ e∈o.after,Region.binds .any e=true->e.on<i)
  (hlast:Zy9 .any l.toArray n)
  (hstep:∀ (i:Nat) (o:Oper),i<n->l.toArray[i]?=some o->∀ listed a' w',Mid l.toArray F a w listed a' w'->Zmt l.toArray n a a'->(∀ e∈o.after,Region.binds .any e=true->listed.getD e.on false=true)->wpOp P l.toArray Q i (fun a'' w''=>∃ v,a''=a'.put o.dst v/\Below w'.heap.size w' w''/\F i w'' v) a' w')
  (hend:∀ listed a' w',Mid l.toArray F a w listed a' w'->Zmt l.toArray n a a'->(∀ i,i<n->listed.getD i false=true)->Zik P l.toArray Q (k+1) n a' w') :
  (Code.region id l.toArray true).wp P Q a w:=by
 refine wp_region_any hm ?_;have hb:Below w.heap.size w { w with drawn:=w.drawn+1 }:=(Below.refl w.heap.size w).drew
 have hz:∀ i,(Array.replicate l.toArray.size false).getD i false=false:=fun i=>by simp[Array.getD]
 have h0:Mid l.toArray F a w (Array.replicate l.toArray.size false) a { w with drawn:=w.drawn+1 }:=by
  refine⟨by simp,hb,rfl,rfl,fun i o d hi hl=>?_,fun t _=>rfl⟩;rw[hz i] at hl;cases hl
 exact Zlq hn hF hdst hin hacyc hlast hstep hend _ _ _ _ (fun i o hi hl=>absurd ((hz i).symm.trans hl) (by simp)) (fun j _ _=>hz j) (by unfold Zgz;exact Nat.le_trans List.countP_le_length (by simp)) h0 (fun t _=>rfl)
def Z1v(o:Oper):List Nat:=o.after.toList.filterMap (fun e=>if Region.binds .any e=true then some e.on else none)
def Zu8(l:List Oper):List Nat->Nat->List Nat
 | acc,0=>acc
 | acc,j+1=>Zu8 l (if acc.contains j then(match l[j]? with | some o=>acc++Z1v o | none=>acc) else acc) j
theorem Zmu{o:Oper}{j:Nat}(h:j∈Z1v o):∃ e∈o.after,e.on=j/\Region.binds .any e=true:=by
 unfold Z1v at h;obtain⟨e,he,h2⟩:=List.mem_filterMap.1 h
 split at h2
 ·rename_i hb
  exact⟨e,by simpa using he,Option.some.inj h2,hb⟩
 ·cases h2
theorem Zmv{l:List Oper}{L:Nat->Bool}(hW:Zei .any l.toArray L):∀ (k:Nat) (acc:List Nat),(∀ j∈acc,L j=true)->∀ j∈Zu8 l acc k,L j=true
 | 0,acc,h,j,hj=>h j hj
 | k+1,acc,h,j,hj=>by
  unfold Zu8 at hj;refine Zmv hW k _ (fun x hx=>?_) j hj
  split at hx
  ·rename_i hc
   split at hx
   ·rename_i o ho
    rcases List.mem_append.1 hx with hx | hx
    ·exact h x hx
    ·obtain⟨e,he,rfl,hb⟩:=Zmu hx
     exact hW k o (by simpa using ho) (h k (by simpa using hc)) e he hb
   ·exact h x hx
  ·exact h x hx
theorem Zck{l:List Oper}{n:Nat}(h:l.zipIdx.all (fun p=>decide (p.2<n)||(List.range p.2).all (fun j=>(Zu8 l (Z1v p.1) p.2).contains j))=true):Zy9 .any l.toArray n:=by
 intro i o hi ho L hW hL j hj;rw[List.all_eq_true] at h
 have hm:(o,i)∈l.zipIdx:=by
  rw[List.mem_zipIdx_iff_getElem?];simpa using ho
 have:=h _ hm;rw[Bool.or_eq_true,decide_eq_true_eq] at this;rcases this with h1 | h1
 ·exact absurd h1 (by show ¬ i<n;omega)
 ·have:=List.all_eq_true.1 h1 j (List.mem_range.2 hj)
  refine Zmv hW i (Z1v o) (fun x hx=>?_) j (by simpa using this);obtain⟨e,he,rfl,hb⟩:=Zmu hx;exact hL e he hb
theorem Zlr {F:Nat->World->Value->Prop} {a0:Act} {w0:World}
  (hF:∀ i w w' v,F i w v->Below w.heap.size w w'->F i w' v)
  (hdst:∀ (i j:Nat) (oi oj:Oper) (d:Tmp),ops[i]?=some oi->ops[j]?=some oj->oi.dst=some d->oj.dst=some d->i=j)
  (hin:∀ (i:Nat) (o:Oper),ops[i]?=some o->∃ d,o.dst=some d/\d<a0.tmps.size)
  (hacyc:∀ (i:Nat) (o:Oper),ops[i]?=some o->∀ e∈o.after,Region.binds md e=true->e.on<i)
  (hstep:∀ (i:Nat) (o:Oper),ops[i]?=some o->∀ listed a w,Mid ops F a0 w0 listed a w->(∀ e∈o.after,Region.binds md e=true->listed.getD e.on false=true)->wpOp P ops Q i (fun a' w'=>∃ v,a'=a.put o.dst v/\Below w.heap.size w w'/\F i w' v) a w)
  (hend:∀ listed a w,Mid ops F a0 w0 listed a w->(∀ i,i<ops.size->listed.getD i false=true)->Q .normal a w) :
  ∀ (f:Nat) (listed:Array Bool) (a:Act) (w:World),Zgz listed<=f->Mid ops F a0 w0 listed a w->wpAny P md ops Q f listed a w
 | 0,listed,a,w,hf,h=>by
  have hall:=Zet (Nat.le_zero.1 hf);rw[h.size] at hall;refine⟨?_,hend listed a w h hall⟩
  cases hr:Region.ready md ops listed with
  | nil=>rfl
  | cons i l =>
   have hi:i∈Region.ready md ops listed:=by rw[hr];simp
   obtain⟨h1,o,h2,-⟩:=mem_ready.1 hi;have hlt:=(Array.getElem?_eq_some_iff.1 h2).1;rw[Zfs (by rw[h.size];exact hlt),hall i hlt] at h1;cases h1
 | f+1,listed,a,w,hf,h=>by
  refine⟨fun hr=>hend listed a w h (Zeu hacyc h.size hr),fun i hi=>?_⟩;obtain⟨h1,o,h2,h3⟩:=mem_ready.1 hi;have hlt:=(Array.getElem?_eq_some_iff.1 h2).1;rw[Zfs (by rw[h.size];exact hlt)] at h1;refine wpOp_mono (fun a' w' hh=>?_) (hstep i o h2 listed a w h h3);obtain⟨v,rfl,hb,hv⟩:=hh;refine Zlr hF hdst hin hacyc hstep hend f _ _ _ ?_ (h.next hF hdst hin h2 hb hv);have:=Zd1 (by rw[h.size];exact hlt) h1;omega
theorem Za3 {id:Nat} {a:Act} {w:World} {l:List Oper} (F:Nat->World->Value->Prop) (hm:P.follows .mixedOrders=true)
  (hF:∀ i w w' v,F i w v->Below w.heap.size w w'->F i w' v)
  (hdst:∀ (i j:Nat) (oi oj:Oper) (d:Tmp),l.toArray[i]?=some oi->l.toArray[j]?=some oj->oi.dst=some d->oj.dst=some d->i=j)
  (hin:∀ (i:Nat) (o:Oper),l.toArray[i]?=some o->∃ d,o.dst=some d/\d<a.tmps.size)
  (hacyc:∀ (i:Nat) (o:Oper),l.toArray[i]?=some o->∀ e∈o.after,Region.binds .any e=true->e.on<i)
  (hstep:∀ (i:Nat) (o:Oper),l.toArray[i]?=some o->∀ listed a' w',Mid l.toArray F a w listed a' w'->(∀ e∈o.after,Region.binds .any e=true->listed.getD e.on false=true)->wpOp P l.toArray Q i (fun a'' w''=>∃ v,a''=a'.put o.dst v/\Below w'.heap.size w' w''/\F i w'' v) a' w')
  (hend:∀ listed a' w',Mid l.toArray F a w listed a' w'->(∀ i,i<l.toArray.size->listed.getD i false=true)->Q .normal a' w') :
  (Code.region id l.toArray true).wp P Q a w:=by
 refine wp_region_any hm ?_;have hb:Below w.heap.size w { w with drawn:=w.drawn+1 }:=(Below.refl w.heap.size w).drew
 have h0:Mid l.toArray F a w (Array.replicate l.toArray.size false) a { w with drawn:=w.drawn+1 }:=by
  refine⟨by simp,hb,rfl,rfl,fun i o d hi hl=>?_,fun t _=>rfl⟩
  have:(Array.replicate l.toArray.size false).getD i false=false:=by
   simp[Array.getD]
  rw[this] at hl;cases hl
 exact Zlr hF hdst hin hacyc hstep hend _ _ _ _ (by unfold Zgz;exact Nat.le_trans List.countP_le_length (by simp)) h0
theorem Zmw(f:Nat->Value):∀ (ds:List Nat) (b:Act),(ds.foldl (fun b d=>b.put (some d) (f d)) b).tmps.size=b.tmps.size/\(ds.foldl (fun b d=>b.put (some d) (f d)) b).defers=b.defers /\
  ∀ t,t<b.tmps.size->(ds.foldl (fun b d=>b.put (some d) (f d)) b).tmps.getD t undef=if t∈ds then f t else b.tmps.getD t undef
 | [],b=>⟨rfl,rfl,fun t _=>by simp⟩
 | d::ds,b=>by
  obtain⟨h1,h2,h3⟩:=Zmw f ds (b.put (some d) (f d))
  have hs:(b.put (some d) (f d)).tmps.size=b.tmps.size:=by simp[Act.put]
  refine⟨h1.trans hs,h2,fun t ht=>?_⟩;rw[List.foldl_cons,h3 t (by rw[hs];exact ht)];by_cases htd:t∈ds
  ·rw[if_pos htd,if_pos (List.mem_cons_of_mem _ htd)]
  ·rw[if_neg htd]
   by_cases e:t=d
   ·subst e
    rw[Ze4 b t (f t) ht,if_pos (List.mem_cons_self ..)]
   ·rw[Zcq b d t (f d) e,if_neg (fun h=>(List.mem_cons.1 h).elim e htd)]
theorem Mid.act{F:Nat->World->Value->Prop}{a0:Act}{w0:World}{listed:Array Bool}{a:Act}{w:World}(h:Mid ops F a0 w0 listed a w)(ds:List Nat)(hds:∀ t,t ∉ ds->∀ (i:Nat) (o:Oper),ops[i]?=some o->o.dst≠some t):a=ds.foldl (fun b d=>b.put (some d) (a.tmps.getD d undef)) a0:=by
 obtain⟨h1,h2,h3⟩:=Zmw (fun d=>a.tmps.getD d undef) ds a0;have hd:=h.defers;have hs:=h.tsize;have hk:=h.same;generalize ds.foldl (fun b d=>b.put (some d) (a.tmps.getD d undef)) a0=b at *
 have ht:a.tmps=b.tmps:=by
  apply Array.ext
  ·rw[hs,h1]
  ·intro t ha hb
   have e1:a.tmps.getD t undef=a.tmps[t]:=by simp[Array.getD,ha]
   have e2:b.tmps.getD t undef=b.tmps[t]:=by simp[Array.getD,hb]
   refine e1.symm.trans (Eq.trans ?_ e2);rw[h3 t (by rw[<- hs];exact ha)];by_cases hn:t∈ds
   ·rw[if_pos hn]
   ·rw[if_neg hn]
    exact hk t (hds t hn)
 obtain⟨ta,da⟩:=a;obtain⟨tb,db⟩:=b;have e1:ta=tb:=ht;have e2:da=db:=hd.trans h2.symm;rw[e1,e2]
theorem Zdd{l:List Oper}{ds:List Nat}(h:l.all (fun o=>match o.dst with | some d=>ds.contains d | none=>true)=true):∀ t,t ∉ ds->∀ (i:Nat) (o:Oper),l.toArray[i]?=some o->o.dst≠some t:=by
 intro t ht i o hi hd;rw[List.all_eq_true] at h;have:=h o (List.mem_of_getElem? (by simpa using hi));rw[hd] at this;exact ht (by simpa using this)
theorem Mid.actN{F:Nat->World->Value->Prop}{a0:Act}{w0:World}{listed:Array Bool}{a:Act}{w:World}{n:Nat}(h:Mid ops F a0 w0 listed a w)(hk:Zmt ops n a0 a)(ds:List Nat)(hds:∀ t,t ∉ ds->∀ (i:Nat) (o:Oper),i<n->ops[i]?=some o->o.dst≠some t):a=ds.foldl (fun b d=>b.put (some d) (a.tmps.getD d undef)) a0:=by
 obtain⟨h1,h2,h3⟩:=Zmw (fun d=>a.tmps.getD d undef) ds a0;have hd:=h.defers;have hs:=h.tsize;generalize ds.foldl (fun b d=>b.put (some d) (a.tmps.getD d undef)) a0=b at *
 have ht:a.tmps=b.tmps:=by
  apply Array.ext
  ·rw[hs,h1]
  ·intro t ha hb
   have e1:a.tmps.getD t undef=a.tmps[t]:=by simp[Array.getD,ha]
   have e2:b.tmps.getD t undef=b.tmps[t]:=by simp[Array.getD,hb]
   refine e1.symm.trans (Eq.trans ?_ e2);rw[h3 t (by rw[<- hs];exact ha)];by_cases hn:t∈ds
   ·rw[if_pos hn]
   ·rw[if_neg hn]
    exact hk t (hds t hn)
 obtain⟨ta,da⟩:=a;obtain⟨tb,db⟩:=b;have e1:ta=tb:=ht;have e2:da=db:=hd.trans h2.symm;rw[e1,e2]
theorem Zu9{l:List Oper}{n i:Nat}{o:Oper}(hi:i<n)(ho:l.toArray[i]?=some o):o∈l.take n:=by
 have h:l[i]?=some o:=by simpa using ho
 refine List.mem_of_getElem? (i:=i) ?_;rw[List.getElem?_take_of_lt hi];exact h
theorem Zej{l:List Oper}{n:Nat}{ds:List Nat}(h:(l.take n).all (fun o=>match o.dst with | some d=>ds.contains d | none=>true)=true):∀ t,t ∉ ds->∀ (i:Nat) (o:Oper),i<n->l.toArray[i]?=some o->o.dst≠some t:=by
 intro t ht i o hi ho hd;rw[List.all_eq_true] at h;have:=h o (Zu9 hi ho);rw[hd] at this;exact ht (by simpa using this)
theorem Zak{l:List Oper}{n t:Nat}(h:(l.take n).all (fun o=>match o.dst with | some d=>d != t | none=>true)=true):∀ (i:Nat) (o:Oper),i<n->l.toArray[i]?=some o->o.dst≠some t:=by
 intro i o hi ho hd;rw[List.all_eq_true] at h;have:=h o (Zu9 hi ho);rw[hd] at this;simp at this
end
end
section
open Go.RowKit
section
variable {P:Program} {ops:Array Oper} {md:Region.Mode} {Q:Exit->Act->World->Prop}
def Zmx(n i:Nat):Prop:=i<n\/i=n+1
def Zjg(ops:Array Oper)(n:Nat)(a0 a:Act):Prop:=∀ t,(∀ (i:Nat) (o:Oper),Zmx n i->ops[i]?=some o->o.dst≠some t)->a.tmps.getD t undef=a0.tmps.getD t undef
theorem Zjg.put{n:Nat}{a0 a:Act}{i:Nat}{o:Oper}(h:Zjg ops n a0 a)(hi:Zmx n i)(ho:ops[i]?=some o)(v:Value):Zjg ops n a0 (a.put o.dst v):=by
 intro t ht
 cases hd:o.dst with
 | none=>exact h t ht
 | some d =>
  rw[Zcq a d t v (fun e=>ht i o hi ho (by rw[hd,e]))];exact h t ht
def Zfx(md:Region.Mode)(ops:Array Oper)(i m:Nat):Prop:=∀ (o:Oper),ops[i]?=some o->∀ L:Nat->Bool,Zei md ops L->(∀ e∈o.after,Region.binds md e=true->L e.on=true)->∀ j,j<m->L j=true
theorem Zls{n:Nat}(hn:ops.size=n+3)(hacyc:∀ (i:Nat) (o:Oper),ops[i]?=some o->∀ e∈o.after,Region.binds md e=true->e.on<i)(hst:Zfx md ops (n+2) (n+2)){f:Nat}{listed:Array Bool}{a:Act}{w:World}(hcl:Zei md ops (fun j=>listed.getD j false))(hs:listed.size=ops.size)(h1:∀ j,j<n+2->listed.getD j false=true)(h2:listed.getD (n+2) false=false)(hf:Zgz listed<=f)(hq:Zik P ops Q 1 (n+2) a w):wpAny P md ops Q f listed a w :=
 Zhn (n:=n+2) hacyc (fun i o hi ho L hL he j hj=>by
  have hi2:i=n+2:=by have:=(Array.getElem?_eq_some_iff.1 ho).1;omega
  subst hi2
  exact hst o ho L hL he j hj) 1 (n+2) f listed a w hcl (Nat.le_refl _) (by omega) hs h1 (fun j hj hj2=>by
  have:j=n+2:=by omega
  subst this;exact h2) hf hq
theorem Zlt {F:Nat->World->Value->Prop} {a0:Act} {w0:World} {n:Nat} (hn:ops.size=n+3)
  (hF:∀ i w w' v,F i w v->Below w.heap.size w w'->F i w' v)
  (hdst:∀ (i j:Nat) (oi oj:Oper) (d:Tmp),ops[i]?=some oi->ops[j]?=some oj->oi.dst=some d->oj.dst=some d->i=j)
  (hin:∀ (i:Nat) (o:Oper),Zmx n i->ops[i]?=some o->∃ d,o.dst=some d/\d<a0.tmps.size)
  (hacyc:∀ (i:Nat) (o:Oper),ops[i]?=some o->∀ e∈o.after,Region.binds md e=true->e.on<i)
  (hcr:Zfx md ops n n) (hst:Zfx md ops (n+2) (n+2))
  (hstep:∀ (i:Nat) (o:Oper),Zmx n i->ops[i]?=some o->∀ listed a w,Mid ops F a0 w0 listed a w->Zjg ops n a0 a->(∀ e∈o.after,Region.binds md e=true->listed.getD e.on false=true)->wpOp P ops Q i (fun a' w'=>∃ v,a'=a.put o.dst v/\Below w.heap.size w w'/\F i w' v) a w)
  (hA:∀ listed a w,Mid ops F a0 w0 listed a w->Zjg ops n a0 a->(∀ i,i<n->listed.getD i false=true)->listed.getD (n+1) false=true->wpOp P ops Q n (fun a' w'=>Zik P ops Q 1 (n+2) a' w') a w)
  (hB:∀ listed a w,Mid ops F a0 w0 listed a w->Zjg ops n a0 a->(∀ i,i<n->listed.getD i false=true)->Zik P ops Q 3 n a w) :
  ∀ (f:Nat) (listed:Array Bool) (a:Act) (w:World),Zei md ops (fun j=>listed.getD j false)->listed.getD n false=false->listed.getD (n+2) false=false->Zgz listed<=f->Mid ops F a0 w0 listed a w->Zjg ops n a0 a->wpAny P md ops Q f listed a w
 | 0,listed,a,w,hcl,hl0,hl2,hf,h,hsn=>by
  have:=Zet (Nat.le_zero.1 hf) n (by rw[h.size];omega);rw[hl0] at this;cases this
 | f+1,listed,a,w,hcl,hl0,hl2,hf,h,hsn=>by
  refine⟨fun hr=>?_,fun i hi=>?_⟩
  ·have:=Zeu hacyc h.size hr n (by omega)
   rw[hl0] at this;cases this
  ·obtain⟨h1,o,h2,h3⟩:=mem_ready.1 hi
   have hlt:=(Array.getElem?_eq_some_iff.1 h2).1;rw[Zfs (by rw[h.size];exact hlt)] at h1
   have hls:i<listed.size:=by rw[h.size];exact hlt
   by_cases hx:Zmx n i
   ·obtain⟨d,hd,hds⟩:=hin i o hx h2
    refine wpOp_mono (fun a' w' hh=>?_) (hstep i o hx h2 listed a w h hsn h3);obtain⟨v,rfl,hb,hv⟩:=hh;refine Zlt hn hF hdst hin hacyc hcr hst hstep hA hB f _ _ _ (hcl.set hls h2 h3) ?_ ?_ ?_ (h.next1 (fun j u hu=>hF j w w' u hu hb) hdst h2 hd hds hb hv) (hsn.put hx h2 v)
    ·rw[Za6 hls,if_neg (by unfold Zmx at hx;omega)];exact hl0
    ·rw[Za6 hls,if_neg (by unfold Zmx at hx;omega)];exact hl2
    ·have:=Zd1 hls h1
     omega
   ·have hin2:i=n\/i=n+2:=by unfold Zmx at hx;omega
    rcases hin2 with rfl | rfl
    ·have hall:∀ j,j<i->listed.getD j false=true:=fun j hj=>hcr o h2 (fun j=>listed.getD j false) hcl h3 j hj
     by_cases hs1:listed.getD (i+1) false=true
     ·refine wpOp_mono (fun a' w' hq'=>?_) (hA listed a w h hsn hall hs1)
      refine Zls hn hacyc hst (hcl.set hls h2 h3) (by simp[h.size]) (fun j hj=>?_) ?_ ?_ hq'
      ·rw[Za6 hls]
       split
       ·rfl
       ·rcases Nat.lt_or_ge j i with g | g
        ·exact hall j g
        ·have:j=i+1:=by omega
         subst this;exact hs1
      ·rw[Za6 hls,if_neg (by omega)];exact hl2
      ·have:=Zd1 hls h1
       omega
     ·rw[Bool.not_eq_true] at hs1
      have hB':=hB listed a w h hsn hall;refine wpOp_mono (fun a' w' hq'=>?_) hB';have hcl1:=hcl.set hls h2 h3
      have hl1:∀ j,(listed.setIfInBounds i true).getD j false=(if j=i then true else listed.getD j false):=fun j=>Za6 hls
      have ho1:=Zd1 hls h1
      have hsz:(listed.setIfInBounds i true).size=ops.size:=by simp[h.size]
      generalize listed.setIfInBounds i true=l1 at *
      cases f with
      | zero =>
       have:=Zet (show Zgz l1=0 by omega) (i+1) (by rw[hsz];omega);rw[hl1,if_neg (by omega),hs1] at this;cases this
      | succ f =>
       refine⟨fun hr=>?_,fun j hj=>?_⟩
       ·have:=Zeu hacyc hsz hr (i+1) (by omega)
        rw[hl1,if_neg (by omega),hs1] at this;cases this
       ·obtain⟨g1,o2,g2,g3⟩:=mem_ready.1 hj
        have hlt2:=(Array.getElem?_eq_some_iff.1 g2).1;rw[Zfs (by rw[hsz];exact hlt2)] at g1
        have hji:j=i+1:=by
         rcases Nat.lt_trichotomy j i with g | g | g
         ·rw[hl1,if_neg (by omega),hall j g] at g1;cases g1
         ·rw[hl1,if_pos g] at g1;cases g1
         ·rcases Nat.lt_or_ge j (i+2) with g' | g'
          ·omega
          ·have hj2:j=i+2:=by omega
           subst hj2;have h7:l1.getD (i+1) false=true:=hst o2 g2 (fun j=>l1.getD j false) hcl1 g3 (i+1) (by omega)
           have h8:l1.getD (i+1) false=false:=by rw[hl1,if_neg (by omega)];exact hs1
           rw[h8] at h7;cases h7
        subst hji;refine wpOp_mono (fun a2 w2 hq2=>?_) hq';refine Zls hn hacyc hst (hcl1.set (by rw[hsz];exact hlt2) g2 g3) (by simp[hsz]) (fun k hk=>?_) ?_ ?_ hq2
        ·rw[Za6 (by rw[hsz];exact hlt2),hl1]
         split
         ·rfl
         ·split
          ·rfl
          ·exact hall k (by omega)
        ·rw[Za6 (by rw[hsz];exact hlt2),if_neg (by omega),hl1,if_neg (by omega)];exact hl2
        ·have:=Zd1 (show i+1<l1.size by rw[hsz];exact hlt2) g1
         omega
    ·have:=hst o h2 (fun j=>listed.getD j false) hcl h3 n (by omega)
     rw[show listed.getD n false=true from this] at hl0;cases hl0
theorem Zk8 {id:Nat} {a:Act} {w:World} {l:List Oper} (n:Nat) (F:Nat->World->Value->Prop) (hm:P.follows .mixedOrders=true) (hn:l.toArray.size=n+3)
  (hF:∀ i w w' v,F i w v->Below w.heap.size w w'->F i w' v)
  (hdst:∀ (i j:Nat) (oi oj:Oper) (d:Tmp),l.toArray[i]?=some oi->l.toArray[j]?=some oj->oi.dst=some d->oj.dst=some d->i=j)
  (hin:∀ (i:Nat) (o:Oper),Zmx n i->l.toArray[i]?=some o->∃ d,o.dst=some d/\d<a.tmps.size)
  (hacyc:∀ (i:Nat) (o:Oper),l.toArray[i]?=some o->∀ e∈o.after,Region.binds .any e=true->e.on<i)
  (hcr:Zfx .any l.toArray n n) (hst:Zfx .any l.toArray (n+2) (n+2))
  (hstep:∀ (i:Nat) (o:Oper),Zmx n i->l.toArray[i]?=some o->∀ listed a' w',Mid l.toArray F a w listed a' w'->Zjg l.toArray n a a'->(∀ e∈o.after,Region.binds .any e=true->listed.getD e.on false=true)->wpOp P l.toArray Q i (fun a'' w''=>∃ v,a''=a'.put o.dst v/\Below w'.heap.size w' w''/\F i w'' v) a' w')
  (hA:∀ listed a' w',Mid l.toArray F a w listed a' w'->Zjg l.toArray n a a'->(∀ i,i<n->listed.getD i false=true)->listed.getD (n+1) false=true->wpOp P l.toArray Q n (fun a'' w''=>Zik P l.toArray Q 1 (n+2) a'' w'') a' w')
  (hB:∀ listed a' w',Mid l.toArray F a w listed a' w'->Zjg l.toArray n a a'->(∀ i,i<n->listed.getD i false=true)->Zik P l.toArray Q 3 n a' w') :
  (Code.region id l.toArray true).wp P Q a w:=by
 refine wp_region_any hm ?_;have hb:Below w.heap.size w { w with drawn:=w.drawn+1 }:=(Below.refl w.heap.size w).drew
 have hz:∀ i,(Array.replicate l.toArray.size false).getD i false=false:=fun i=>by simp[Array.getD]
 have h0:Mid l.toArray F a w (Array.replicate l.toArray.size false) a { w with drawn:=w.drawn+1 }:=by
  refine⟨by simp,hb,rfl,rfl,fun i o d hi hl=>?_,fun t _=>rfl⟩;rw[hz i] at hl;cases hl
 exact Zlt hn hF hdst hin hacyc hcr hst hstep hA hB _ _ _ _ (fun i o hi hl=>absurd ((hz i).symm.trans hl) (by simp)) (hz _) (hz _) (by unfold Zgz;exact Nat.le_trans List.countP_le_length (by simp)) h0 (fun t _=>rfl)
theorem Zq8{l:List Oper}{i m:Nat}(h:(match l[i]? with | some o=>(List.range m).all (fun j=>(Zu8 l (Z1v o) i).contains j) | none=>true)=true):Zfx .any l.toArray i m:=by
 intro o ho L hL he j hj
 have ho':l[i]?=some o:=by simpa using ho
 rw[ho'] at h;have h:=List.all_eq_true.1 h j (List.mem_range.2 hj);refine Zmv hL i (Z1v o) (fun k hk=>?_) j (by simpa using h);obtain⟨e,h1,h2,h3⟩:=Zmu hk;rw[<- h2];exact he e h1 h3
theorem Z1w{l:List Oper}{n m:Nat}(h:l.zipIdx.all (fun p=>!(decide (p.2<n)||decide (p.2=n+1))||(match p.1.dst with | some d=>decide (d<m) | none=>false))=true):∀ (i:Nat) (o:Oper),Zmx n i->l.toArray[i]?=some o->∃ d,o.dst=some d/\d<m:=by
 intro i o hx ho
 have ho':l[i]?=some o:=by simpa using ho
 have hz:l.zipIdx[i]?=some (o,i):=by rw[List.getElem?_zipIdx,ho'];simp
 have:=List.all_eq_true.1 h _ (List.mem_of_getElem? hz)
 have hb:(decide (i<n)||decide (i=n+1))=true:=by unfold Zmx at hx;rcases hx with h1 | h1<;>simp[h1]
 simp only[hb,Bool.not_true,Bool.false_or] at this
 cases hd:o.dst with
 | none=>rw[hd] at this;cases this
 | some d=>rw[hd] at this;exact⟨d,rfl,by simpa using this⟩
theorem Mid.actX{F:Nat->World->Value->Prop}{a0:Act}{w0:World}{listed:Array Bool}{a:Act}{w:World}{n:Nat}(h:Mid ops F a0 w0 listed a w)(hk:Zjg ops n a0 a)(ds:List Nat)(hds:∀ t,t ∉ ds->∀ (i:Nat) (o:Oper),Zmx n i->ops[i]?=some o->o.dst≠some t):a=ds.foldl (fun b d=>b.put (some d) (a.tmps.getD d undef)) a0:=by
 obtain⟨h1,h2,h3⟩:=Zmw (fun d=>a.tmps.getD d undef) ds a0;have hd:=h.defers;have hs:=h.tsize;generalize ds.foldl (fun b d=>b.put (some d) (a.tmps.getD d undef)) a0=b at *
 have ht:a.tmps=b.tmps:=by
  apply Array.ext
  ·rw[hs,h1]
  ·intro t ha hb
   have e1:a.tmps.getD t undef=a.tmps[t]:=by simp[Array.getD,ha]
   have e2:b.tmps.getD t undef=b.tmps[t]:=by simp[Array.getD,hb]
   refine e1.symm.trans (Eq.trans ?_ e2);rw[h3 t (by rw[<- hs];exact ha)];by_cases hn:t∈ds
   ·rw[if_pos hn]
   ·rw[if_neg hn]
    exact hk t (hds t hn)
 obtain⟨ta,da⟩:=a;obtain⟨tb,db⟩:=b;have e1:ta=tb:=ht;have e2:da=db:=hd.trans h2.symm;rw[e1,e2]
theorem Zva{l:List Oper}{n:Nat}{ds:List Nat}(h:l.zipIdx.all (fun p=>!(decide (p.2<n)||decide (p.2=n+1))||(match p.1.dst with | some d=>ds.contains d | none=>true))=true):∀ t,t ∉ ds->∀ (i:Nat) (o:Oper),Zmx n i->l.toArray[i]?=some o->o.dst≠some t:=by
 intro t ht i o hx ho hd
 have ho':l[i]?=some o:=by simpa using ho
 have hz:l.zipIdx[i]?=some (o,i):=by rw[List.getElem?_zipIdx,ho'];simp
 have:=List.all_eq_true.1 h _ (List.mem_of_getElem? hz)
 have hb:(decide (i<n)||decide (i=n+1))=true:=by unfold Zmx at hx;rcases hx with h1 | h1<;>simp[h1]
 simp only[hb,Bool.not_true,Bool.false_or,hd] at this;exact ht (by simpa using this)
theorem Zjh{l:List Oper}{n t:Nat}(h:l.zipIdx.all (fun p=>!(decide (p.2<n)||decide (p.2=n+1))||(match p.1.dst with | some d=>d != t | none=>true))=true):∀ (i:Nat) (o:Oper),Zmx n i->l.toArray[i]?=some o->o.dst≠some t:=by
 intro i o hx ho hd
 have ho':l[i]?=some o:=by simpa using ho
 have hz:l.zipIdx[i]?=some (o,i):=by rw[List.getElem?_zipIdx,ho'];simp
 have:=List.all_eq_true.1 h _ (List.mem_of_getElem? hz)
 have hb:(decide (i<n)||decide (i=n+1))=true:=by unfold Zmx at hx;rcases hx with h1 | h1<;>simp[h1]
 simp only[hb,Bool.not_true,Bool.false_or,hd] at this;simp at this
end
end
end Go.Proofs.YtbcgocpihobjnaaGreatDoor
