import Derived.Deep.Quiet
import Derived.Lib.QuietBelow
import Derived.Test.YtmkdfbelbcocpaaGreatDoorHP1
import Derived.Test.YtmkdfbelbcocpaaGreatDoorHP9
set_option linter.unusedVariables false
set_option linter.unusedSimpArgs false
namespace Go.Proofs.YtmkdfbelbcocpaaGreatDoor
open Go.RowKit
section
variable {P:Program} {ops:Array Oper} {md:Region.Mode} {Q:Exit→Act→World→Prop}
structure Mid (ops:Array Oper) (F:Nat→World→Value→Prop) (a0:Act) (w0:World) (listed:Array Bool) (a:Act) (w:World):Prop where
 size:listed.size=ops.size
 below:Below w0.heap.size w0 w
 defers:a.defers=a0.defers
 tsize:a.tmps.size=a0.tmps.size
 done:∀ (i:Nat) (o:Oper) (d:Tmp),ops[i]?=some o→listed.getD i false=true→o.dst=some d→F i w (a.tmps.getD d undef)
 same:∀ t,(∀ (i:Nat) (o:Oper),ops[i]?=some o→o.dst≠some t)→a.tmps.getD t undef=a0.tmps.getD t undef
theorem getD_tf {l:Array Bool} {i:Nat} (hi:i<l.size):l.getD i true=l.getD i false:=by simp[Array.getD,hi]
theorem ready_all (hacyc:∀ (i:Nat) (o:Oper),ops[i]?=some o→∀ e∈o.after,e.on<i) {listed:Array Bool} (hs:listed.size=ops.size) (h:Region.ready md ops listed=[]):∀ i,i<ops.size→listed.getD i false=true:=by
 intro i
 induction i using Nat.strongRecOn with
 | _ i ih =>
  intro hi
  cases hl:listed.getD i false with
  | true=>rfl
  | false =>
   have:i∈Region.ready md ops listed:=mem_ready.2 ⟨by rw[getD_tf (by rw[hs];exact hi)];exact hl,ops[i],Array.getElem?_eq_getElem hi,fun e he _=>ih e.on (hacyc i _ (Array.getElem?_eq_getElem hi) e he) (Nat.lt_trans (hacyc i _ (Array.getElem?_eq_getElem hi) e he) hi)⟩
   rw[h] at this
   exact absurd this List.not_mem_nil
theorem put_getD_same (a:Act) (d:Tmp) (v:Value) (hd:d<a.tmps.size):(a.put (some d) v).tmps.getD d undef=v:=by
 simp[Act.put,Array.getD,hd]
theorem put_getD_ne (a:Act) (d t:Tmp) (v:Value) (h:t≠d):(a.put (some d) v).tmps.getD t undef=a.tmps.getD t undef:=by
 simp[Act.put,Array.getElem?_setIfInBounds,Ne.symm h]
theorem getD_listed {l:Array Bool} {i j:Nat} (hi:i<l.size):(l.setIfInBounds i true).getD j false=(if j=i then true else l.getD j false):=by
 by_cases h:j=i
 ·subst h;simp[Array.getD,hi]
 ·rw[if_neg h];simp[Array.getElem?_setIfInBounds,Ne.symm h]
theorem Mid.next {F:Nat→World→Value→Prop} {a0:Act} {w0:World} {listed:Array Bool} {a:Act} {w w':World} (h:Mid ops F a0 w0 listed a w)
  (hF:∀ i w w' v,F i w v→Below w.heap.size w w'→F i w' v)
  (hdst:∀ (i j:Nat) (oi oj:Oper) (d:Tmp),ops[i]?=some oi→ops[j]?=some oj→oi.dst=some d→oj.dst=some d→i=j)
  (hin:∀ (i:Nat) (o:Oper),ops[i]?=some o→∃ d,o.dst=some d∧d<a0.tmps.size)
  {i:Nat} {o:Oper} (hi:ops[i]?=some o) {v:Value} (hb:Below w.heap.size w w') (hv:F i w' v):Mid ops F a0 w0 (listed.setIfInBounds i true) (a.put o.dst v) w':=by
 obtain⟨d,hd,hds⟩:=hin i o hi
 have hil:i<listed.size:=by rw[h.size];exact (Array.getElem?_eq_some_iff.1 hi).1
 have hda:d<a.tmps.size:=by rw[h.tsize];exact hds
 refine⟨by simp[h.size],h.below.trans (hb.mono h.below.size),?_,?_,fun j oj dj hj hl hdj=>?_,fun t ht=>?_⟩
 ·rw[hd];exact h.defers
 ·rw[hd];simp[Act.put,h.tsize]
 ·rw[getD_listed hil] at hl
  rw[hd]
  by_cases hji:j=i
  ·subst hji
   rw[hi] at hj
   obtain rfl:=Option.some.inj hj
   rw[hd] at hdj
   obtain rfl:=Option.some.inj hdj
   rw[put_getD_same a _ v hda]
   exact hv
  ·rw[if_neg hji] at hl
   have hne:dj≠d:=fun e=>hji (hdst j i oj o dj hj hi hdj (by rw[hd,e]))
   rw[put_getD_ne a d dj v hne]
   exact hF j w w' _ (h.done j oj dj hj hl hdj) hb
 ·rw[hd,put_getD_ne a d t v (fun e=>ht i o hi (by rw[hd,e]))]
  exact h.same t ht
def openN (listed:Array Bool):Nat:=listed.toList.countP (fun b=>!b)
theorem openN_set {listed:Array Bool} {i:Nat} (hi:i<listed.size) (hl:listed.getD i false=false):openN (listed.setIfInBounds i true)+1=openN listed:=by
 unfold openN
 have key:∀ (l:List Bool) (i:Nat),l[i]?=some false→(l.set i true).countP (fun b=>!b)+1=l.countP (fun b=>!b):=by
  intro l
  induction l with
  | nil=>intro i h;simp at h
  | cons b l ih =>
   intro i h
   cases i with
   | zero=>simp at h;subst h;simp
   | succ i =>
    have:=ih i (by simpa using h)
    rw[List.set_cons_succ,List.countP_cons,List.countP_cons]
    omega
 have h2:listed.toList[i]?=some false:=by
  rw[Array.getElem?_toList,Array.getElem?_eq_getElem hi]
  have:listed.getD i false=listed[i]:=by simp[Array.getD,hi]
  rw[← this,hl]
 rw[Array.toList_setIfInBounds]
 exact key _ i h2
theorem openN_zero {listed:Array Bool} (h:openN listed=0):∀ i,i<listed.size→listed.getD i false=true:=by
 intro i hi
 unfold openN at h
 rw[List.countP_eq_zero] at h
 have:=h listed[i] (by simp)
 have e:listed.getD i false=listed[i]:=by simp[Array.getD,hi]
 rw[e]
 simpa using this
theorem wpAny_mid {F:Nat→World→Value→Prop} {a0:Act} {w0:World}
  (hF:∀ i w w' v,F i w v→Below w.heap.size w w'→F i w' v)
  (hdst:∀ (i j:Nat) (oi oj:Oper) (d:Tmp),ops[i]?=some oi→ops[j]?=some oj→oi.dst=some d→oj.dst=some d→i=j)
  (hin:∀ (i:Nat) (o:Oper),ops[i]?=some o→∃ d,o.dst=some d∧d<a0.tmps.size)
  (hacyc:∀ (i:Nat) (o:Oper),ops[i]?=some o→∀ e∈o.after,e.on<i)
  (hstep:∀ (i:Nat) (o:Oper),ops[i]?=some o→∀ listed a w,Mid ops F a0 w0 listed a w→(∀ e∈o.after,Region.binds md e=true→listed.getD e.on false=true)→wpOp P ops Q i (fun a' w'=>∃ v,a'=a.put o.dst v∧Below w.heap.size w w'∧F i w' v) a w)
  (hend:∀ listed a w,Mid ops F a0 w0 listed a w→(∀ i,i<ops.size→listed.getD i false=true)→Q .normal a w) :
  ∀ (f:Nat) (listed:Array Bool) (a:Act) (w:World),openN listed≤f→Mid ops F a0 w0 listed a w→wpAny P md ops Q f listed a w
 | 0,listed,a,w,hf,h=>by
  have hall:=openN_zero (Nat.le_zero.1 hf)
  rw[h.size] at hall
  refine⟨?_,hend listed a w h hall⟩
  cases hr:Region.ready md ops listed with
  | nil=>rfl
  | cons i l =>
   have hi:i∈Region.ready md ops listed:=by rw[hr];simp
   obtain⟨h1,o,h2,-⟩:=mem_ready.1 hi
   have hlt:=(Array.getElem?_eq_some_iff.1 h2).1
   rw[getD_tf (by rw[h.size];exact hlt),hall i hlt] at h1
   cases h1
 | f+1,listed,a,w,hf,h=>by
  refine⟨fun hr=>hend listed a w h (ready_all hacyc h.size hr),fun i hi=>?_⟩
  obtain⟨h1,o,h2,h3⟩:=mem_ready.1 hi
  have hlt:=(Array.getElem?_eq_some_iff.1 h2).1
  rw[getD_tf (by rw[h.size];exact hlt)] at h1
  refine wpOp_mono (fun a' w' hh=>?_) (hstep i o h2 listed a w h h3)
  obtain⟨v,rfl,hb,hv⟩:=hh
  refine wpAny_mid hF hdst hin hacyc hstep hend f _ _ _ ?_ (h.next hF hdst hin h2 hb hv)
  have:=openN_set (by rw[h.size];exact hlt) h1
  omega
theorem wp_region_mid {id:Nat} {a:Act} {w:World} {l:List Oper} (F:Nat→World→Value→Prop) (hm:P.follows .mixedOrders=true)
  (hF:∀ i w w' v,F i w v→Below w.heap.size w w'→F i w' v)
  (hdst:∀ (i j:Nat) (oi oj:Oper) (d:Tmp),l.toArray[i]?=some oi→l.toArray[j]?=some oj→oi.dst=some d→oj.dst=some d→i=j)
  (hin:∀ (i:Nat) (o:Oper),l.toArray[i]?=some o→∃ d,o.dst=some d∧d<a.tmps.size)
  (hacyc:∀ (i:Nat) (o:Oper),l.toArray[i]?=some o→∀ e∈o.after,e.on<i)
  (hstep:∀ (i:Nat) (o:Oper),l.toArray[i]?=some o→∀ listed a' w',Mid l.toArray F a w listed a' w'→(∀ e∈o.after,Region.binds .any e=true→listed.getD e.on false=true)→wpOp P l.toArray Q i (fun a'' w''=>∃ v,a''=a'.put o.dst v∧Below w'.heap.size w' w''∧F i w'' v) a' w')
  (hend:∀ listed a' w',Mid l.toArray F a w listed a' w'→(∀ i,i<l.toArray.size→listed.getD i false=true)→Q .normal a' w') :
  (Code.region id l.toArray true).wp P Q a w:=by
 refine wp_region_any hm ?_
 have hb:Below w.heap.size w { w with drawn:=w.drawn+1 }:=(Below.refl w.heap.size w).drew
 have h0:Mid l.toArray F a w (Array.replicate l.toArray.size false) a { w with drawn:=w.drawn+1 }:=by
  refine⟨by simp,hb,rfl,rfl,fun i o d hi hl=>?_,fun t _=>rfl⟩
  have:(Array.replicate l.toArray.size false).getD i false=false:=by
   simp[Array.getD]
  rw[this] at hl
  cases hl
 exact wpAny_mid hF hdst hin hacyc hstep hend _ _ _ _ (by unfold openN;exact Nat.le_trans List.countP_le_length (by simp)) h0
theorem hacyc_of {l:List Oper} (h:l.zipIdx.all (fun p=>p.1.after.toList.all (fun e=>decide (e.on<p.2)))=true):∀ (i:Nat) (o:Oper),l.toArray[i]?=some o→∀ e∈o.after,e.on<i:=by
 intro i o hi e he
 rw[List.all_eq_true] at h
 have hm:(o,i)∈l.zipIdx:=by
  rw[List.mem_zipIdx_iff_getElem?]
  simpa using hi
 have:=h (o,i) hm
 rw[List.all_eq_true] at this
 exact of_decide_eq_true (this e (by simpa using he))
theorem hin_of {l:List Oper} {n:Nat} (h:l.all (fun o=>match o.dst with | some d=>decide (d<n) | none=>false)=true):∀ (i:Nat) (o:Oper),l.toArray[i]?=some o→∃ d,o.dst=some d∧d<n:=by
 intro i o hi
 rw[List.all_eq_true] at h
 have hm:o∈l:=List.mem_of_getElem? (by simpa using hi)
 have:=h o hm
 cases hd:o.dst with
 | none=>rw[hd] at this;simp at this
 | some d=>rw[hd] at this;exact⟨d,rfl,of_decide_eq_true this⟩
theorem hdst_of {l:List Oper} (h:decide ((l.map (·.dst)).Nodup)=true):∀ (i j:Nat) (oi oj:Oper) (d:Tmp),l.toArray[i]?=some oi→l.toArray[j]?=some oj→oi.dst=some d→oj.dst=some d→i=j:=by
 intro i j oi oj d hi hj h1 h2
 have hn:=of_decide_eq_true h
 have hi':(l.map (·.dst))[i]?=some (some d):=by rw[List.getElem?_map,show l[i]?=some oi by simpa using hi];simp[h1]
 have hj':(l.map (·.dst))[j]?=some (some d):=by rw[List.getElem?_map,show l[j]?=some oj by simpa using hj];simp[h2]
 have hil:=(List.getElem?_eq_some_iff.1 hi').1
 exact (List.getElem?_inj hil hn).1 (hi'.trans hj'.symm)
theorem wpOp_list {i:Nat} {o:Oper} {a:Act} {w:World} {K:Act→World→Prop} (hi:ops[i]?=some o) (h:wpList P ops (postOf K Q) [o] a w):wpOp P ops Q i K a w:=by
 unfold wpOp
 simp only[hi]
 unfold wpList at h
 split
 ·rename_i hw
  rw[if_pos hw] at h
  exact h.imp wp_postOf id
 ·rename_i hw
  rw[if_neg hw] at h
  exact h
theorem after_listed {o:Oper} {listed:Array Bool} (hl:∀ e∈o.after,Region.binds .any e=true→listed.getD e.on false=true) (k:Nat) (h:o.after.toList.any (fun e=>e.on==k&&Region.binds .any e)=true):listed.getD k false=true:=by
 obtain⟨e,he,h2⟩:=List.any_eq_true.1 h
 rw[Bool.and_eq_true,beq_iff_eq] at h2
 rw[← h2.1]
 exact hl e (by simpa using he) h2.2
theorem nodst_of {l:List Oper} {t:Tmp} (h:l.all (fun o=>o.dst != some t)=true):∀ (i:Nat) (o:Oper),l.toArray[i]?=some o→o.dst≠some t:=by
 intro i o hi e
 rw[List.all_eq_true] at h
 have:=h o (List.mem_of_getElem? (by simpa using hi))
 rw[e] at this
 simp at this
end
end Go.Proofs.YtmkdfbelbcocpaaGreatDoor
