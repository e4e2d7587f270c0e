import Derived.StillTailTactics
import Derived.WalkKit
set_option linter.unusedVariables false
set_option linter.unusedSimpArgs false
namespace Go.Proofs.YtmkdfbelbcocpaaGreatDoor
section
variable {P:Program} {ops:Array Oper} {md:Region.Mode} {w:World}
def sinkP (md:Region.Mode) (ops:Array Oper) (p n:Nat):Bool :=
 (List.range n).all fun i=>decide (i<p)||(List.range (n+1)).any fun j=>decide (i<j)&&Region.waitsFor md ops j i
theorem shut_from {p n:Nat} (hs:sinkP md ops p n=true) (hc:Region.chainB md ops n=true) (hn:n<ops.size) {listed:Array Bool} (inv:HeadInv md ops n listed) (hp:∀ i,i<p→listed.getD i false=true) {t:Nat} (ht:n≤t) (hr:t∈Region.ready md ops listed) :
  ∀ (d i:Nat),n-i=d→i<n→listed.getD i true=true:=by
 intro d
 induction d using Nat.strongRecOn with
 | _ d ih =>
  intro i hd hi
  cases hun:listed.getD i true with
  | true=>rfl
  | false =>
   exfalso
   obtain⟨_,ot,hot,hall⟩:=mem_ready.1 hr
   have htlt:t<ops.size:=(Array.getElem?_eq_some_iff.1 hot).1
   have hnp:¬ i<p:=fun h=>by have:=hp i h;rw[getD_both hun] at this;cases this
   rcases Nat.lt_or_eq_of_le ht with hlt | heq
   ·have h1:=List.all_eq_true.1 hc t (List.mem_range.2 htlt)
    simp only[Bool.or_eq_true,decide_eq_true_eq] at h1
    obtain⟨o',ho',e,he,hb,hon⟩:=Region.waitsFor_spec (h1.resolve_left (by omega))
    obtain rfl:o'=ot:=Option.some.inj (ho'.symm.trans hot)
    have h2:=hall e he hb
    rw[hon,getD_both (inv.tail (t-1) (by omega) (by omega))] at h2
    cases h2
   ·subst heq
    have h1:=List.all_eq_true.1 hs i (List.mem_range.2 hi)
    simp only[Bool.or_eq_true,decide_eq_true_eq] at h1
    obtain⟨j,hj,hj2⟩:=List.any_eq_true.1 (h1.resolve_left hnp)
    simp only[Bool.and_eq_true,decide_eq_true_eq] at hj2
    obtain⟨oj,hoj,e,he,hb,hon⟩:=Region.waitsFor_spec hj2.2
    have hjn:j<n+1:=List.mem_range.1 hj
    have hl:listed.getD j false=false:=by
     cases h:listed.getD j false with
     | false=>rfl
     | true =>
      have h2:=inv.closed j oj hoj h e he hb
      rw[hon,getD_both hun] at h2
      cases h2
    rcases Nat.lt_or_eq_of_le (Nat.le_of_lt_succ hjn) with hlt | heq
    ·have:=ih (n-j) (by omega) j rfl hlt
     rw[getD_in (by rw[inv.size];omega) hl] at this
     cases this
    ·subst heq
     obtain rfl:oj=ot:=Option.some.inj (hoj.symm.trans hot)
     have h2:=hall e he hb
     rw[hon,getD_both hun] at h2
     cases h2
theorem head_first {p n i:Nat} {oi:Oper} {v:Value} {L:Array Bool→Act→Prop} (hi:ops[i]?=some oi) (hsel:∀ (j:Nat) (o:Oper) cs b,ops[j]?=some o→o.op ≠ .select cs b)
  (hs:sinkP md ops p n=true) (hc:Region.chainB md ops n=true) (hn:n<ops.size) (hin:i<n) (hL:∀ listed a,L listed a→∀ j∈Region.ready md ops listed,n≤j) :
  ∀ (f:Nat) (listed:Array Bool) (a:Act),HeadInv md ops n listed→(∀ i,i<p→listed.getD i false=true) →
   (∀ j oj,ops[j]?=some oj→j≠i→listed.getD j true=false→(∀ e∈oj.after,Region.binds md e=true→e.on≠i)→oi.apart ops oj=true) →
   i∈Region.ready md ops listed→YieldsAt P ops w oi v a →
   wpAnyL P md ops w n L f (listed.setIfInBounds i true) (a.put oi.dst v)→wpAnyL P md ops w n L (f+1) listed a:=by
 intro f
 induction f with
 | zero =>
  intro listed a inv hp _ hr hy H
  refine⟨fun h=>(by rw[h] at hr;cases hr),fun j hj=>?_⟩
  have hjn:j<n:=Nat.lt_of_not_le fun h=>by
   have:=shut_from hs hc hn inv hp h hj _ i rfl hin
   rw[(mem_ready.1 hr).1] at this
   cases this
  by_cases hji:j=i
  ·subst hji;exact⟨hjn,hy.stOp hi H⟩
  ·have:=hL _ _ H j (ready_mono hj hji)
   omega
 | succ f ih =>
  intro listed a inv hp hfree hr hy H
  refine⟨fun h=>(by rw[h] at hr;cases hr),fun j hj=>?_⟩
  have hun:=(mem_ready.1 hr).1
  have hjn:j<n:=Nat.lt_of_not_le fun h=>by
   have:=shut_from hs hc hn inv hp h hj _ i rfl hin
   rw[hun] at this
   cases this
  refine⟨hjn,?_⟩
  by_cases hji:j=i
  ·subst hji;exact hy.stOp hi H
  ·have h1:=(H.2 j (ready_mono hj hji)).2
   obtain⟨hjun,oj,hoj,hall⟩:=mem_ready.1 hj
   have hnot:∀ e∈oj.after,Region.binds md e=true→e.on≠i:=fun e he hb heq=>by
    have h1:=hall e he hb
    rw[heq,getD_both hun] at h1
    cases h1
   have h2:=stOp_put hoj (hfree j oj hoj hji hjun hnot) (fun cs b=>hsel i oi cs b hi) (fun cs b=>hsel j oj cs b hoj) hy h1
   refine stOp_mono (fun a' h3=>ih (listed.setIfInBounds j true) a' (inv.set hj hjn) (fun i hi=>getD_set_true (hp i hi)) (fun k ok hk hki hunk hno=>?_) (ready_mono hr (Ne.symm hji)) h3.1 ?_) h2
   ·refine hfree k ok hk hki ?_ hno
    by_cases hjk:j=k
    ·subst hjk;exact hjun
    ·rw[getD_set_ne true hjk] at hunk;exact hunk
   ·rw[Array.setIfInBounds_comm _ _ hji]
    exact h3.2
theorem head_lex {p n g:Nat} {Lq:Act→Prop} (hsel:Region.noSelect ops=true) (hs:sinkP md ops p n=true) (hc:Region.chainB md ops n=true) (hn:n<ops.size) :
  ∀ (l:List Oper) (k:Nat) (listed:Array Bool) (a:Act),(∀ j,j<l.length→l[j]?=ops[k+j]?)→k+l.length=n→HeadInv md ops n listed→(∀ i,i<p→listed.getD i false=true) →
  Region.lexHead md ops g l.length k listed=true→wpStill P ops w Lq l a →
  wpAnyL P md ops w n (fun listed' a'=>Region.seqB md ops g n listed'=true∧Lq a') l.length listed a
 | [],k,listed,a,_,hk,_,_,hB,h=>by
  obtain rfl:k=n:=by simpa using hk
  exact⟨by simpa [Region.lexHead] using hB,h⟩
 | o::l,k,listed,a,hl,hk,inv,hp,hB,h=>by
  have h0:ops[k]?=some o:=by simpa using (hl 0 (by simp)).symm
  simp only[List.length_cons,Region.lexHead,Bool.and_eq_true] at hB
  obtain⟨⟨hr,hf⟩,hB'⟩:=hB
  have hkn:k<n:=by simp only[List.length_cons] at hk;omega
  have hr':k∈Region.ready md ops listed:=by simpa using hr
  have hst:stOp P ops w k (wpStill P ops w Lq l) a:=by unfold stOp;simp only[h0];exact h
  obtain⟨v,hy,hK⟩:=yieldsAt_of_stOp h0 hst
  exact head_first h0 (Region.noSelect_spec hsel) hs hc hn hkn (fun listed' a' hL=>seqB_ready hL.1) l.length listed a inv hp (Region.free_spec h0 hf) hr' hy
   (head_lex hsel hs hc hn l (k+1) _ _ (fun j hj=>by have:=hl (j+1) (by simp;omega);simpa [Nat.add_assoc,Nat.add_comm 1 j] using this) (by simp only[List.length_cons] at hk;omega) (inv.set hr' hkn) (fun i hi=>getD_set_true (hp i hi)) hB' hK)
theorem wp_region_move_tail {id:Nat} {Q:Exit→Act→World→Prop} {a:Act} {w:World} {o0:Oper} {l:List Oper} {v:Value} (n:Nat) (hm:P.follows .mixedOrders=true)
  (hB:(Region.noSelect (o0::l).toArray&&decide (0<n)&&decide (n<l.length+1)&&sinkP .any (o0::l).toArray 1 n&&Region.chainB .any (o0::l).toArray n&&(Region.ready .any (o0::l).toArray (Array.replicate (l.length+1) false)).contains 0 &&
   Region.free .any (o0::l).toArray (Array.replicate (l.length+1) false) 0&&Region.lexHead .any (o0::l).toArray (l.length+1-n) (n-1) 1 ((Array.replicate (l.length+1) false).setIfInBounds 0 true))=true)
  (hQ:∀ c a w,Q (.panic c) (a.put o0.dst v) w→Q (.panic c) a w) (hy:Yields P (o0::l).toArray o0 v a)
  (h:wpStill P (o0::l).toArray { w with drawn:=w.drawn+1 } (fun a'=>wpList P (o0::l).toArray Q (l.drop (n-1)) a' { w with drawn:=w.drawn+1 }) (l.take (n-1)) (a.put o0.dst v)):(Code.region id (o0::l).toArray true).wp P Q a w:=by
 simp only[Bool.and_eq_true,decide_eq_true_eq] at hB
 obtain⟨⟨⟨⟨⟨⟨⟨hsel,hn0⟩,hn⟩,hs⟩,hc⟩,hr⟩,hf⟩,hlex⟩:=hB
 refine wp_region_any hm ?_
 have hsz:(o0::l).toArray.size=l.length+1:=by simp
 rw[hsz]
 refine wpAny_take (i:=0) rfl hsel hf hr hQ hy ?_
 have inv0:HeadInv .any (o0::l).toArray n (Array.replicate (l.length+1) false) :=
  ⟨by simp,fun j oj _ hl=>(by rw[getD_replicate_false] at hl;cases hl),fun t _ ht=>getD_in (by simpa using ht) (getD_replicate_false _ _)⟩
 have inv1:=inv0.set (by simpa using hr) hn0
 have hp1:∀ i,i<1→((Array.replicate (l.length+1) false).setIfInBounds 0 true).getD i false=true:=fun i hi=>by
  obtain rfl:i=0:=by omega
  simp
 have htl:(l.take (n-1)).length=n-1:=by simp;omega
 have H:=head_lex (P:=P) (md:=.any) (g:=l.length+1-n) hsel hs hc (by rw[hsz];exact hn) (l.take (n-1)) 1 _ _ (fun j hj=>by
  have hj':j<n-1:=by rw[htl] at hj;exact hj
  rw[List.getElem?_take_of_lt hj',Nat.add_comm]
  simp) (by rw[htl];omega) inv1 hp1 (by rw[htl];exact hlex) h
 have hdl:(l.drop (n-1)).length=l.length+1-n:=by simp;omega
 have:=wpAny_of_head (Q':=Q) (g:=l.length+1-n) (fun listed a' hL=>by
  have:=wpAny_of_seq (P:=P) (md:=.any) (Q':=Q) (ops:=(o0::l).toArray) (l.drop (n-1)) n listed a' { w with drawn:=w.drawn+1 } (fun j=>by
   rw[List.getElem?_drop,show n+j=(n-1+j)+1 by omega];simp) (by rw[hdl];exact hL.1) hL.2
  rwa [hdl] at this) _ _ _ H
 rw[htl,show n-1+(l.length+1-n)=l.length by omega] at this
 exact this
theorem wp_region_mst {id:Nat} {Q:Exit→Act→World→Prop} {a:Act} {w:World} {o0:Oper} {l:List Oper} (v:Value) (m:Nat) (hm:P.follows .mixedOrders=true)
  (hB:(Region.noSelect (o0::l).toArray&&decide (0<m+1)&&decide (m+1<l.length+1)&&sinkP .any (o0::l).toArray 1 (m+1)&&Region.chainB .any (o0::l).toArray (m+1)&&(Region.ready .any (o0::l).toArray (Array.replicate (l.length+1) false)).contains 0 &&
   Region.free .any (o0::l).toArray (Array.replicate (l.length+1) false) 0&&Region.lexHead .any (o0::l).toArray (l.length+1-(m+1)) m 1 ((Array.replicate (l.length+1) false).setIfInBounds 0 true))=true)
  (hQ:∀ c a w,Q (.panic c) (a.put o0.dst v) w→Q (.panic c) a w) (hy:Yields P (o0::l).toArray o0 v a)
  (h:wpStill P (o0::l).toArray { w with drawn:=w.drawn+1 } (fun a'=>wpList P (o0::l).toArray Q (l.drop m) a' { w with drawn:=w.drawn+1 }) (l.take m) (a.put o0.dst v)):(Code.region id (o0::l).toArray true).wp P Q a w :=
 wp_region_move_tail (m+1) hm hB hQ hy h
end
end Go.Proofs.YtmkdfbelbcocpaaGreatDoor
