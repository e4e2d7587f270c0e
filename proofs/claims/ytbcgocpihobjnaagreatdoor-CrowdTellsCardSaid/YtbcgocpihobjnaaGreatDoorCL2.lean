import Derived.Deep.Quiet
import Derived.Lib.QuietBelow
import Derived.Test.YtbcgocpihobjnaaGreatDoorCL1
set_option linter.all false
namespace Go.Proofs.YtbcgocpihobjnaaGreatDoor
open Go.Sort Go.RowKit
section
variable {P:Program} {ops:Array Oper} {md:Region.Mode} {C:World->Prop}
def ej(P:Program)(md:Region.Mode)(ops:Array Oper)(C:World->Prop)(n:Nat)(L:Array Bool->Act->Prop):Nat->Array Bool->Act->Prop
 | 0,listed,a=>L listed a
 | f+1,listed,a=>Region.ready md ops listed≠[]/\∀ i∈Region.ready md ops listed,i<n/\qOp P ops C i (ej P md ops C n L f (listed.setIfInBounds i true)) a
theorem TU{n g:Nat}{L:Array Bool->Act->Prop}{Q':Exit->Act->World->Prop}(hL:∀ listed a w,C w->L listed a->wpAny P md ops Q' g listed a w) :
  ∀ (f:Nat) (listed:Array Bool) (a:Act) (w:World),C w->ej P md ops C n L f listed a->wpAny P md ops Q' (f+g) listed a w
 | 0,listed,a,w,hw,h=>by rw[Nat.zero_add];exact hL _ _ _ hw h
 | f+1,listed,a,w,hw,h=>by
  rw[show f+1+g=(f+g)+1 by omega];exact⟨fun h0=>absurd h0 h.1,fun i hi=>wpOp_of_qOp hw (fun a' w' bM h'=>TU hL f _ a' w' bM h') (h.2 i hi).2⟩
theorem Zp3 {p n i:Nat} {oi:Oper} {v:Value} {L:Array Bool->Act->Prop} (hi:ops[i]?=some oi) (gF:∀ (j:Nat) (o:Oper) cs b,ops[j]?=some o->o.op ≠ .select cs b)
  (hs:dw md ops p n=true) (hc:Region.chainB md ops n=true) (hn:n<ops.size) (aT:i<n) (hL:∀ listed a,L listed a->∀ j∈Region.ready md ops listed,n<=j) :
  ∀ (f:Nat) (listed:Array Bool) (a:Act),HeadInv md ops n listed->(∀ i,i<p->listed.getD i false=true) ->
   (∀ j oj,ops[j]?=some oj->j≠i->listed.getD j true=false->(∀ e∈oj.after,Region.binds md e=true->e.on≠i)->oi.apart ops oj=true) ->
   i∈Region.ready md ops listed->YieldsIn P ops C oi v a ->
   ej P md ops C n L f (listed.setIfInBounds i true) (a.put oi.dst v)->ej P md ops C n L (f+1) listed a:=by
 intro f
 induction f with
 | zero =>
  intro listed a inv hp _ hr hy H;refine⟨fun h=>(by rw[h] at hr;cases hr),fun j hj=>?_⟩
  have rM:j<n:=Nat.lt_of_not_le fun h=>by
   have:=QR hs hc hn inv hp h hj _ i rfl aT;rw[(mem_ready.1 hr).1] at this;cases this
  by_cases iI:j=i
  ·subst iI;exact⟨rM,hy.qOp hi H⟩
  ·have:=hL _ _ H j (ready_mono hj iI)
   omega
 | succ f ih =>
  intro listed a inv hp sJ hr hy H;refine⟨fun h=>(by rw[h] at hr;cases hr),fun j hj=>?_⟩;have gV:=(mem_ready.1 hr).1
  have rM:j<n:=Nat.lt_of_not_le fun h=>by
   have:=QR hs hc hn inv hp h hj _ i rfl aT;rw[gV] at this;cases this
  refine⟨rM,?_⟩;by_cases iI:j=i
  ·subst iI;exact hy.qOp hi H
  ·have h1:=(H.2 j (ready_mono hj iI)).2
   obtain⟨uI,oj,vZ,aD⟩:=mem_ready.1 hj
   have Jb:∀ e∈oj.after,Region.binds md e=true->e.on≠i:=fun e he hb tO=>by
    have h1:=aD e he hb;rw[tO,getD_both gV] at h1;cases h1
   have h2:=qOp_put vZ (sJ j oj vZ iI uI Jb) (fun cs b=>gF i oi cs b hi) (fun cs b=>gF j oj cs b vZ) hy h1;refine qOp_mono (fun a' h3=>ih (listed.setIfInBounds j true) a' (inv.set hj rM) (fun i hi=>getD_set_true (hp i hi)) (fun k ok hk Lo Wy nK=>?_) (ready_mono hr (Ne.symm iI)) h3.1 ?_) h2
   ·refine sJ k ok hk Lo ?_ nK
    by_cases Bo:j=k
    ·subst Bo;exact uI
    ·rw[getD_set_ne true Bo] at Wy;exact Wy
   ·rw[Array.setIfInBounds_comm _ _ iI]
    exact h3.2
theorem TW{p n g:Nat}{Lq:Act->Prop}(gF:Region.noSelect ops=true)(hs:dw md ops p n=true)(hc:Region.chainB md ops n=true)(hn:n<ops.size) :
  ∀ (l:List Oper) (k:Nat) (listed:Array Bool) (a:Act),(∀ j,j<l.length->l[j]?=ops[k+j]?)->k+l.length=n->HeadInv md ops n listed->(∀ i,i<p->listed.getD i false=true) ->
  Region.lexHead md ops g l.length k listed=true->wpQuiet P ops C Lq l a ->
  ej P md ops C n (fun listed' a'=>Region.seqB md ops g n listed'=true/\Lq a') l.length listed a
 | [],k,listed,a,_,hk,_,_,hB,h=>by
  obtain rfl:k=n:=by simpa using hk
  exact⟨by simpa [Region.lexHead] using hB,h⟩
 | o::l,k,listed,a,hl,hk,inv,hp,hB,h=>by
  have h0:ops[k]?=some o:=by simpa using (hl 0 (by simp)).symm
  simp only[List.length_cons,Region.lexHead,Bool.and_eq_true] at hB;obtain⟨⟨hr,hf⟩,hB'⟩:=hB
  have bT:k<n:=by simp only[List.length_cons] at hk;omega
  have fx:k∈Region.ready md ops listed:=by simpa using hr
  have aV:qOp P ops C k (wpQuiet P ops C Lq l) a:=by unfold qOp;simp only[h0];exact h
  obtain⟨v,hy,hK⟩:=yieldsIn_of_qOp h0 aV
  exact Zp3 h0 (Region.noSelect_spec gF) hs hc hn bT (fun listed' a' hL=>seqB_ready hL.1) l.length listed a inv hp (Region.free_spec h0 hf) fx hy
   (TW gF hs hc hn l (k+1) _ _ (fun j hj=>by have:=hl (j+1) (by simp;omega);simpa [Nat.add_assoc,Nat.add_comm 1 j] using this) (by simp only[List.length_cons] at hk;omega) (inv.set fx bT) (fun i hi=>getD_set_true (hp i hi)) hB' hK)
theorem Zob {id:Nat} {Q:Exit->Act->World->Prop} {a:Act} {w:World} {l:List Oper} (n:Nat) (hm:P.follows .mixedOrders=true)
  (hB:(Region.noSelect l.toArray&&decide (n<l.length)&&dw .any l.toArray 0 n&&Region.chainB .any l.toArray n&&Region.lexHead .any l.toArray (l.length-n) n 0 (Array.replicate l.length false))=true)
  (hC:C { w with drawn:=w.drawn+1 })
  (h:wpQuiet P l.toArray C (fun a'=>∀ w',C w'->wpList P l.toArray Q (l.drop n) a' w') (l.take n) a):(Code.region id l.toArray true).wp P Q a w:=by
 simp only[Bool.and_eq_true,decide_eq_true_eq] at hB;obtain⟨⟨⟨⟨gF,hn⟩,hs⟩,hc⟩,rj⟩:=hB;refine wp_region_any hm ?_
 have iK:l.toArray.size=l.length:=by simp
 rw[iK]
 have inv0:HeadInv .any l.toArray n (Array.replicate l.length false) :=
  ⟨by simp,fun j oj _ hl=>(by rw[getD_replicate_false] at hl;cases hl),fun t _ ht=>getD_in (by simpa using ht) (getD_replicate_false _ _)⟩
 have yU:(l.take n).length=n:=by simp;omega
 have H:=TW (P:=P) (C:=C) (md:=.any) (g:=l.length-n) gF hs hc (by rw[iK];exact hn) (l.take n) 0 _ a (fun j hj=>by
  have xG:j<n:=by rw[yU] at hj;exact hj
  rw[List.getElem?_take_of_lt xG,Nat.zero_add]
  simp) (by rw[yU];omega) inv0 (fun i hi=>absurd hi (Nat.not_lt_zero i)) (by rw[yU];exact rj) h
 have Pq:(l.drop n).length=l.length-n:=by simp
 have:=TU (Q':=Q) (g:=l.length-n) (fun listed a' w' bM hL=>by
  have:=wpAny_of_seq (P:=P) (md:=.any) (Q':=Q) (ops:=l.toArray) (l.drop n) n listed a' w' (fun j=>by simp[List.getElem?_drop]) (by rw[Pq];exact hL.1) (hL.2 w' bM)
  rwa [Pq] at this) _ _ _ _ hC H
 rw[yU,show n+(l.length-n)=l.length by omega] at this;exact this
theorem Kw {id:Nat} {Q:Exit->Act->World->Prop} {a:Act} {w:World} {l:List Oper} (n:Nat) (hm:P.follows .mixedOrders=true)
  (hB:(Region.noSelect l.toArray&&decide (n<l.length)&&dw .any l.toArray 0 n&&Region.chainB .any l.toArray n&&Region.lexHead .any l.toArray (l.length-n) n 0 (Array.replicate l.length false))=true)
  (h:wpQuiet P l.toArray (fun w'=>∃ p:Regrown,w'=grow (redrawn w p.d) p.os) (fun a'=>∀ w',(∃ p:Regrown,w'=grow (redrawn w p.d) p.os)->wpList P l.toArray Q (l.drop n) a' w') (l.take n) a):(Code.region id l.toArray true).wp P Q a w :=
 Zob (C:=fun w'=>∃ p:Regrown,w'=grow (redrawn w p.d) p.os) n hm hB ⟨⟨w.drawn+1,#[]⟩,by rw[grow_empty];rfl⟩ h
end
end Go.Proofs.YtbcgocpihobjnaaGreatDoor
