import Derived.StillTailTactics
import Derived.WalkKit
set_option linter.all false
namespace Go.Proofs.YtbcgocpihobjnaaGreatDoor
section
variable {P:Program} {ops:Array Oper} {md:Region.Mode} {w:World}
def dw(md:Region.Mode)(ops:Array Oper)(p n:Nat):Bool :=
 (List.range n).all fun i=>decide (i<p)||(List.range (n+1)).any fun j=>decide (i<j)&&Region.waitsFor md ops j i
theorem QR{p n:Nat}(hs:dw md ops p n=true)(hc:Region.chainB md ops n=true)(hn:n<ops.size){listed:Array Bool}(inv:HeadInv md ops n listed)(hp:∀ i,i<p->listed.getD i false=true){t:Nat}(ht:n<=t)(hr:t∈Region.ready md ops listed) :
  ∀ (d i:Nat),n-i=d->i<n->listed.getD i true=true:=by
 intro d
 induction d using Nat.strongRecOn with
 | _ d ih =>
  intro i hd hi
  cases gV:listed.getD i true with
  | true=>rfl
  | false =>
   exfalso;obtain⟨_,ot,qk,aD⟩:=mem_ready.1 hr;have qm:t<ops.size:=(Array.getElem?_eq_some_iff.1 qk).1
   have qp:¬ i<p:=fun h=>by have:=hp i h;rw[getD_both gV] at this;cases this
   rcases Nat.lt_or_eq_of_le ht with aE | tO
   ·have h1:=List.all_eq_true.1 hc t (List.mem_range.2 qm)
    simp only[Bool.or_eq_true,decide_eq_true_eq] at h1;obtain⟨o',nT,e,he,hb,xF⟩:=Region.waitsFor_spec (h1.resolve_left (by omega));obtain rfl:o'=ot:=Option.some.inj (nT.symm.trans qk);have h2:=aD e he hb;rw[xF,getD_both (inv.tail (t-1) (by omega) (by omega))] at h2;cases h2
   ·subst tO
    have h1:=List.all_eq_true.1 hs i (List.mem_range.2 hi);simp only[Bool.or_eq_true,decide_eq_true_eq] at h1;obtain⟨j,hj,nJ⟩:=List.any_eq_true.1 (h1.resolve_left qp);simp only[Bool.and_eq_true,decide_eq_true_eq] at nJ;obtain⟨oj,vZ,e,he,hb,xF⟩:=Region.waitsFor_spec nJ.2;have rM:j<n+1:=List.mem_range.1 hj
    have hl:listed.getD j false=false:=by
     cases h:listed.getD j false with
     | false=>rfl
     | true =>
      have h2:=inv.closed j oj vZ h e he hb;rw[xF,getD_both gV] at h2;cases h2
    rcases Nat.lt_or_eq_of_le (Nat.le_of_lt_succ rM) with aE | tO
    ·have:=ih (n-j) (by omega) j rfl aE
     rw[getD_in (by rw[inv.size];omega) hl] at this;cases this
    ·subst tO
     obtain rfl:oj=ot:=Option.some.inj (vZ.symm.trans qk);have h2:=aD e he hb;rw[xF,getD_both gV] at h2;cases h2
end
end Go.Proofs.YtbcgocpihobjnaaGreatDoor
