import Derived.StillTailTactics
import Derived.WalkKit
set_option linter.all false
namespace Go.Proofs.YtbcgocpihobjnaaGreatDoor
section
variable {P:Program} {ops:Array Oper} {md:Region.Mode} {w:World}
def Zu5(md:Region.Mode)(ops:Array Oper)(p n:Nat):Bool :=
 (List.range n).all fun i=>decide (i<p)||(List.range (n+1)).any fun j=>decide (i<j)&&Region.waitsFor md ops j i
theorem Zn0{p n:Nat}(hs:Zu5 md ops p n=true)(hc:Region.chainB md ops n=true)(hn:n<ops.size){listed:Array Bool}(inv:HeadInv md ops n listed)(hp:∀ i,i<p->listed.getD i false=true){t:Nat}(ht:n<=t)(hr:t∈Region.ready md ops listed) :
  ∀ (d i:Nat),n-i=d->i<n->listed.getD i true=true:=by
 intro d
 induction d using Nat.strongRecOn with
 | _ d ih =>
  intro i hd hi
  cases hun:listed.getD i true with
  | true=>rfl
  | false =>
   exfalso;obtain⟨_,ot,hot,hall⟩:=mem_ready.1 hr;have htlt:t<ops.size:=(Array.getElem?_eq_some_iff.1 hot).1
   have hnp:¬ i<p:=fun h=>by have:=hp i h;rw[getD_both hun] at this;cases this
   rcases Nat.lt_or_eq_of_le ht with hlt | heq
   ·have h1:=List.all_eq_true.1 hc t (List.mem_range.2 htlt)
    simp only[Bool.or_eq_true,decide_eq_true_eq] at h1;obtain⟨o',ho',e,he,hb,hon⟩:=Region.waitsFor_spec (h1.resolve_left (by omega));obtain rfl:o'=ot:=Option.some.inj (ho'.symm.trans hot);have h2:=hall e he hb;rw[hon,getD_both (inv.tail (t-1) (by omega) (by omega))] at h2;cases h2
   ·subst heq
    have h1:=List.all_eq_true.1 hs i (List.mem_range.2 hi);simp only[Bool.or_eq_true,decide_eq_true_eq] at h1;obtain⟨j,hj,hj2⟩:=List.any_eq_true.1 (h1.resolve_left hnp);simp only[Bool.and_eq_true,decide_eq_true_eq] at hj2;obtain⟨oj,hoj,e,he,hb,hon⟩:=Region.waitsFor_spec hj2.2;have hjn:j<n+1:=List.mem_range.1 hj
    have hl:listed.getD j false=false:=by
     cases h:listed.getD j false with
     | false=>rfl
     | true =>
      have h2:=inv.closed j oj hoj h e he hb;rw[hon,getD_both hun] at h2;cases h2
    rcases Nat.lt_or_eq_of_le (Nat.le_of_lt_succ hjn) with hlt | heq
    ·have:=ih (n-j) (by omega) j rfl hlt
     rw[getD_in (by rw[inv.size];omega) hl] at this;cases this
    ·subst heq
     obtain rfl:oj=ot:=Option.some.inj (hoj.symm.trans hot);have h2:=hall e he hb;rw[hon,getD_both hun] at h2;cases h2
end
end Go.Proofs.YtbcgocpihobjnaaGreatDoor
