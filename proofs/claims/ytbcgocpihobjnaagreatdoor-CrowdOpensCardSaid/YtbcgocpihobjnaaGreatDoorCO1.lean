import Derived.Test.YtbcgocpihobjnaaGreatDoorCO0
set_option linter.unusedVariables false
set_option linter.unusedSimpArgs false
namespace Go.Proofs.YtbcgocpihobjnaaGreatDoor
def Tbl.sub (T:Tbl) (ix:List Nat):Tbl:=⟨ix.length,T.M,fun k m=>T.can (ix.getD k 0) m,fun k=>T.win (ix.getD k 0),T.cap⟩
structure LegOn (T:Tbl) (ix:List Nat) (a:Nat→Nat):Prop where
 mem:∀ u,u∈ix→a u<T.M
 can:∀ u,u∈ix→T.can u (a u)=true
 few:∀ m w,ix.countP (fun u=>a u==m&&T.win u==w)≤T.cap m w
theorem Zg9 {T:Tbl} {a b:Nat→Nat} (h:∀ u,u<T.U→a u=b u) (hl:Legal T a):Legal T b :=
 ⟨fun u hu=>by rw[← h u hu];exact hl.mem u hu,fun u hu=>by rw[← h u hu];exact hl.can u hu,fun m w=>by
  refine Nat.le_trans (Nat.le_of_eq ?_) (hl.few m w)
  unfold Zgp
  exact List.countP_congr (fun u hu=>by rw[h u (List.mem_range.1 hu)])⟩
theorem Zlo {T T':Tbl} {a:Nat→Nat} (hU:T.U=T'.U) (hM:T.M=T'.M) (hc:∀ u m,u<T.U→m<T.M→T.can u m=T'.can u m) (hw:∀ u,u<T.U→T.win u=T'.win u) (hp:∀ m w,m<T.M→T.cap m w=T'.cap m w) (h:Legal T a):Legal T' a:=by
 refine⟨fun u hu=>by rw[← hM];exact h.mem u (by omega),fun u hu=>by rw[← hc u _ (by omega) (h.mem u (by omega))];exact h.can u (by omega),fun m w=>?_⟩
 have e:Zgp T' a m w=Zgp T a m w:=by
  unfold Zgp
  rw[hU]
  exact List.countP_congr (fun u hu=>by rw[hw u (by rw[hU];exact List.mem_range.1 hu)])
 rw[e]
 rcases Nat.lt_or_ge m T.M with hm | hm
 ·rw[← hp m w hm];exact h.few m w
 ·have:Zgp T a m w=0:=by
   unfold Zgp
   rw[List.countP_eq_zero]
   intro u hu hx
   have:=h.mem u (List.mem_range.1 hu)
   simp only[Bool.and_eq_true,beq_iff_eq] at hx
   omega
  rw[this];exact Nat.zero_le _
theorem LegOn.less {T:Tbl} {a:Nat→Nat} {ix ix':List Nat} (hp:ix'.Sublist ix) (h:LegOn T ix a):LegOn T ix' a :=
 ⟨fun u hu=>h.mem u (hp.subset hu),fun u hu=>h.can u (hp.subset hu),fun m w=>Nat.le_trans hp.countP_le (h.few m w)⟩
theorem LegOn.congr {T:Tbl} {a b:Nat→Nat} {ix:List Nat} (he:∀ u,u∈ix→a u=b u) (h:LegOn T ix a):LegOn T ix b :=
 ⟨fun u hu=>by rw[← he u hu];exact h.mem u hu,fun u hu=>by rw[← he u hu];exact h.can u hu,fun m w=>by
  refine Nat.le_trans (Nat.le_of_eq ?_) (h.few m w)
  exact List.countP_congr (fun u hu=>by rw[he u hu])⟩
end Go.Proofs.YtbcgocpihobjnaaGreatDoor
