import Derived.Test.YtbcgocpihobjnaaGreatDoorCT0
set_option linter.unusedVariables false
set_option linter.unusedSimpArgs false
namespace Go.Proofs.YtbcgocpihobjnaaGreatDoor
structure LegOn (T:Tbl) (ix:List Nat) (a:Nat→Nat):Prop where
 mem:∀ u,u∈ix→a u<T.M
 can:∀ u,u∈ix→T.can u (a u)=true
 few:∀ m w,ix.countP (fun u=>a u==m&&T.win u==w)≤T.cap m w
theorem Zhh {T:Tbl} {a b:Nat→Nat} (h:∀ u,u<T.U→a u=b u) (hl:Legal T a):Legal T b :=
 ⟨fun u hu=>by rw[← h u hu];exact hl.mem u hu,fun u hu=>by rw[← h u hu];exact hl.can u hu,fun m w=>by
  refine Nat.le_trans (Nat.le_of_eq ?_) (hl.few m w)
  unfold Zm6
  exact List.countP_congr (fun u hu=>by rw[h u (List.mem_range.1 hu)])⟩
theorem LegOn.less {T:Tbl} {a:Nat→Nat} {ix ix':List Nat} (hp:ix'.Sublist ix) (h:LegOn T ix a):LegOn T ix' a :=
 ⟨fun u hu=>h.mem u (hp.subset hu),fun u hu=>h.can u (hp.subset hu),fun m w=>Nat.le_trans hp.countP_le (h.few m w)⟩
theorem LegOn.congr {T:Tbl} {a b:Nat→Nat} {ix:List Nat} (he:∀ u,u∈ix→a u=b u) (h:LegOn T ix a):LegOn T ix b :=
 ⟨fun u hu=>by rw[← he u hu];exact h.mem u hu,fun u hu=>by rw[← he u hu];exact h.can u hu,fun m w=>by
  refine Nat.le_trans (Nat.le_of_eq ?_) (h.few m w)
  exact List.countP_congr (fun u hu=>by rw[he u hu])⟩
end Go.Proofs.YtbcgocpihobjnaaGreatDoor
