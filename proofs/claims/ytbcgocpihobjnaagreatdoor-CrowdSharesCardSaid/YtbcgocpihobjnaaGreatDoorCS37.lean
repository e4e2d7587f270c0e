import Derived.WideKeyEntry
import Derived.Test.YtbcgocpihobjnaaGreatDoorCS36
import Derived.Test.YtbcgocpihobjnaaGreatDoorCS1
set_option linter.unusedVariables false
set_option linter.unusedSimpArgs false
namespace Go.Proofs.YtbcgocpihobjnaaGreatDoor
section
open Go.RowKit Go.Sort Go.Maps
def Z0e (c:Crw) (i:Nat):Int:=(c.us.getD i ⟨0,0,0,0⟩).w
end
section
open Go.RowKit Go.Sort Go.Maps
theorem Zt3 {c:Crw} {C:List (List Bool)} (hok:ReckOk c C) {u:Nat} (hu:u<c.us.length):0≤Z0e c u∧Z0e c u≤15∧(((Zar c C).win u:Nat):Int)=Z0e c u:=by
 have h:(c.us.getD u ⟨0,0,0,0⟩)=c.us[u]:=by rw[List.getD_eq_getElem?_getD,List.getElem?_eq_getElem hu,Option.getD_some]
 have h1:=hok.win c.us[u] (List.getElem_mem hu)
 have h2:Z0e c u=c.us[u].w:=by unfold Z0e;rw[h]
 have h3:(Zar c C).win u=c.us[u].w.toNat:=by show (c.us.getD u ⟨0,0,0,0⟩).w.toNat=_;rw[h]
 rw[h2,h3]
 exact⟨h1.1,h1.2,Int.toNat_of_nonneg h1.1⟩
theorem Zlr {x:Int} {n:Nat}:Zci x n=true↔0≤x∧x.toNat<n:=by
 unfold Zci inB
 rw[Bool.and_eq_true,decide_eq_true_eq,decide_eq_true_eq]
 omega
theorem Zw1 {c:Crw} {C:List (List Bool)} (hok:ReckOk c C) {u m:Nat} (hu:u<c.us.length) (hm:m<c.ms.length):Zju c C u m=Zdz (Zar c (Zb4 c C u m)):=by
 rw[Bool.eq_iff_iff,Zy6 hok hu hm,Zk2]
 constructor
 ·rintro⟨a,h1,h2⟩;exact⟨a,(Zfy hok hu hm a).2 ⟨h1,h2⟩⟩
 ·rintro⟨a,h⟩;exact⟨a,(Zfy hok hu hm a).1 h⟩
end
end Go.Proofs.YtbcgocpihobjnaaGreatDoor
