import Derived.WideKeyEntry
import Derived.Test.YtbcgocpihobjnaaGreatDoorCC41
import Derived.Test.YtbcgocpihobjnaaGreatDoorCC0
set_option linter.all false
namespace Go.Proofs.YtbcgocpihobjnaaGreatDoor
section
open Go.RowKit Go.Sort Go.Maps
def Z3p(c:Crw)(i:Nat):Int:=(c.us.getD i ⟨0,0,0,0⟩).w
end
section
open Go.RowKit Go.Sort Go.Maps
theorem Z2u{c:Crw}{C:List (List Bool)}(hok:ReckOk c C){u:Nat}(hu:u<c.us.length):0<=Z3p c u/\Z3p c u<=15/\(((Za1 c C).win u:Nat):Int)=Z3p c u:=by
 have h:(c.us.getD u ⟨0,0,0,0⟩)=c.us[u]:=by rw[List.getD_eq_getElem?_getD,List.getElem?_eq_getElem hu,Option.getD_some]
 have h1:=hok.win c.us[u] (List.getElem_mem hu)
 have h2:Z3p c u=c.us[u].w:=by unfold Z3p;rw[h]
 have h3:(Za1 c C).win u=c.us[u].w.toNat:=by show(c.us.getD u ⟨0,0,0,0⟩).w.toNat=_;rw[h]
 rw[h2,h3];exact⟨h1.1,h1.2,Int.toNat_of_nonneg h1.1⟩
end
end Go.Proofs.YtbcgocpihobjnaaGreatDoor
