import Derived.WideKeyEntry
import Derived.Test.YtbcgocpihobjnaaGreatDoorCG36
import Derived.Test.YtbcgocpihobjnaaGreatDoorCG0
set_option linter.all false
namespace Go.Proofs.YtbcgocpihobjnaaGreatDoor
section
open Go.RowKit Go.Sort Go.Maps
def Zu7 (c:Crw) (i:Nat):Int:=(c.us.getD i ⟨0,0,0,0⟩).w
def Z1y (c:Crw) (l:List Int) (n:Nat) (m v:Int):Nat:=(List.range n).countP (fun j=>l.getD j 0==m&&Zu7 c j==v)
def Z1z (c:Crw) (l:List Int) (i:Nat):Bool:=Zda (l.getD i 0) c.ms.length&&((Zay c).getD i []).getD (l.getD i 0).toNat false&&decide (((Z1y c l (i+1) (l.getD i 0) (Zu7 c i):Nat):Int)≤Zcx (c.ms.getD (l.getD i 0).toNat ⟨[],[],0⟩).t (Zu7 c i).toNat)
def Z2p (c:Crw) (l:List Int):Bool:=Zaq c&&decide (l.length=c.us.length)&&(List.range l.length).all (Z1z c l)
end
section
open Go.RowKit Go.Sort Go.Maps
theorem Zo7 {c:Crw} {C:List (List Bool)} (hok:ReckOk c C) {u:Nat} (hu:u<c.us.length):0≤Zu7 c u∧Zu7 c u≤15∧(((Zau c C).win u:Nat):Int)=Zu7 c u:=by
 have h:(c.us.getD u ⟨0,0,0,0⟩)=c.us[u]:=by rw[List.getD_eq_getElem?_getD,List.getElem?_eq_getElem hu,Option.getD_some]
 have h1:=hok.win c.us[u] (List.getElem_mem hu)
 have h2:Zu7 c u=c.us[u].w:=by unfold Zu7;rw[h]
 have h3:(Zau c C).win u=c.us[u].w.toNat:=by show (c.us.getD u ⟨0,0,0,0⟩).w.toNat=_;rw[h]
 rw[h2,h3];exact⟨h1.1,h1.2,Int.toNat_of_nonneg h1.1⟩
end
end Go.Proofs.YtbcgocpihobjnaaGreatDoor
