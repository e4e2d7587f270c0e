import Derived.WideKeyEntry
import Derived.Test.YtbcgocpihobjnaaGreatDoorCM35
import Derived.Test.YtbcgocpihobjnaaGreatDoorCM0
set_option linter.all false
namespace Go.Proofs.YtbcgocpihobjnaaGreatDoor
section
open Go.RowKit Go.Sort Go.Maps
def Zzc (c:Crw) (i:Nat):Int:=(c.us.getD i ⟨0,0,0,0⟩).w
def Z2b (c:Crw) (l:List Int) (n:Nat) (m v:Int):Nat:=(List.range n).countP (fun j=>l.getD j 0==m&&Zzc c j==v)
def Z2c (c:Crw) (l:List Int) (i:Nat):Bool:=Zc3 (l.getD i 0) c.ms.length&&((Za1 c).getD i []).getD (l.getD i 0).toNat false&&decide (((Z2b c l (i+1) (l.getD i 0) (Zzc c i):Nat):Int)≤Zca (c.ms.getD (l.getD i 0).toNat ⟨[],[],0⟩).t (Zzc c i).toNat)
def Z26 (c:Crw) (l:List Int):Bool:=Zak c&&decide (l.length=c.us.length)&&(List.range l.length).all (Z2c c l)
end
section
open Go.RowKit Go.Sort Go.Maps
theorem Z0p {c:Crw} {C:List (List Bool)} (hok:ReckOk c C) {u:Nat} (hu:u<c.us.length):0≤Zzc c u∧Zzc c u≤15∧(((Za2 c C).win u:Nat):Int)=Zzc c u:=by
 have h:(c.us.getD u ⟨0,0,0,0⟩)=c.us[u]:=by rw[List.getD_eq_getElem?_getD,List.getElem?_eq_getElem hu,Option.getD_some]
 have h1:=hok.win c.us[u] (List.getElem_mem hu)
 have h2:Zzc c u=c.us[u].w:=by unfold Zzc;rw[h]
 have h3:(Za2 c C).win u=c.us[u].w.toNat:=by show (c.us.getD u ⟨0,0,0,0⟩).w.toNat=_;rw[h]
 rw[h2,h3];exact⟨h1.1,h1.2,Int.toNat_of_nonneg h1.1⟩
end
end Go.Proofs.YtbcgocpihobjnaaGreatDoor
