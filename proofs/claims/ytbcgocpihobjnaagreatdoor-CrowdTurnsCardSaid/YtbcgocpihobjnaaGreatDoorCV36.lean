import Derived.WideKeyEntry
import Derived.Test.YtbcgocpihobjnaaGreatDoorCV35
import Derived.Test.YtbcgocpihobjnaaGreatDoorCV0
set_option linter.all false
namespace Go.Proofs.YtbcgocpihobjnaaGreatDoor
section
open Go.RowKit Go.Sort Go.Maps
def Zzv (c:Crw) (i:Nat):Int:=(c.us.getD i ⟨0,0,0,0⟩).w
def Z2v (c:Crw) (l:List Int) (n:Nat) (m v:Int):Nat:=(List.range n).countP (fun j=>l.getD j 0==m&&Zzv c j==v)
def Z2w (c:Crw) (l:List Int) (i:Nat):Bool:=Zdd (l.getD i 0) c.ms.length&&((Zay c).getD i []).getD (l.getD i 0).toNat false&&decide (((Z2v c l (i+1) (l.getD i 0) (Zzv c i):Nat):Int)≤Zco (c.ms.getD (l.getD i 0).toNat ⟨[],[],0⟩).t (Zzv c i).toNat)
def Z3k (c:Crw) (l:List Int):Bool:=Zam c&&decide (l.length=c.us.length)&&(List.range l.length).all (Z2w c l)
end
section
open Go.RowKit Go.Sort Go.Maps
theorem Z05 {c:Crw} {C:List (List Bool)} (hok:ReckOk c C) {u:Nat} (hu:u<c.us.length):0≤Zzv c u∧Zzv c u≤15∧(((Zax c C).win u:Nat):Int)=Zzv c u:=by
 have h:(c.us.getD u ⟨0,0,0,0⟩)=c.us[u]:=by rw[List.getD_eq_getElem?_getD,List.getElem?_eq_getElem hu,Option.getD_some]
 have h1:=hok.win c.us[u] (List.getElem_mem hu)
 have h2:Zzv c u=c.us[u].w:=by unfold Zzv;rw[h]
 have h3:(Zax c C).win u=c.us[u].w.toNat:=by show (c.us.getD u ⟨0,0,0,0⟩).w.toNat=_;rw[h]
 rw[h2,h3];exact⟨h1.1,h1.2,Int.toNat_of_nonneg h1.1⟩
end
end Go.Proofs.YtbcgocpihobjnaaGreatDoor
