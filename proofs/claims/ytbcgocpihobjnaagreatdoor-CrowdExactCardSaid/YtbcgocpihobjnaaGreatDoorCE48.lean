import Derived.SevenTiedAt
import Derived.Test.YtbcgocpihobjnaaGreatDoorCE31
set_option linter.all false
set_option maxRecDepth 100000
namespace Go.Proofs.YtbcgocpihobjnaaGreatDoor
open Go Go.ChangeShapes Go.WideShapes Go.ChangeAt Go.WideMaps Go.WideElems Go.RowKit Go.Joins
def Zw7:List (String×DataW Unit):=[("cloak/ask.reserved",Rows.laid_cloak_ask_reserved)]
theorem Zo2 {W:World} (h:laidMetH Tryz.prog Zw7 W) (hs:W.ShapedOpen Tryz.prog):Tab W W.heap.size:=by
 rw[MakeChecks.laidMetH_plain _ _ _ (by kernel_rfl)] at h;obtain⟨ps,h,-,-⟩:=h;obtain⟨g2,t2,cs2,f2,p2,q2,hg2,ht2,hv2,hd2,h,-⟩:=h;obtain rfl:=Option.some.inj (Z3n.symm.trans hg2);obtain rfl:=Option.some.inj (Z3s.symm.trans ht2);rw[Z2g] at hd2;obtain⟨a,cap,hc2,hl5,hel⟩:=open_row Tryz.underlying194 (by kernel_rfl) hd2
 have hcell5:W.cell? ⟨0,0,none⟩=some (.slice (some a) 8 cap):=by
  rw[World.var?_cell Z3n hv2 0,← Array.getElem?_toList,hc2];rfl
 have key:∀ (i:Nat) (s:List Nat),Zkj[i]?=some s→W.cell? (a.add i)=some (.string (Zag s)):=fun i s hi=>by
  obtain⟨v,n,q,h1,h2⟩:=hel i (.lit (.string (s.map UInt8.ofNat))) (by rw[List.getElem?_map,hi];rfl);obtain⟨z,h3,h4,-⟩:=DataW.trod_string Tryz.underlying9 h2;simp only[List.cons.injEq,and_true] at h3;simp only[Prod.mk.injEq,DataW.lit.injEq,Lit.string.injEq] at h4;rw[h1,h3]
  have:z=Zag s:=by
   obtain⟨⟨zl⟩⟩:=z;show (⟨⟨zl⟩⟩:ByteArray)=⟨(s.map UInt8.ofNat).toArray⟩;rw[h4.1]
  rw[this]
 obtain⟨b,off,ha,hb⟩:=Zq0 (key 0 _ rfl)
 have ha':a=⟨b,off,none⟩:=by
  obtain⟨ab,ao,asp⟩:=a;simp only[Addr.add,Addr.mk.injEq] at ha;simpa using ha
 subst ha'
 have h6:1<W.heap.size:=by
  obtain⟨cs,hh,-,-⟩:=hs.1 1 #[.int .i64 0] 3 (of_decide_eq_true (by kernel_rfl)) (by kernel_rfl);exact (Array.getElem?_eq_some_iff.1 hh).1
 exact⟨⟨b,off,cap,hb,hcell5,fun j v hj=>by
   rw[List.getElem?_map] at hj;obtain⟨s,h1,rfl⟩:=Option.map_eq_some_iff.1 hj;rw[← Go.WideShapes.add_plain]
   exact key j s h1⟩,
  cell_of_shapedOpen_int (zero:=#[.int .i64 0]) (t:=3) hs (of_decide_eq_true (by kernel_rfl)) (by kernel_rfl) rfl (by kernel_rfl) (by kernel_rfl) Tryz.underlying3,by have:(1:Nat)<W.heap.size:=h6;omega,Nat.le_refl _⟩
theorem Zw8 (os:Os) (args:Array Value):laidMetH Tryz.prog Zw7 ((World.doorLaid Tryz.prog 400 os).forCall (fun _ _=>0) ⟨#[],args,[]⟩).memory :=
 laidMetH_of_parts3 (fuel:=8) (laidMet_of_run' 8 (by kernel_rfl) (by kernel_rfl)) (by kernel_rfl) (by kernel_rfl)
theorem Zw9:Tryz.pinned.checked.prog.mainIs=some ((true,"338451282303b13a8cdbd10538cf236b010dc1946a10f25ba5749e7e6682990c").1,((true,"338451282303b13a8cdbd10538cf236b010dc1946a10f25ba5749e7e6682990c"):Bool×String).2.toList):=by kernel_rfl
theorem Zs4:false = Tryz.pinned.checked.prog.looks []:=by kernel_rfl
end Go.Proofs.YtbcgocpihobjnaaGreatDoor
