import Derived.SevenTiedAt
import Derived.Test.YtbcgocpihobjnaaGreatDoorCL30
set_option linter.all false
set_option maxRecDepth 100000
namespace Go.Proofs.YtbcgocpihobjnaaGreatDoor
open Go Go.ChangeShapes Go.WideShapes Go.ChangeAt Go.WideMaps Go.WideElems Go.RowKit Go.Joins
def fp:List (String×DataW Unit):=[("cloak/ask.reserved",Rows.laid_cloak_ask_reserved)]
theorem Zpm{W:World}(h:laidMetH Tryz.prog fp W)(hs:W.ShapedOpen Tryz.prog):Tab W W.heap.size:=by
 rw[MakeChecks.laidMetH_plain _ _ _ (by kernel_rfl)] at h;obtain⟨ps,h,-,-⟩:=h;obtain⟨g2,t2,tg,f2,p2,q2,qF,ht2,qD,uG,h,-⟩:=h;obtain rfl:=Option.some.inj (WX.symm.trans qF);obtain rfl:=Option.some.inj (Z5e.symm.trans ht2);rw[Z3d] at uG;obtain⟨a,cap,uL,cd,nN⟩:=open_row Tryz.underlying194 (by kernel_rfl) uG
 have Sa:W.cell? ⟨0,0,none⟩=some (.slice (some a) 8 cap):=by
  rw[World.var?_cell WX qD 0,<- Array.getElem?_toList,uL];rfl
 have key:∀ (i:Nat) (s:List Nat),tY[i]?=some s->W.cell? (a.add i)=some (.string (aB s)):=fun i s hi=>by
  obtain⟨v,n,q,h1,h2⟩:=nN i (.lit (.string (s.map UInt8.ofNat))) (by rw[List.getElem?_map,hi];rfl);obtain⟨z,h3,h4,-⟩:=DataW.trod_string Tryz.underlying9 h2;simp only[List.cons.injEq,and_true] at h3;simp only[Prod.mk.injEq,DataW.lit.injEq,Lit.string.injEq] at h4;rw[h1,h3]
  have:z=aB s:=by
   obtain⟨⟨zl⟩⟩:=z;show(⟨⟨zl⟩⟩:ByteArray)=⟨(s.map UInt8.ofNat).toArray⟩;rw[h4.1]
  rw[this]
 obtain⟨b,off,ha,hb⟩:=WW (key 0 _ rfl)
 have sn:a=⟨b,off,none⟩:=by
  obtain⟨ab,ao,asp⟩:=a;simp only[Addr.add,Addr.mk.injEq] at ha;simpa using ha
 subst sn
 have h6:1<W.heap.size:=by
  obtain⟨cs,hh,-,-⟩:=hs.1 1 #[.int .i64 0] 3 (of_decide_eq_true (by kernel_rfl)) (by kernel_rfl);exact(Array.getElem?_eq_some_iff.1 hh).1
 exact⟨⟨b,off,cap,hb,Sa,fun j v hj=>by
   rw[List.getElem?_map] at hj;obtain⟨s,h1,rfl⟩:=Option.map_eq_some_iff.1 hj;rw[<- Go.WideShapes.add_plain]
   exact key j s h1⟩,
  cell_of_shapedOpen_int (zero:=#[.int .i64 0]) (t:=3) hs (of_decide_eq_true (by kernel_rfl)) (by kernel_rfl) rfl (by kernel_rfl) (by kernel_rfl) Tryz.underlying3,by have:(1:Nat)<W.heap.size:=h6;omega,Nat.le_refl _⟩
theorem Zyl(os:Os)(args:Array Value):laidMetH Tryz.prog fp ((World.doorLaid Tryz.prog 400 os).forCall (fun _ _=>0) ⟨#[],args,[]⟩).memory :=
 laidMetH_of_parts3 (fuel:=8) (laidMet_of_run' 8 (by kernel_rfl) (by kernel_rfl)) (by kernel_rfl) (by kernel_rfl)
theorem Zym:Tryz.pinned.checked.prog.mainIs=some ((true,"338451282303b13a8cdbd10538cf236b010dc1946a10f25ba5749e7e6682990c").1,((true,"338451282303b13a8cdbd10538cf236b010dc1946a10f25ba5749e7e6682990c"):Bool×String).2.toList):=by kernel_rfl
theorem Zul:false = Tryz.pinned.checked.prog.looks []:=by kernel_rfl
end Go.Proofs.YtbcgocpihobjnaaGreatDoor
