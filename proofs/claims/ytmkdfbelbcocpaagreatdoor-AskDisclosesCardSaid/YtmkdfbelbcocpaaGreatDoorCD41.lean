import Derived.SevenTiedAt
import Derived.Test.YtmkdfbelbcocpaaGreatDoorCD40
set_option linter.unusedVariables false
set_option linter.unusedSimpArgs false
set_option maxRecDepth 100000
namespace Go.Proofs.YtmkdfbelbcocpaaGreatDoor
section
open Go
theorem Z4r:Tryz.pinned.checked.prog.mainIs=some ((true,"e946dd738e9aa7fac4b3de290664a7b0d746a21bc6ee9596d7723f6a41ddd4f9").1,((true,"e946dd738e9aa7fac4b3de290664a7b0d746a21bc6ee9596d7723f6a41ddd4f9"):Bool×String).2.toList):=by kernel_rfl
theorem Z03:true = Tryz.pinned.checked.prog.looks []:=by kernel_rfl
end
section
open Go Go.ChangeShapes Go.WideShapes Go.ChangeAt Go.WideMaps Go.WideElems Go.RowKit Go.Joins
def Z04:List (String×DataW Unit):=[("cloak/base.signs",Rows.laid_cloak_base_signs),("cloak/ask.reserved",Rows.laid_cloak_ask_reserved)]
theorem Ztl {W:World} (h:laidMetH Tryz.prog Z04 W) (hs:W.ShapedOpen Tryz.prog):Tab W W.heap.size:=by
 rw[MakeChecks.laidMetH_plain _ _ _ (by kernel_rfl)] at h
 obtain⟨ps,h,-,-⟩:=h
 obtain⟨g1,t1,cs1,f1,p1,q1,hg1,ht1,hv1,hd1,h,-⟩:=h
 obtain⟨g2,t2,cs2,f2,p2,q2,hg2,ht2,hv2,hd2,h,-⟩:=h
 obtain rfl:=Option.some.inj (Z9b.symm.trans hg1)
 obtain rfl:=Option.some.inj (Z9q.symm.trans ht1)
 obtain rfl:=Option.some.inj (Z9c.symm.trans hg2)
 obtain rfl:=Option.some.inj (Z9r.symm.trans ht2)
 rw[Z4q] at hd1
 rw[Z8j] at hd2
 have hS0:=Zpp (zs:=Zev.map fun s=>s.map UInt8.ofNat) Tryz.underlying220 Tryz.underlying9 (by kernel_rfl) (by kernel_rfl) (by rw[List.map_map];exact hd1)
 have hS:Za3 W 1 0 (Zev.map (fun s=>Value.string (Zad s))):=fun j v hj=>by
  have h1:=World.var?_cell Z9b hv1 j
  rw[Nat.zero_add]
  rw[h1,← Array.getElem?_toList,hS0,List.map_map]
  exact hj
 obtain⟨a,cap,hc2,hl5,hel⟩:=open_row Tryz.underlying59 (by kernel_rfl) hd2
 have hcell5:W.cell? ⟨0,0,none⟩=some (.slice (some a) 8 cap):=by
  rw[World.var?_cell Z9c hv2 0,← Array.getElem?_toList,hc2]
  rfl
 have key:∀ (i:Nat) (s:List Nat),Znn[i]?=some s→W.cell? (a.add i)=some (.string (Zad s)):=fun i s hi=>by
  obtain⟨v,n,q,h1,h2⟩:=hel i (.lit (.string (s.map UInt8.ofNat))) (by rw[List.getElem?_map,hi];rfl)
  obtain⟨z,h3,h4,-⟩:=DataW.trod_string Tryz.underlying9 h2
  simp only[List.cons.injEq,and_true] at h3
  simp only[Prod.mk.injEq,DataW.lit.injEq,Lit.string.injEq] at h4
  rw[h1,h3]
  have:z=Zad s:=by
   obtain⟨⟨zl⟩⟩:=z
   show (⟨⟨zl⟩⟩:ByteArray)=⟨(s.map UInt8.ofNat).toArray⟩
   rw[h4.1]
  rw[this]
 obtain⟨b,off,ha,hb⟩:=Zvk (key 0 _ rfl)
 have ha':a=⟨b,off,none⟩:=by
  obtain⟨ab,ao,asp⟩:=a
  simp only[Addr.add,Addr.mk.injEq] at ha
  simpa using ha
 subst ha'
 have h6:5<W.heap.size:=by
  obtain⟨cs,hh,-,-⟩:=hs.1 5 (Array.replicate 64 (.int .u8 0)) 343 (of_decide_eq_true (by kernel_rfl)) (by kernel_rfl)
  exact (Array.getElem?_eq_some_iff.1 hh).1
 exact⟨hS,⟨b,off,cap,hb,hcell5,fun j v hj=>by
   rw[List.getElem?_map] at hj
   obtain⟨s,h1,rfl⟩:=Option.map_eq_some_iff.1 hj
   rw[← Go.WideShapes.add_plain]
   exact key j s h1⟩,
  cell_of_shapedOpen_int (zero:=#[.int .i64 0]) (t:=3) hs (of_decide_eq_true (by kernel_rfl)) (by kernel_rfl) rfl (by kernel_rfl) (by kernel_rfl) Tryz.underlying3,by have:(5:Nat)<W.heap.size:=h6;omega,Nat.le_refl _⟩
theorem Z05 (os:Os) (args:Array Value):laidMetH Tryz.prog Z04 ((World.doorLaid Tryz.prog 400 os).forCall (fun _ _=>0) ⟨#[],args,[]⟩).memory :=
 laidMetH_of_parts3 (fuel:=8) (laidMet_of_run' 8 (by kernel_rfl) (by kernel_rfl)) (by kernel_rfl) (by kernel_rfl)
end
end Go.Proofs.YtmkdfbelbcocpaaGreatDoor
