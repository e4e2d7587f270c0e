import Derived.Test.YtmkdfbelbcocpaaGreatDoorCL22
set_option linter.unusedVariables false
set_option linter.unusedSimpArgs false
set_option maxHeartbeats 4000000
set_option maxRecDepth 100000
namespace Go.Proofs.YtmkdfbelbcocpaaGreatDoor
open Go.RowKit Go.Sort Go.Maps
theorem Zy7 (l:List Nat) (w:World) (hl:l.length≤1000000) (hb:∀ y∈l,y<256) :
  Calls Tryz.prog 85 #[.string (Zad l)] w fun e w'=>e = .returned (.bool (Zdb l))∧RowKit.Below w.heap.size w w':=by
 have H1:=ħ (Zpt l w hl hb)
 have H2:=ħ (fun (W:World) (g:Nat) (hr:Zah W g 9 (Zf1.map (fun s=>.string (Zad s))))=>Zt9 g 0 8 8 Zf1 l W rfl (by omega) (fun j u hj=>by rw[Nat.zero_add];exact hr.cell j u hj) hb Znp)
 have HV:Hid (Zdb l=(Zdt l&&!Zw0 Zf1 l)):=ħ rfl
 have B0:=ħ (RowKit.Below.refl w.heap.size w)
 clear hl hb
 generalize Zdb l=V at *
 generalize Zdt l=b1 at *
 generalize Zw0 Zf1 l=b2 at *
 generalize Zad l=t at *
 go_enter Tryz.func85,Tryz.ntmps85
 go_wp2_with fail
 refine H1.o.mono ?_
 rintro e w1 ⟨rfl,rfl⟩
 cases b1 with
 | false =>
  go_wp2
  go_ret
  exact⟨Zaf (by rw[HV.o];rfl),B0.o⟩
 | true =>
  go_wp2_with fail
  refine (Zvt w).mono ?_
  rintro e w2 ⟨rfl,hv,b2'⟩
  have HH:=ħ (H2.o w2 _ hv)
  have B2:=ħ b2'
  clear hv b2'
  go_wp2_with fail
  refine HH.o.mono ?_
  rintro e w3 ⟨rfl,rfl⟩
  go_wp2
  go_ret
  exact⟨Zaf (by rw[HV.o];rfl),B2.o⟩
theorem Z22 (l:List Nat) (i:Nat) (hi:i<l.length) (h:∀ j,j<i→l.getD j 0≠46) (h2:l.getD i 0=46):Za2 Zaq l=i :=
 (Zgy Zaq l i (by omega) (fun j hj=>by unfold Zaq;simpa using h j hj) (fun _=>by unfold Zaq;rw[h2];rfl)).symm
theorem Z23 (l:List Nat) (h:∀ j,j<l.length→l.getD j 0≠46):Za2 Zaq l=l.length :=
 (Zgy Zaq l l.length (by omega) (fun j hj=>by unfold Zaq;simpa using h j hj) (fun h=>absurd h (by omega))).symm
end Go.Proofs.YtmkdfbelbcocpaaGreatDoor
