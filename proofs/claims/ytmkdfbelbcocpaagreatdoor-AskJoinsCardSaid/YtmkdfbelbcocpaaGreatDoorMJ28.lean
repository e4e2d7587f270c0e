/- AskJoins, with the contract of Negate. -/
import Derived.Test.YtmkdfbelbcocpaaGreatDoorMJ27
import Derived.Test.YtmkdfbelbcocpaaGreatDoorMJ26
set_option linter.unusedVariables false
set_option linter.unusedSimpArgs false
namespace Go.Proofs.YtmkdfbelbcocpaaGreatDoor
open Go.RowKit Go.Sort
theorem askjoins_full (p q : Prd) (vs us : List Value) (w : World) (P P' : Nat → Prop) (B : Nat) (hG : Good w B) (h : PredC w P p vs) (h' : PredC w P' q us) (hr : RawP p) (hr' : RawP q) (hlen : LenP p) (hlen' : LenP q) :
    Calls Tryz.prog 5 #[.agg vs.toArray, .agg us.toArray] w fun e w' => e = .returned (.bool true) ∧ Below w.heap.size w w' :=
  askjoins_walk p q vs us w P P' B hG h h' hr hr' hlen hlen' (fun W hW hv hc hb => by
    have := pnegate_any q W P' us B hc hb (h'.below hW) (hG.step hW).tab
    have e : negV q = negP q := by unfold negV; rw [hv]; rfl
    rwa [e] at this)
end Go.Proofs.YtmkdfbelbcocpaaGreatDoor
