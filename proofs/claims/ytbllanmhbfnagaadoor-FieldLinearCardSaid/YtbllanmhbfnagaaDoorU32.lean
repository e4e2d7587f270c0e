/- A region that draws its order, in a round of a range over a function (of no program): what is shown of it outside serves inside. -/
import Derived.RangeFuncNested
import Derived.RangeFuncCalls
import Derived.RangeFuncLeaves
import Derived.OwnWalkIn
import Derived.TacticsInMore
import Derived.LoopNIn
import Derived.LoopIn
import Derived.Test.YtbllanmhbfnagaaDoorU20
set_option linter.unusedVariables false
set_option linter.unusedSimpArgs false
namespace Go.Proofs.YtbllanmhbfnagaaDoor
open Go.Sort Go.RowKit
section
variable {P : Program} {ops : Array Oper} {md : Region.Mode}
/-- The walk comes to the end of the region. -/
def endsN (R : Act → World → Prop) (e : Exit) (a : Act) (w : World) : Prop := e = .normal ∧ R a w
theorem endsN_out (R : Act → World → Prop) : ¬ LetsOut (endsN R) := fun ⟨a, w, h, _⟩ => by cases h
theorem wpIn_of_wp {l n : Nat} {o : Oper} {a : Act} {w : World} {K : Act → World → Prop} {R : Act → World → Prop} {Q : Exit → Act → World → Prop} (hd : ∀ c, o.op ≠ Op.defer c) (h : o.wp P a w K (endsN R)) : o.wpIn (Fence.wide.inRound l) n P a w K Q := by
  refine ⟨fun _ _ => trivial, ?_⟩
  rw [Fence.inRound_round, Oper.semAt_some l _ _ hd]
  unfold Oper.wp at h
  have hno : ¬ ((Fence.wide.inRound l).depth.isSome = true) := fun h => by cases h
  generalize (execOp a.eval o).run P w = r at *
  cases r with
  | ok x w' =>
    cases x <;> simp only [Oper.upon] at h <;> simp only [Oper.uponIn]
    case value => exact h
    case skip => exact h
    case defer => exact h
    case enter f args => exact ⟨fun h => absurd h hno, CallsIn.inRound l (callsIn_wide.2 (h.mono fun e w'' he => by
      cases e with
      | returned v => exact he
      | panicked c => exact absurd he.1 (by intro h; cases h)
      | outgrown => exact absurd he (endsN_out R)))⟩
    case row s args => exact ⟨fun h => absurd h hno, fun c cs _ => by
      obtain ⟨v, w', r, s⟩ := h c cs
      exact ⟨v, w', r, stepsIn_wide.2 s⟩⟩
  | halt x w' =>
    cases x <;> simp only [Oper.upon] at h
    exact absurd h.1 (by intro h; cases h)
theorem wpAnyIn_of_wpAny {l n : Nat} {R : Act → World → Prop} {Q : Exit → Act → World → Prop} (hR : ∀ a w, R a w → Q .normal a w) (hd : ∀ (j : Nat) (o : Oper), ops[j]? = some o → ∀ c, o.op ≠ Op.defer c) : ∀ (f : Nat) (listed : Array Bool) (a : Act) (w : World),
    wpAny P md ops (endsN R) f listed a w → wpAnyIn (Fence.wide.inRound l) n P md ops Q f listed a w
  | 0, listed, a, w, h => ⟨h.1, hR _ _ h.2.2⟩
  | f + 1, listed, a, w, h => by
    refine ⟨fun h0 => hR _ _ (h.1 h0).2, fun i hi => ?_⟩
    have h2 := h.2 i hi
    unfold wpOp at h2
    unfold wpOpIn
    split
    · rename_i ho
      simp only [ho] at h2
      exact wpAnyIn_of_wpAny hR hd f _ a w h2
    · rename_i o ho
      simp only [ho] at h2
      split
      · rename_i hw
        simp only [hw, if_true] at h2
        rcases h2 with h2 | h2
        · exact Oper.wpIn_mono (fun a w h => wpAnyIn_of_wpAny hR hd f _ a w h) (wpIn_of_wp (hd i o ho) h2)
        · exact absurd h2.2 (endsN_out R)
      · rename_i hw
        simp only [hw] at h2
        exact ⟨fun _ _ => trivial, wpAnyIn_of_wpAny hR hd f _ _ w h2⟩
/-- No operation is a defer statement. -/
def noDefer (l : List Oper) : Bool := l.all (fun o => match o.op with | .defer _ => false | _ => true)
theorem noDefer_at {l : List Oper} (h : noDefer l = true) (j : Nat) (o : Oper) (ho : l.toArray[j]? = some o) (c : Call) : o.op ≠ Op.defer c := by
  intro e
  have := List.all_eq_true.1 h o (List.mem_of_getElem? (by simpa using ho))
  rw [e] at this
  cases this
/-- The region's walk outside, to its end. -/
theorem wpIn_region_of_any {l n : Nat} {id : Nat} {Q : Exit → Act → World → Prop} {a : Act} {w : World} {os : List Oper} (R : Act → World → Prop) (hm : P.follows .mixedOrders = true) (hnd : noDefer os = true) (hR : ∀ a w, R a w → Q .normal a w)
    (h : wpAny P .any os.toArray (endsN R) os.toArray.size (Array.replicate os.toArray.size false) a { w with drawn := w.drawn + 1 }) : (Code.region id os.toArray true).wpIn (Fence.wide.inRound l) n P Q a w :=
  wpIn_region_any hm (wpAnyIn_of_wpAny hR (fun j o ho c => noDefer_at hnd j o ho c) _ _ _ _ h)
theorem wpAny_qt {P : Program} {C : World → Prop} {Q : Exit → Act → World → Prop} {a : Act} {w : World} {l : List Oper} (n : Nat) (hB : (Region.noSelect l.toArray && decide (n < l.length) && sinkP .any l.toArray 0 n && Region.chainB .any l.toArray n && Region.lexHead .any l.toArray (l.length - n) n 0 (Array.replicate l.length false)) = true)
    (hC : C { w with drawn := w.drawn + 1 })
    (h : wpQuiet P l.toArray C (fun a' => ∀ w', C w' → wpList P l.toArray Q (l.drop n) a' w') (l.take n) a) : wpAny P .any l.toArray Q l.toArray.size (Array.replicate l.toArray.size false) a { w with drawn := w.drawn + 1 } := by
  simp only [Bool.and_eq_true, decide_eq_true_eq] at hB
  obtain ⟨⟨⟨⟨hsel, hn⟩, hs⟩, hc⟩, hlex⟩ := hB
  have hsz : l.toArray.size = l.length := by simp
  rw [hsz]
  have inv0 : HeadInv .any l.toArray n (Array.replicate l.length false) :=
    ⟨by simp, fun j oj _ hl => (by rw [getD_replicate_false] at hl; cases hl), fun t _ ht => getD_in (by simpa using ht) (getD_replicate_false _ _)⟩
  have htl : (l.take n).length = n := by simp; omega
  have H := qhead_lex (P := P) (C := C) (md := .any) (g := l.length - n) hsel hs hc (by rw [hsz]; exact hn) (l.take n) 0 _ a (fun j hj => by
    have hj' : j < n := by rw [htl] at hj; exact hj
    rw [List.getElem?_take_of_lt hj', Nat.zero_add]
    simp) (by rw [htl]; omega) inv0 (fun i hi => absurd hi (Nat.not_lt_zero i)) (by rw [htl]; exact hlex) h
  have hdl : (l.drop n).length = l.length - n := by simp
  have := wpAny_of_qhead (Q' := Q) (g := l.length - n) (fun listed a' w' hw' hL => by
    have := wpAny_of_seq (P := P) (md := .any) (Q' := Q) (ops := l.toArray) (l.drop n) n listed a' w' (fun j => by simp [List.getElem?_drop]) (by rw [hdl]; exact hL.1) (hL.2 w' hw')
    rwa [hdl] at this) _ _ _ _ hC H
  rw [htl, show n + (l.length - n) = l.length by omega] at this
  exact this
/-- wp_region_qtb, in a round. -/
theorem wpIn_region_qtb {l n : Nat} {id : Nat} {Q : Exit → Act → World → Prop} {a : Act} {w : World} {os : List Oper} (R : Act → World → Prop) (m : Nat) (hm : P.follows .mixedOrders = true) (hnd : noDefer os = true) (hR : ∀ a w, R a w → Q .normal a w)
    (hB : (Region.noSelect os.toArray && decide (m < os.length) && sinkP .any os.toArray 0 m && Region.chainB .any os.toArray m && Region.lexHead .any os.toArray (os.length - m) m 0 (Array.replicate os.length false)) = true)
    (h : wpQuiet P os.toArray (fun w' => ∃ p : Regrown, w' = grow (redrawn w p.d) p.os) (fun a' => ∀ w', (∃ p : Regrown, w' = grow (redrawn w p.d) p.os) → wpList P os.toArray (endsN R) (os.drop m) a' w') (os.take m) a) : (Code.region id os.toArray true).wpIn (Fence.wide.inRound l) n P Q a w :=
  wpIn_region_of_any R hm hnd hR (wpAny_qt (C := fun w' => ∃ p : Regrown, w' = grow (redrawn w p.d) p.os) m hB ⟨⟨w.drawn + 1, #[]⟩, by rw [grow_empty]; rfl⟩ h)
end
end Go.Proofs.YtbllanmhbfnagaaDoor
