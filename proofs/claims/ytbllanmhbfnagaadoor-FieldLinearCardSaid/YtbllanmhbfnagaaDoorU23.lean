/- Regions that draw their order (of no program): loads that nothing before them awaits may be taken first, while what is made beside them leaves their cells; behind the operations that await them nothing is asked. -/
import Derived.OrdersHeld
import Derived.Test.YtbllanmhbfnagaaDoorU20
set_option linter.unusedVariables false
set_option linter.unusedSimpArgs false
namespace Go.Proofs.YtbllanmhbfnagaaDoor
open Go.RowKit
section
variable {P : Program} {ops : Array Oper} {Q : Exit → Act → World → Prop} {md : Region.Mode} {S : World → Prop} {early : List Nat}
/-- Whatever order is picked, and S holds behind every early operation. -/
def wpAnyT (P : Program) (md : Region.Mode) (ops : Array Oper) (Q : Exit → Act → World → Prop) (S : World → Prop) (early : List Nat) : Nat → Array Bool → Act → World → Prop
  | 0, listed, a, w => Region.ready md ops listed = [] ∧ Q .normal a w
  | fuel + 1, listed, a, w =>
    (Region.ready md ops listed = [] → Q .normal a w) ∧
    ∀ i ∈ Region.ready md ops listed, wpOp P ops Q i (fun a' w' => (early.contains i = true → S w') ∧ wpAnyT P md ops Q S early fuel (listed.setIfInBounds i true) a' w') a w
theorem wpAny_of_T : ∀ (fuel : Nat) (listed : Array Bool) (a : Act) (w : World), wpAnyT P md ops Q S early fuel listed a w → wpAny P md ops Q fuel listed a w
  | 0, _, _, _, h => h
  | fuel + 1, _, _, _, h => ⟨h.1, fun i hi => wpOp_mono (fun a' w' h' => wpAny_of_T fuel _ a' w' h'.2) (h.2 i hi)⟩
theorem ready_open {listed : Array Bool} {i j : Nat} {oj : Oper} (hr : i ∈ Region.ready md ops listed) (hj : j ∈ Region.ready md ops listed) (hoj : ops[j]? = some oj) :
    ∀ e ∈ oj.after, Region.binds md e = true → e.on ≠ i := fun e he hb heq => by
  obtain ⟨_, oj', hoj', hall⟩ := mem_ready.1 hj
  obtain rfl : oj' = oj := Option.some.inj (hoj'.symm.trans hoj)
  have h1 := hall e he hb
  have h0 := (mem_ready.1 hr).1
  rw [heq, getD_both h0] at h1
  cases h1
/-- Taken first: it yields in every world that meets S; what is open is early or awaits it. -/
theorem wpAnyT_first {i : Nat} {oi : Oper} {v : Value} (hi : ops[i]? = some oi) (hsel : ∀ (j : Nat) (o : Oper) cs b, ops[j]? = some o → o.op ≠ .select cs b)
    (hQ : ∀ c a w, Q (.panic c) (a.put oi.dst v) w → Q (.panic c) a w) :
    ∀ (fuel : Nat) (listed : Array Bool) (a : Act) (w : World),
      (∀ j oj, ops[j]? = some oj → j ≠ i → listed.getD j true = false → (∀ e ∈ oj.after, Region.binds md e = true → e.on ≠ i) → oi.apart ops oj = true) →
      (∀ j, listed.getD j true = false → j = i ∨ early.contains j = true ∨ Region.waitsFor md ops j i = true) →
      i ∈ Region.ready md ops listed → YieldsIf P ops S oi v a → S w →
      wpAnyT P md ops Q S early fuel (listed.setIfInBounds i true) (a.put oi.dst v) w → wpAnyT P md ops Q S early (fuel + 1) listed a w := by
  intro fuel
  induction fuel with
  | zero =>
    intro listed a w _ _ hr hy hS H
    refine ⟨fun h => (by rw [h] at hr; cases hr), fun j hj => ?_⟩
    by_cases hji : j = i
    · subst hji; exact hy.wpOp hi hS ⟨fun _ => hS, H⟩
    · have := ready_mono hj hji
      rw [H.1] at this
      cases this
  | succ fuel ih =>
    intro listed a w hfree hl hr hy hS H
    refine ⟨fun h => (by rw [h] at hr; cases hr), fun j hj => ?_⟩
    by_cases hji : j = i
    · subst hji; exact hy.wpOp hi hS ⟨fun _ => hS, H⟩
    · have h1 := H.2 j (ready_mono hj hji)
      obtain ⟨hjun, oj, hoj, hall⟩ := mem_ready.1 hj
      have hnot := ready_open hr hj hoj
      have hlj : early.contains j = true := by
        rcases hl j hjun with h | h | h
        · exact absurd h hji
        · exact h
        · obtain ⟨o', ho', e, he, hb, hon⟩ := Region.waitsFor_spec h
          obtain rfl : o' = oj := Option.some.inj (ho'.symm.trans hoj)
          exact absurd hon (hnot e he hb)
      have h2 := wpOp_putIf hoj (hfree j oj hoj hji hjun hnot) (fun cs b => hsel i oi cs b hi) (fun cs b => hsel j oj cs b hoj) hQ hy h1
      have hfree' : ∀ k ok, ops[k]? = some ok → k ≠ i → (listed.setIfInBounds j true).getD k true = false →
          (∀ e ∈ ok.after, Region.binds md e = true → e.on ≠ i) → oi.apart ops ok = true := fun k ok hk hki hun hno => by
        refine hfree k ok hk hki ?_ hno
        by_cases hjk : j = k
        · subst hjk; exact hjun
        · rw [getD_set_ne true hjk] at hun; exact hun
      have hl' : ∀ k, (listed.setIfInBounds j true).getD k true = false → k = i ∨ early.contains k = true ∨ Region.waitsFor md ops k i = true := fun k hk => by
        refine hl k ?_
        by_cases hjk : j = k
        · subst hjk; exact hjun
        · rw [getD_set_ne true hjk] at hk; exact hk
      refine wpOp_mono (fun a' w' h3 => ⟨h3.2.1, ih (listed.setIfInBounds j true) a' w' hfree' hl' (ready_mono hr (Ne.symm hji)) h3.1 (h3.2.1 hlj) ?_⟩) h2
      rw [Array.setIfInBounds_comm _ _ hji]
      exact h3.2.2
/-- Taken first: it yields in every world. -/
theorem wpAnyT_firstY {i : Nat} {oi : Oper} {v : Value} (hi : ops[i]? = some oi) (hsel : ∀ (j : Nat) (o : Oper) cs b, ops[j]? = some o → o.op ≠ .select cs b)
    (hQ : ∀ c a w, Q (.panic c) (a.put oi.dst v) w → Q (.panic c) a w) (he : early.contains i = false) :
    ∀ (fuel : Nat) (listed : Array Bool) (a : Act) (w : World),
      (∀ j oj, ops[j]? = some oj → j ≠ i → listed.getD j true = false → (∀ e ∈ oj.after, Region.binds md e = true → e.on ≠ i) → oi.apart ops oj = true) →
      i ∈ Region.ready md ops listed → YieldsIf P ops (fun _ => True) oi v a →
      wpAnyT P md ops Q S early fuel (listed.setIfInBounds i true) (a.put oi.dst v) w → wpAnyT P md ops Q S early (fuel + 1) listed a w := by
  have hev : ∀ {w : World}, early.contains i = true → S w := fun h => by rw [he] at h; cases h
  intro fuel
  induction fuel with
  | zero =>
    intro listed a w _ hr hy H
    refine ⟨fun h => (by rw [h] at hr; cases hr), fun j hj => ?_⟩
    by_cases hji : j = i
    · subst hji; exact hy.wpOp hi trivial ⟨hev, H⟩
    · have := ready_mono hj hji
      rw [H.1] at this
      cases this
  | succ fuel ih =>
    intro listed a w hfree hr hy H
    refine ⟨fun h => (by rw [h] at hr; cases hr), fun j hj => ?_⟩
    by_cases hji : j = i
    · subst hji; exact hy.wpOp hi trivial ⟨hev, H⟩
    · have h1 := H.2 j (ready_mono hj hji)
      obtain ⟨hjun, oj, hoj, hall⟩ := mem_ready.1 hj
      have hnot := ready_open hr hj hoj
      have h2 := wpOp_putIf hoj (hfree j oj hoj hji hjun hnot) (fun cs b => hsel i oi cs b hi) (fun cs b => hsel j oj cs b hoj) hQ hy h1
      have hfree' : ∀ k ok, ops[k]? = some ok → k ≠ i → (listed.setIfInBounds j true).getD k true = false →
          (∀ e ∈ ok.after, Region.binds md e = true → e.on ≠ i) → oi.apart ops ok = true := fun k ok hk hki hun hno => by
        refine hfree k ok hk hki ?_ hno
        by_cases hjk : j = k
        · subst hjk; exact hjun
        · rw [getD_set_ne true hjk] at hun; exact hun
      refine wpOp_mono (fun a' w' h3 => ⟨h3.2.1, ih (listed.setIfInBounds j true) a' w' hfree' (ready_mono hr (Ne.symm hji)) h3.1 ?_⟩) h2
      rw [Array.setIfInBounds_comm _ _ hji]
      exact h3.2.2
/-- The move: a pure one first. -/
theorem wpAnyT_pure (i : Nat) {oi : Oper} {v : Value} {fuel : Nat} {listed : Array Bool} {a : Act} {w : World} (hi : ops[i]? = some oi)
    (hB : (Region.noSelect ops && Region.free md ops listed i && (Region.ready md ops listed).contains i && !early.contains i) = true)
    (hQ : ∀ c a w, Q (.panic c) (a.put oi.dst v) w → Q (.panic c) a w) (hy : YieldsIf P ops (fun _ => True) oi v a)
    (h : wpAnyT P md ops Q S early fuel (listed.setIfInBounds i true) (a.put oi.dst v) w) : wpAnyT P md ops Q S early (fuel + 1) listed a w := by
  simp only [Bool.and_eq_true, Bool.not_eq_true'] at hB
  obtain ⟨⟨⟨hs, hf⟩, hr⟩, he⟩ := hB
  exact wpAnyT_firstY hi (Region.noSelect_spec hs) hQ he fuel listed a w (Region.free_spec hi hf) (by simpa using hr) hy h
/-- Is every open operation but i early, or does it await i? -/
def openB (md : Region.Mode) (ops : Array Oper) (early : List Nat) (listed : Array Bool) (i : Nat) : Bool :=
  (List.range listed.size).all fun j => listed.getD j true || decide (j = i) || early.contains j || Region.waitsFor md ops j i
/-- The move: a load first. -/
theorem wpAnyT_load (i : Nat) {oi : Oper} {v : Value} {fuel : Nat} {listed : Array Bool} {a : Act} {w : World} (hi : ops[i]? = some oi)
    (hB : (Region.noSelect ops && Region.free md ops listed i && (Region.ready md ops listed).contains i && openB md ops early listed i) = true)
    (hQ : ∀ c a w, Q (.panic c) (a.put oi.dst v) w → Q (.panic c) a w) (hS : S w) (hy : YieldsIf P ops S oi v a)
    (h : wpAnyT P md ops Q S early fuel (listed.setIfInBounds i true) (a.put oi.dst v) w) : wpAnyT P md ops Q S early (fuel + 1) listed a w := by
  simp only [Bool.and_eq_true] at hB
  obtain ⟨⟨⟨hs, hf⟩, hr⟩, he⟩ := hB
  refine wpAnyT_first hi (Region.noSelect_spec hs) hQ fuel listed a w (Region.free_spec hi hf) (fun j hj => ?_) (by simpa using hr) hy hS h
  rcases Nat.lt_or_ge j listed.size with hlt | hge
  · have := List.all_eq_true.1 he j (List.mem_range.2 hlt)
    simp only [hj, Bool.false_or, Bool.or_eq_true, decide_eq_true_eq] at this
    rcases this with (h | h) | h
    · exact .inl h
    · exact .inr (.inl h)
    · exact .inr (.inr h)
  · rw [Array.getD, dif_neg (by omega)] at hj; cases hj
/-- The post of one operation's own walk. -/
def postOf (K : Act → World → Prop) (Q : Exit → Act → World → Prop) : Exit → Act → World → Prop
  | .normal, a, w => K a w
  | e, a, w => Q e a w
theorem wp_postOf {o : Oper} {a : Act} {w : World} {K : Act → World → Prop} (h : o.wp P a w K (postOf K Q)) : o.wp P a w K Q := by
  unfold Oper.wp at *
  generalize (execOp a.eval o).run P w = r at *
  cases r with
  | ok n w' =>
    cases n <;> simp only [Oper.upon] at h ⊢ <;>
      first
        | exact h
        | exact Calls.mono h (fun e w'' he => by cases e <;> exact he)
  | halt x w' => cases x <;> simp only [Oper.upon] at h ⊢ <;> exact h
/-- The move: the only one that may come up. -/
theorem wpAnyT_next (i : Nat) {oi : Oper} {fuel : Nat} {listed : Array Bool} {a : Act} {w : World} (hi : ops[i]? = some oi)
    (hB : (Region.ready md ops listed == [i]) = true)
    (h : wpList P ops (postOf (fun a' w' => (early.contains i = true → S w') ∧ wpAnyT P md ops Q S early fuel (listed.setIfInBounds i true) a' w') Q) [oi] a w) : wpAnyT P md ops Q S early (fuel + 1) listed a w := by
  have hr : Region.ready md ops listed = [i] := by simpa using hB
  refine ⟨fun h0 => (by rw [hr] at h0; cases h0), fun j hj => ?_⟩
  rw [hr] at hj
  obtain rfl : j = i := by simpa using hj
  unfold wpOp
  simp only [hi]
  unfold wpList at h
  split
  · rename_i hw
    rw [if_pos hw] at h
    exact h.imp wp_postOf id
  · rename_i hw
    rw [if_neg hw] at h
    exact h
theorem wpAnyT_done {listed : Array Bool} {a : Act} {w : World} (hB : (Region.ready md ops listed == []) = true) (h : Q .normal a w) :
    ∀ fuel, wpAnyT P md ops Q S early fuel listed a w
  | 0 => ⟨by simpa using hB, h⟩
  | _ + 1 => ⟨fun _ => h, by rw [show Region.ready md ops listed = [] by simpa using hB]; simp⟩
/-- The beginning. -/
theorem wp_region_T {id : Nat} {a : Act} {w : World} (S : World → Prop) (early : List Nat) (hm : P.follows .mixedOrders = true)
    (h : wpAnyT P .any ops Q S early ops.size (Array.replicate ops.size false) a { w with drawn := w.drawn + 1 }) : (Code.region id ops true).wp P Q a w :=
  wp_region_any hm (wpAny_of_T _ _ _ _ h)
/-- Operations that end in a value if they end well. -/
def valueOp : Op → Bool
  | .move _ => true
  | .assign _ => true
  | .load _ _ => true
  | .fieldAddr _ _ _ => true
  | .indexAddr _ _ _ => true
  | .nilCheck _ => true
  | _ => false
theorem run_value {P : Program} (s : Sem Value) {w w' : World} {n : Next} (hr : (do let x ← s; pure (Next.value x) : Sem Next).run P w = .ok n w') : ∃ v, n = .value v := by
  simp only [Sem.run_bind, Sem.run_pure] at hr
  generalize s.run P w = r at hr
  cases r with
  | ok v w1 =>
    simp only [Result.andThen] at hr
    cases hr
    exact ⟨v, rfl⟩
  | halt x w1 => simp only [Result.andThen] at hr; cases hr
theorem value_of {P : Program} {ρ : Operand → Value} {o : Oper} (h : valueOp o.op = true) {w w' : World} {n : Next} (hr : (execOp ρ o).run P w = .ok n w') : ∃ v, n = .value v := by
  unfold execOp at hr
  cases hop : o.op with
  | move x => rw [hop] at hr; simp only [Sem.run_pure] at hr; cases hr; exact ⟨_, rfl⟩
  | assign x => rw [hop] at hr; simp only [Sem.run_pure] at hr; cases hr; exact ⟨_, rfl⟩
  | load t a => rw [hop] at hr; exact run_value _ hr
  | fieldAddr t a f => rw [hop] at hr; exact run_value _ hr
  | indexAddr t a f => rw [hop] at hr; exact run_value _ hr
  | nilCheck x =>
    rw [hop] at hr
    have hpure : ∀ v : Value, (pure (Next.value v) : Sem Next).run P w = .ok n w' → ∃ v, n = .value v := fun v h => by
      simp only [Sem.run_pure] at h
      cases h
      exact ⟨v, rfl⟩
    dsimp only at hr
    split at hr
    · simp [runtimePanic] at hr
    · simp [runtimePanic] at hr
    · simp [runtimePanic] at hr
    · split at hr
      · simp [runtimePanic] at hr
      · have hand : ∀ {α : Type} (r : Result α) (f : α → World → Result Next), (∀ a w1, f a w1 = .ok n w' → ∃ v, n = .value v) → r.andThen f = .ok n w' → ∃ v, n = .value v := fun r f hf h => by
          cases r with
          | ok a w1 => exact hf a w1 h
          | halt x w1 => simp only [Result.andThen] at h; cases h
        simp only [Sem.run_bind] at hr
        refine hand _ _ (fun a w1 h => ?_) hr
        refine hand _ _ (fun a w1 h => ?_) h
        split at h
        · simp only [Sem.run_bind] at h
          refine hand _ _ (fun a w1 h => ?_) h
          simp only [Sem.run_pure] at h; cases h; exact ⟨_, rfl⟩
        · simp only [Sem.run_pure] at h; cases h; exact ⟨_, rfl⟩
      · exact hpure _ hr
    · exact hpure _ hr
  | _ => rw [hop] at h; cases h
/-- The head's checks: each may come up in its turn, stands apart from what is open; what is open is early or awaits it. -/
def headT (md : Region.Mode) (ops : Array Oper) (early : List Nat) : Nat → Nat → Array Bool → Bool
  | 0, _, _ => true
  | m + 1, k, listed => Region.free md ops listed k && (Region.ready md ops listed).contains k && openB md ops early listed k && headT md ops early m (k + 1) (listed.setIfInBounds k true)
def setT : Nat → Nat → Array Bool → Array Bool
  | 0, _, listed => listed
  | m + 1, k, listed => setT m (k + 1) (listed.setIfInBounds k true)
def dstT (sz : Nat) : List Oper → Bool
  | [] => true
  | o :: l => valueOp o.op && (match o.dst with | some d => decide (d < sz) && l.all (fun o' => o'.dst != some d) | none => false) && dstT sz l
theorem put_size (a : Act) (d : Option Tmp) (v : Value) : (a.put d v).tmps.size = a.tmps.size := by
  cases d <;> simp [Act.put]
theorem still_keeps {w : World} {F : Act} (d : Nat) : ∀ (l : List Oper) (k : Nat) (a : Act), (∀ j, j < l.length → l[j]? = ops[k + j]?) → l.all (fun o' => o'.dst != some d) = true → wpStill P ops w (fun a' => a' = F) l a → F.tmps[d]? = a.tmps[d]?
  | [], k, a, _, _, h => by
    have h : a = F := h
    rw [h]
  | o :: l, k, a, hl, hd, h => by
    have h0 : ops[k]? = some o := by simpa using (hl 0 (by simp)).symm
    have hst : stOp P ops w k (wpStill P ops w (fun a' => a' = F) l) a := by unfold stOp; simp only [h0]; exact h
    obtain ⟨v, hy, hK⟩ := yieldsAt_of_stOp h0 hst
    simp only [List.all_cons, Bool.and_eq_true, bne_iff_ne, ne_eq] at hd
    rw [still_keeps d l (k + 1) _ (fun j hj => by have := hl (j + 1) (by simp; omega); simpa [Nat.add_assoc, Nat.add_comm 1 j] using this) hd.2 hK]
    cases ho : o.dst with
    | none => rfl
    | some e =>
      have hne : e ≠ d := fun x => hd.1 (by rw [ho, x])
      simp only [Act.put]
      rw [Array.getElem?_setIfInBounds_ne hne]
theorem wpAnyT_still {F : Act} {fuel : Nat} (hsel : Region.noSelect ops = true) (hQ : ∀ c a (d : Option Tmp) v w, Q (.panic c) (a.put d v) w → Q (.panic c) a w) :
    ∀ (l : List Oper) (k : Nat) (listed : Array Bool) (a : Act) (w : World), (∀ j, j < l.length → l[j]? = ops[k + j]?) → headT md ops early l.length k listed = true → dstT a.tmps.size l = true →
      (∀ w', S w' → wpStill P ops w' (fun a' => a' = F) l a) → S w → wpAnyT P md ops Q S early fuel (setT l.length k listed) F w → wpAnyT P md ops Q S early (l.length + fuel) listed a w
  | [], k, listed, a, w, _, _, _, h, hS, H => by
    have : a = F := h w hS
    subst this
    rw [show ([] : List Oper).length + fuel = fuel by simp]
    exact H
  | o :: l, k, listed, a, w, hl, hB, hD, h, hS, H => by
    have h0 : ops[k]? = some o := by simpa using (hl 0 (by simp)).symm
    have hl' : ∀ j, j < l.length → l[j]? = ops[k + 1 + j]? := fun j hj => by have := hl (j + 1) (by simp; omega); simpa [Nat.add_assoc, Nat.add_comm 1 j] using this
    have key : ∀ w', S w' → ∃ v, YieldsAt P ops w' o v a ∧ wpStill P ops w' (fun a' => a' = F) l (a.put o.dst v) := fun w' hw' => by
      have hst : stOp P ops w' k (wpStill P ops w' (fun a' => a' = F) l) a := by unfold stOp; simp only [h0]; exact h w' hw'
      exact yieldsAt_of_stOp h0 hst
    simp only [List.length_cons, headT, Bool.and_eq_true] at hB
    obtain ⟨⟨⟨hf, hr⟩, ho⟩, hB'⟩ := hB
    simp only [dstT, Bool.and_eq_true] at hD
    obtain ⟨⟨hvo, hd1⟩, hD'⟩ := hD
    cases hdst : o.dst with
    | none => rw [hdst] at hd1; cases hd1
    | some d =>
      rw [hdst] at hd1
      simp only [Bool.and_eq_true, decide_eq_true_eq] at hd1
      have hv : ∀ w' v, wpStill P ops w' (fun a' => a' = F) l (a.put o.dst v) → v = (F.tmps[d]?).getD undef := fun w' v hk => by
        rw [still_keeps d l (k + 1) _ hl' hd1.2 hk, hdst]
        simp only [Act.put]
        rw [Array.getElem?_setIfInBounds_self_of_lt hd1.1]
        rfl
      have hy : YieldsIf P ops S o ((F.tmps[d]?).getD undef) a := by
        have hval : ∀ w', S w' → (Region.wanted o (yielded ops a.tmps) = true ∧ (execOp a.eval o).run P w' = .ok (.value ((F.tmps[d]?).getD undef)) w') ∨ (Region.wanted o (yielded ops a.tmps) = false ∧ (F.tmps[d]?).getD undef = undef) := fun w' hw' => by
          obtain ⟨v, hy, hk⟩ := key w' hw'
          obtain rfl := hv w' v hk
          rcases hy with ⟨h1, h2 | ⟨h2, _⟩ | ⟨f, args, h2, _⟩⟩ | h1
          · exact .inl ⟨h1, h2⟩
          · obtain ⟨_, h3⟩ := value_of hvo h2; cases h3
          · obtain ⟨_, h3⟩ := value_of hvo h2; cases h3
          · exact .inr h1
        rcases hval w hS with ⟨h1, _⟩ | h1
        · refine .inl ⟨h1, fun w' hw' => ?_⟩
          rcases hval w' hw' with h2 | h2
          · exact h2.2
          · rw [h1] at h2; cases h2.1
        · exact .inr h1
      rw [show (o :: l).length + fuel = (l.length + fuel) + 1 by simp; omega]
      refine wpAnyT_load k h0 (by simp [hsel, hf, ho]; simpa using hr) (fun c a w hh => hQ c a _ _ w hh) hS hy ?_
      refine wpAnyT_still hsel hQ l (k + 1) _ _ w hl' hB' (by rw [put_size]; exact hD') (fun w' hw' => ?_) hS H
      obtain ⟨v', hy', hk'⟩ := key w' hw'
      rw [← hv w' v' hk']
      exact hk'
/-- The tail: one behind the other; S behind each but the last. -/
def wpTailT (P : Program) (ops : Array Oper) (Q : Exit → Act → World → Prop) (S : World → Prop) : List Oper → Act → World → Prop
  | [], a, w => Q .normal a w
  | [o], a, w => wpList P ops Q [o] a w
  | o :: o' :: l, a, w => wpList P ops (postOf (fun a' w' => S w' ∧ wpTailT P ops Q S (o' :: l) a' w') Q) [o] a w
theorem wpTailT_cons {o o' : Oper} {l : List Oper} {a : Act} {w : World} (h : wpList P ops (postOf (fun a' w' => S w' ∧ wpTailT P ops Q S (o' :: l) a' w') Q) [o] a w) : wpTailT P ops Q S (o :: o' :: l) a w := h
theorem wpTailT_one {o : Oper} {a : Act} {w : World} (h : wpList P ops Q [o] a w) : wpTailT P ops Q S [o] a w := h
theorem postOf_normal {K : Act → World → Prop} {a : Act} {w : World} (h : K a w) : postOf K Q .normal a w := h
def seqT (md : Region.Mode) (ops : Array Oper) : Nat → Nat → Array Bool → Bool
  | 0, _, listed => Region.ready md ops listed == []
  | m + 1, k, listed => Region.ready md ops listed == [k] && seqT md ops m (k + 1) (listed.setIfInBounds k true)
theorem wpAnyT_tail : ∀ (l : List Oper) (k : Nat) (listed : Array Bool) (a : Act) (w : World), (∀ j, j < l.length → l[j]? = ops[k + j]?) → seqT md ops l.length k listed = true → early.contains (k + l.length - 1) = false →
    wpTailT P ops Q S l a w → wpAnyT P md ops Q S early l.length listed a w
  | [], k, listed, a, w, _, hB, _, h => wpAnyT_done hB h 0
  | [o], k, listed, a, w, hl, hB, he, h => by
    have h0 : ops[k]? = some o := by simpa using (hl 0 (by simp)).symm
    simp only [List.length_cons, List.length_nil, seqT, Bool.and_eq_true] at hB
    have hr : Region.ready md ops listed = [k] := by simpa using hB.1
    refine ⟨fun h1 => (by rw [hr] at h1; cases h1), fun j hj => ?_⟩
    rw [hr] at hj
    obtain rfl : j = k := by simpa using hj
    have he' : early.contains j = false := by simpa using he
    have h3 : wpOp P ops Q j (fun a' w' => Q .normal a' w') a w := by
      unfold wpOp
      simp only [h0]
      exact h
    exact wpOp_mono (fun a' w' hq => ⟨fun hh => absurd (he'.symm.trans hh) Bool.false_ne_true, wpAnyT_done hB.2 hq 0⟩) h3
  | o :: o' :: l, k, listed, a, w, hl, hB, he, h => by
    have h0 : ops[k]? = some o := by simpa using (hl 0 (by simp)).symm
    rw [show (o :: o' :: l).length = (o' :: l).length + 1 from rfl] at hB ⊢
    simp only [seqT, Bool.and_eq_true] at hB
    have hr : Region.ready md ops listed = [k] := by simpa using hB.1
    have h : wpList P ops (postOf (fun a' w' => S w' ∧ wpTailT P ops Q S (o' :: l) a' w') Q) [o] a w := h
    have hrec := fun a' w' => wpAnyT_tail (o' :: l) (k + 1) (listed.setIfInBounds k true) a' w' (fun j hj => by have := hl (j + 1) (by simp at hj ⊢; omega); simpa [Nat.add_assoc, Nat.add_comm 1 j] using this) hB.2 (by rw [show k + 1 + (o' :: l).length - 1 = k + (o :: o' :: l).length - 1 by simp; omega]; exact he)
    have h3 : wpOp P ops Q k (fun a' w' => S w' ∧ wpTailT P ops Q S (o' :: l) a' w') a w := by
      unfold wpOp
      simp only [h0]
      unfold wpList at h
      split
      · rename_i hw
        rw [if_pos hw] at h
        exact h.imp wp_postOf id
      · rename_i hw
        rw [if_neg hw] at h
        exact h
    refine ⟨fun h1 => (by rw [hr] at h1; cases h1), fun j hj => ?_⟩
    rw [hr] at hj
    obtain rfl : j = k := by simpa using hj
    exact wpOp_mono (fun a' w' hq => ⟨fun _ => hq.1, hrec a' w' hq.2⟩) h3
/-- THE LAW: the first n operations look and end in values, and whatever comes up while one of them is open leaves S; the rest comes one behind the other; S behind each of it but the last. -/
theorem wp_region_tail {id : Nat} {a : Act} {w : World} {l : List Oper} (n : Nat) (S : World → Prop) (F : Act) (hm : P.follows .mixedOrders = true)
    (hB : (Region.noSelect l.toArray && decide (n < l.length) && headT .any l.toArray (List.range (l.length - 1)) n 0 (Array.replicate l.length false) && seqT .any l.toArray (l.length - n) n (setT n 0 (Array.replicate l.length false))) = true)
    (hD : dstT a.tmps.size (l.take n) = true) (hQ : ∀ c a (d : Option Tmp) v w, Q (.panic c) (a.put d v) w → Q (.panic c) a w) (hS : S w.drew)
    (h : ∀ w', S w' → wpStill P l.toArray w' (fun a' => a' = F) (l.take n) a) (ht : wpTailT P l.toArray Q S (l.drop n) F w.drew) : (Code.region id l.toArray true).wp P Q a w := by
  simp only [Bool.and_eq_true, decide_eq_true_eq] at hB
  obtain ⟨⟨⟨hsel, hn⟩, hh⟩, hs⟩ := hB
  refine wp_region_T S (List.range (l.length - 1)) hm ?_
  have hsz : l.toArray.size = l.length := by simp
  have htl : (l.take n).length = n := by simp; omega
  have hdl : (l.drop n).length = l.length - n := by simp
  have H1 := wpAnyT_tail (P := P) (md := .any) (ops := l.toArray) (Q := Q) (S := S) (early := List.range (l.length - 1)) (l.drop n) n (setT n 0 (Array.replicate l.length false)) F w.drew (fun j _ => by simp [List.getElem?_drop]) (by rw [hdl]; exact hs)
    (by rw [hdl, show n + (l.length - n) - 1 = l.length - 1 by omega]; simp) ht
  have H2 := wpAnyT_still (P := P) (md := .any) (ops := l.toArray) (Q := Q) (S := S) (early := List.range (l.length - 1)) (F := F) (fuel := (l.drop n).length) hsel hQ (l.take n) 0 (Array.replicate l.length false) a w.drew
    (fun j hj => by rw [htl] at hj; rw [List.getElem?_take_of_lt hj, Nat.zero_add]; simp) (by rw [htl]; exact hh) hD h hS (by rw [htl]; exact H1)
  rw [htl, hdl, show n + (l.length - n) = l.length by omega] at H2
  rw [hsz]
  exact H2
/-- The same, the frame behind the head found by the walk. -/
theorem wp_region_tail_x {id : Nat} {a : Act} {w : World} {l : List Oper} (n : Nat) (S : World → Prop) (hm : P.follows .mixedOrders = true)
    (hB : (Region.noSelect l.toArray && decide (n < l.length) && headT .any l.toArray (List.range (l.length - 1)) n 0 (Array.replicate l.length false) && seqT .any l.toArray (l.length - n) n (setT n 0 (Array.replicate l.length false))) = true)
    (hD : dstT a.tmps.size (l.take n) = true) (hQ : ∀ c a (d : Option Tmp) v w, Q (.panic c) (a.put d v) w → Q (.panic c) a w) (hS : S w.drew)
    (h : ∃ F, (∀ w', S w' → wpStill P l.toArray w' (fun a' => a' = F) (l.take n) a) ∧ wpTailT P l.toArray Q S (l.drop n) F w.drew) : (Code.region id l.toArray true).wp P Q a w := by
  obtain ⟨F, h1, h2⟩ := h
  exact wp_region_tail n S F hm hB hD hQ hS h1 h2
end
end Go.Proofs.YtbllanmhbfnagaaDoor
