/- slices.Backward; the value of a polynomial (walks). Plain laws: shares (no program in sight). The property's digits, power (walks). -/
import Derived.BigQuiet
import Derived.Test.YtbllanmhbfnagaaDoorU32
import Derived.Test.YtbllanmhbfnagaaDoorU30
import Derived.Test.YtbllanmhbfnagaaDoorU21
import Derived.Test.YtbllanmhbfnagaaDoorU1
set_option linter.unusedVariables false
set_option linter.unusedSimpArgs false
namespace Go.Proofs.YtbllanmhbfnagaaDoor
open Go.RowKit Go.Shelf Go.Sort
attribute [local go_sem] Oper.semAt_some
/-- What has come when k rounds are over. -/
def uptoL {α : Type} (f : Nat → α) (k : Nat) : List α := (List.range k).map f
theorem uptoL_succ {α : Type} (f : Nat → α) (k : Nat) : uptoL f (k + 1) = uptoL f k ++ [f k] := by simp [uptoL, List.range_succ]
theorem uptoL_length {α : Type} (f : Nat → α) (k : Nat) : (uptoL f k).length = k := by simp [uptoL]
/-- The k-th element from the end. -/
def backE (zs : List Int) (len k : Nat) : Nat × Int := (len - 1 - k, zs[len - 1 - k]?.getD 0)
/-- What a round must keep: what lay below n₀, and block B. -/
def KpB (n₀ B : Nat) (W W' : World) : Prop := RowKit.Below n₀ W W' ∧ W'.heap[B]? = W.heap[B]?
theorem KpB.refl (n₀ B : Nat) (W : World) : KpB n₀ B W W := ⟨Below.refl _ _, rfl⟩
theorem KpB.trans {n₀ B : Nat} {W W' W'' : World} (h : KpB n₀ B W W') (h' : KpB n₀ B W' W'') : KpB n₀ B W W'' := ⟨h.1.trans h'.1, h'.2.trans h.2⟩
theorem KpB.put {n₀ B : Nat} {w : World} (hn : n₀ ≤ w.heap.size) (hB : B < w.heap.size) (W : World) (l : Nat) (o o' : Obj) (hl : w.heap.size ≤ l) (h : W.heap[l]? = some o) (h1 : o.isCells = false) (h2 : o.isWalk = false) : KpB n₀ B W (W.putObj l o') :=
  ⟨belowK_b hn W l o o' hl h h1 h2, World.putObj_heap_other (by omega)⟩
theorem KpB.cell {n₀ B : Nat} {W W' : World} (h : KpB n₀ B W W') (k : Nat) : W'.cell? ⟨B, k, none⟩ = W.cell? ⟨B, k, none⟩ := World.cell?_of_block (w := W) (a := ⟨B, k, none⟩) h.2
def encP (x : Nat × Int) : Array Value := #[.int .i64 (x.1 : Int), .int .i64 x.2]
set_option maxRecDepth 100000 in
set_option maxHeartbeats 4000000 in
theorem back1_in (F : Fence) (n : Nat) (h8 : F.fn 119) (hro : F.round = none) (hn : 1 ≤ n) (l Bs n₀ b off len cap : Nat) (zs : List Int) (hreach : len ≤ 1000000) (hb : b < n₀) (J Jx : List (Nat × Int) → World → Prop)
    (hY : ∀ pre x W, J pre W → pre.length < len → YieldAt F (n - 1) Tryd.prog l #[.int .i64 (x.1 : Int), .int .i64 x.2] W fun e W' =>
      (e = .returned (.bool true) ∧ J (pre ++ [x]) W' ∧ KpB n₀ Bs W W') ∨ (e = .returned (.bool false) ∧ Jx (pre ++ [x]) W'))
    (W : World) (hBs : W.cell? ⟨Bs, 0, none⟩ = some (.slice (some ⟨b, off, none⟩) len cap)) (hc : ∀ j, j < len → W.cell? ⟨b, off + j, none⟩ = some (.int .i64 (zs[j]?.getD 0))) (h0 : J [] W) :
    CallsIn F n Tryd.prog 119 #[.func (.yield l) #[] #[], .pointer (some ⟨Bs, 0, none⟩)] W fun e W' => (∃ v, e = .returned v) ∧
      ((∃ ys, ys = uptoL (backE zs len) len ∧ J ys W') ∨ (∃ pre, (∃ k, k ≤ len ∧ pre = uptoL (backE zs len) k) ∧ Jx pre W')) := by
  refine callsIn_of_wp Tryd.func119 rfl h8 ?_ hro
  simp only [Tryd.ntmps119, List.size_toArray, List.length_cons, List.length_nil, Nat.reduceAdd, Nat.reduceSub, Array.replicate_succ, Array.replicate_zero, List.push_toArray, List.append_toArray, List.nil_append, List.cons_append]
  have e0 : IntKind.i64.wrap ((len : Int) - 1) = (len : Int) - 1 := IntWalk.i64_in _ (by omega)
  gi_wp2
  gi_loopw [3] (fun i wr => ∃ k : Nat, k ≤ len ∧ i = .int .i64 ((len : Int) - 1 - k) ∧ J (uptoL (backE zs len) k) wr ∧ KpB n₀ Bs W wr)
    (fun i _ => (intOf i + 1).toNat)
  case atStart => exact ⟨0, Nat.zero_le _, by simp, h0, KpB.refl _ _ _⟩
  case round =>
    obtain ⟨k, hk, rfl, hJs, hnx⟩ := hrel
    have hbx := (hnx.cell 0).trans hBs
    by_cases hlt : k < len
    · obtain ⟨j, hj⟩ : ∃ j, len - 1 - k = j := ⟨_, rfl⟩
      have hjl : j < len := by omega
      have hji : (len : Int) - 1 - k = (j : Int) := by omega
      have hcx := (hnx.1.cell (p := ⟨b, off + j, none⟩) hb).trans (hc j hjl)
      obtain ⟨fn, tmps, assign, body, hy, hR⟩ := hY _ (j, zs[j]?.getD 0) wr hJs (by rw [uptoL_length]; exact hlt)
      dsimp only at hy
      rw [hji]
      have e2 : IntKind.i64.wrap ((j : Int) - 1) = (j : Int) - 1 := IntWalk.i64_in _ (by omega)
      have jl : (j : Int) < len := by omega
      have hbk : backE zs len k = (j, zs[j]?.getD 0) := by unfold backE; rw [hj]
      gi_wp2
      refine hR.mono ?_
      rintro e W3 (⟨rfl, hJ3, hk3⟩ | ⟨rfl, hJx3⟩)
      · gi_wp2
        go_roundw
        case rel => exact ⟨k + 1, by omega, (by first | (congr 1; done) | (congr 1; omega)), by rw [uptoL_succ, hbk]; exact hJ3, hnx.trans hk3⟩
        case measure => (try simp only [intOf]); omega
      · gi_wp2
        refine bodyPost_ret (results_none rfl _ _ _) rfl ?_
        exact ⟨⟨_, rfl⟩, .inr ⟨_, ⟨k + 1, by omega, by rw [uptoL_succ, hbk]⟩, hJx3⟩⟩
    · obtain rfl : k = len := by omega
      gi_wp2
      go_end0
      exact ⟨⟨_, rfl⟩, .inl ⟨_, rfl, hJs⟩⟩
set_option maxRecDepth 100000 in
set_option maxHeartbeats 1000000 in
theorem back1_nil_in (F : Fence) (n : Nat) (h8 : F.fn 119) (hro : F.round = none) (l Bs c : Nat) (ao : Option Addr) (J : List (Nat × Int) → World → Prop) (W : World) (hBs : W.cell? ⟨Bs, 0, none⟩ = some (.slice ao 0 c)) (h0 : J [] W) :
    CallsIn F n Tryd.prog 119 #[.func (.yield l) #[] #[], .pointer (some ⟨Bs, 0, none⟩)] W fun e W' => (∃ v, e = .returned v) ∧ J [] W' := by
  refine callsIn_of_wp Tryd.func119 rfl h8 ?_ hro
  simp only [Tryd.ntmps119, List.size_toArray, List.length_cons, List.length_nil, Nat.reduceAdd, Nat.reduceSub, Array.replicate_succ, Array.replicate_zero, List.push_toArray, List.append_toArray, List.nil_append, List.cons_append]
  gi_wp2
  gi_loopw [3] (fun i wr => i = .int .i64 (-1) ∧ J [] wr) (fun _ _ => 0)
  case atStart => exact ⟨rfl, h0⟩
  case round =>
    obtain ⟨rfl, hJs⟩ := hrel
    gi_wp2
    go_end0
    exact ⟨⟨_, rfl⟩, hJs⟩
set_option maxHeartbeats 1000000 in
theorem backward_in (F : Fence) (n : Nat) (h6 : F.fn 104) (hro : F.round = none) (a : Option Addr) (len cap : Nat) (w : World) :
    CallsIn F n Tryd.prog 104 #[.slice a len cap] w fun e w' => e = .returned (.func (.func 119) #[] #[.pointer (some ⟨w.heap.size, 0, none⟩)]) ∧ w' = w.alloc (.cells #[.slice a len cap] 42) := by
  refine callsIn_of_wp Tryd.func104 rfl h6 ?_ hro
  simp only [Tryd.ntmps104, List.size_toArray, List.length_cons, List.length_nil, Nat.reduceAdd, Nat.reduceSub, Array.replicate_succ, Array.replicate_zero, List.push_toArray, List.append_toArray, List.nil_append, List.cons_append]
  gi_wp2
  go_ret
  exact ⟨rfl, rfl⟩
theorem ArgI.get {w : World} {ao : Option Addr} {n : Nat} {l : List Int} (h : ArgI w ao n l) (h0 : 0 < n) : ∃ g o, ao = some ⟨g, o, none⟩ ∧ g < w.heap.size ∧ ∀ j, j < n → w.cell? ⟨g, o + j, none⟩ = some (.int .i64 (l[j]?.getD 0)) := by
  obtain ⟨g, o, e, hc, hl⟩ := h.here h0
  exact ⟨g, o, e, hl, hc⟩
theorem back_stops (F : Fence) (n : Nat) (h8 : F.fn 119) (hro : F.round = none) (hn : 1 ≤ n) (Bs n₀ : Nat) (ao : Option Addr) (len cap : Nat) (zs : List Int) (hreach : len ≤ 1000000) (w : World) (hBs : Bs < w.heap.size) (hn₀ : n₀ ≤ w.heap.size)
    (hc : w.cell? ⟨Bs, 0, none⟩ = some (.slice ao len cap)) (hI : 0 < len → ∃ g o, ao = some ⟨g, o, none⟩ ∧ g < n₀ ∧ ∀ j, j < len → w.cell? ⟨g, o + j, none⟩ = some (.int .i64 (zs[j]?.getD 0))) :
    SeqStopsK F n Tryd.prog 119 #[.pointer (some ⟨Bs, 0, none⟩)] encP (KpB n₀ Bs) (fun ys => ys = uptoL (backE zs len) len)
      (fun pre => ∃ k, k ≤ len ∧ pre = uptoL (backE zs len) k) len w := fun l J Jx W hW _ _ hY h0 => by
  have hc' := (hW.cell (p := ⟨Bs, 0, none⟩) hBs).trans hc
  by_cases h : 0 < len
  · obtain ⟨g, o, rfl, hg, hcs⟩ := hI h
    have hcs' : ∀ j, j < len → W.cell? ⟨g, o + j, none⟩ = some (.int .i64 (zs[j]?.getD 0)) := fun j hj => (hW.cell (p := ⟨g, o + j, none⟩) (by show g < _; omega)).trans (hcs j hj)
    exact back1_in F n h8 hro hn l Bs n₀ g o len cap zs hreach hg J Jx hY W hc' hcs' h0
  · obtain rfl : len = 0 := by omega
    exact (back1_nil_in F n h8 hro l Bs cap ao J W hc' h0).mono fun e W' ⟨he, hj⟩ => ⟨he, .inl ⟨_, rfl, hj⟩⟩
/-- The value of a polynomial modulo q. -/
def atF (q : Int) (cs : List Int) (x : Int) : Int := cs.foldr (fun c o => addI q (mulI q o x) c) 0
def atP (q x : Int) (pre : List (Nat × Int)) : Int := pre.foldl (fun o p => addI q (mulI q o x) p.2) 0
theorem atP_snoc (q x : Int) (pre : List (Nat × Int)) (p : Nat × Int) : atP q x (pre ++ [p]) = addI q (mulI q (atP q x pre) x) p.2 := by simp [atP]
theorem back_all (zs : List Int) : (uptoL (backE zs zs.length) zs.length).map (·.2) = zs.reverse := by
  apply List.ext_getElem
  · simp [uptoL]
  · intro i h1 h2
    have hi : i < zs.length := by simpa using h2
    have hj : zs.length - 1 - i < zs.length := by omega
    simp [uptoL, backE, hj]
theorem atP_all (q x : Int) (zs : List Int) : atP q x (uptoL (backE zs zs.length) zs.length) = atF q zs x := by
  have h : ∀ (l : List (Nat × Int)) (o : Int), l.foldl (fun o p => addI q (mulI q o x) p.2) o = (l.map (·.2)).foldl (fun o c => addI q (mulI q o x) c) o := by
    intro l
    induction l with
    | nil => intro o; rfl
    | cons a l ih => intro o; exact ih _
  unfold atP atF
  rw [h, back_all, List.foldl_reverse]
end Go.Proofs.YtbllanmhbfnagaaDoor
namespace Go.Proofs.YtbllanmhbfnagaaDoor
/-- q to the power of i, or the first power beyond 2500. -/
def capF (q : Nat) : Nat → Nat
  | 0 => 1
  | i + 1 => if capF q i ≤ 2500 then capF q i * q else capF q i
theorem capF_le (q : Nat) : ∀ i, capF q i ≤ 2500 → capF q i = q ^ i
  | 0, _ => rfl
  | i + 1, h => by
    rw [capF] at h ⊢
    by_cases e : capF q i ≤ 2500
    · rw [if_pos e, capF_le q i e, Nat.pow_succ]
    · rw [if_neg e] at h; exact absurd h e
theorem capF_stop (q i : Nat) (h : 2500 < capF q i) : ∀ n, i ≤ n → capF q n = capF q i
  | 0, hn => by rw [show i = 0 by omega]
  | n + 1, hn => by
    by_cases e : i = n + 1
    · rw [e]
    · have ih := capF_stop q i h n (by omega)
      rw [capF, ih, if_neg (by omega)]
theorem capF_bd (q i : Nat) (hq : q ≤ 13) : capF q i ≤ 32500 := by
  induction i with
  | zero => simp [capF]
  | succ i ih =>
    rw [capF]
    split
    · rename_i h
      exact Nat.le_trans (Nat.mul_le_mul h hq) (by omega)
    · exact ih
theorem digN_snoc (p : Nat) : ∀ (k n : Nat), digN p (k + 1) n = digN p k n ++ [n / p ^ k % p]
  | 0, n => by simp [digN]
  | k + 1, n => by
    have ih := digN_snoc p k (n / p)
    show n % p :: digN p (k + 1) (n / p) = _
    rw [ih, digN, List.cons_append, Nat.div_div_eq_div_mul, Nat.pow_succ, Nat.mul_comm]
theorem div_pow_succ (n p k : Nat) : n / p ^ k / p = n / p ^ (k + 1) := by rw [Nat.div_div_eq_div_mul, Nat.pow_succ]
theorem digN_bd (p : Nat) (hp : 0 < p) (k n i : Nat) : (digN p k n).getD i 0 < p := by
  rcases Nat.lt_or_ge i (digN p k n).length with h | h
  · have : (digN p k n).getD i 0 = (digN p k n)[i] := by simp [List.getD, h]
    rw [this]
    exact digN_lt p hp k n _ (List.getElem_mem h)
  · rw [List.getD, List.getElem?_eq_none h]; exact hp
def primes13 : List Nat := [2, 3, 5, 7, 11, 13]
theorem p13_chk : ((List.range 14).all fun p => (primeB (p : Int) == primes13.contains p)) = true := by decide +kernel
theorem p13 {p : Nat} (hp : p < 14) (h : primeB (p : Int) = true) : p ∈ primes13 := by
  have := List.all_eq_true.1 p13_chk p (List.mem_range.2 hp)
  rw [h] at this
  simpa using this
theorem p13_mul_chk : (primes13.all fun p => (List.range p).all fun x => (List.range p).all fun y => (x * y % p != 0) || (x == 0) || (y == 0)) = true := by decide +kernel
theorem p13_inv_chk : (primes13.all fun p => (List.range p).all fun x => x == 0 || invB (p : Int) (x : Int)) = true := by decide +kernel
theorem p13_bd {p : Nat} (h : p ∈ primes13) : 2 ≤ p ∧ p ≤ 13 := by
  have : ∀ p ∈ primes13, 2 ≤ p ∧ p ≤ 13 := by decide
  exact this p h
theorem p13_mod {p : Nat} (h : p ∈ primes13) : modB (p : Int) = true := by
  have := p13_bd h
  exact modB_iff.2 ⟨by omega, by omega⟩
theorem p13_inv {p : Nat} (h : p ∈ primes13) (x : Int) (h0 : 0 < x) (h1 : x < p) : invB (p : Int) x = true := by
  have := List.all_eq_true.1 (List.all_eq_true.1 p13_inv_chk p h) x.toNat (List.mem_range.2 (by omega))
  rw [show ((x.toNat : Nat) : Int) = x by omega, Bool.or_eq_true] at this
  rcases this with h2 | h2
  · have : x.toNat = 0 := by simpa using h2
    omega
  · exact h2
theorem p13_prime {p : Nat} (h : p ∈ primes13) (x y : Int) (hd : (p : Int) ∣ x * y) : (p : Int) ∣ x ∨ (p : Int) ∣ y := by
  have hb := p13_bd h
  have hx0 := Int.emod_nonneg x (show (p : Int) ≠ 0 by omega)
  have hx1 := Int.emod_lt_of_pos x (show (0 : Int) < p by omega)
  have hy0 := Int.emod_nonneg y (show (p : Int) ≠ 0 by omega)
  have hy1 := Int.emod_lt_of_pos y (show (0 : Int) < p by omega)
  have h1 : (x % p * (y % p)) % p = 0 := by rw [← Int.mul_emod]; exact Int.emod_eq_zero_of_dvd hd
  obtain ⟨a, ha⟩ : ∃ a : Nat, x % p = a := ⟨(x % p).toNat, by omega⟩
  obtain ⟨b, hb2⟩ : ∃ b : Nat, y % p = b := ⟨(y % p).toNat, by omega⟩
  rw [ha, hb2] at h1
  have h2 : a * b % p = 0 := by
    have : ((a * b % p : Nat) : Int) = 0 := by rw [Int.natCast_emod, Int.natCast_mul]; exact h1
    omega
  have h3 := List.all_eq_true.1 (List.all_eq_true.1 (List.all_eq_true.1 p13_mul_chk p h) a (List.mem_range.2 (by omega))) b (List.mem_range.2 (by omega))
  rw [h2] at h3
  simp at h3
  rcases h3 with h4 | h4
  · exact .inl (Int.dvd_of_emod_eq_zero (by rw [ha, h4]; rfl))
  · exact .inr (Int.dvd_of_emod_eq_zero (by rw [hb2, h4]; rfl))
theorem atF_ev {q : Int} (hq : modB q = true) (x : Int) : ∀ cs : List Int, atF q cs x = evP cs x % q
  | [] => by simp [atF, evP]
  | c :: t => by
    have ih := atF_ev hq x t
    show addI q (mulI q (atF q t x) x) c = _
    rw [ih, addI_of hq, mulI_of hq, mul_mod_l, add_mod_l]
    rfl
/-- The polynomial with number n fits the first m values. -/
def fitB (p K : Nat) (xs ys : List Int) (n m : Nat) : Bool := (List.range m).all (fun i => atF (p : Int) (pvI (digN p K n)) (xs.getD i 0) == addI (p : Int) (ys.getD i 0) 0)
theorem fitB_succ (p K : Nat) (xs ys : List Int) (n m : Nat) : fitB p K xs ys n (m + 1) = (fitB p K xs ys n m && (atF (p : Int) (pvI (digN p K n)) (xs.getD m 0) == addI (p : Int) (ys.getD m 0) 0)) := by
  simp [fitB, List.range_succ]
def c0 (p K n : Nat) : Nat := (digN p K n).getD 0 0
def metF (p K : Nat) (xs ys : List Int) (m n : Nat) : List Int := (List.range p).map (fun s => ((cntN n (fun n' => fitB p K xs ys n' m && (c0 p K n' == s)) : Nat) : Int))
theorem metF_len (p K : Nat) (xs ys : List Int) (m n : Nat) : (metF p K xs ys m n).length = p := by simp [metF]
theorem metF_at (p K : Nat) (xs ys : List Int) (m n s : Nat) (hs : s < p) : (metF p K xs ys m n).getD s 0 = ((cntN n (fun n' => fitB p K xs ys n' m && (c0 p K n' == s)) : Nat) : Int) := by
  simp [metF, List.getD, hs]
theorem metF_zero (p K : Nat) (xs ys : List Int) (m : Nat) : metF p K xs ys m 0 = List.replicate p 0 := by
  apply List.ext_getElem
  · simp [metF]
  · intro i h1 h2; simp [metF, cntN, sumN]
theorem metF_no {p K : Nat} {xs ys : List Int} {m n : Nat} (h : fitB p K xs ys n m = false) : metF p K xs ys m (n + 1) = metF p K xs ys m n := by
  unfold metF
  refine List.map_congr_left (fun s _ => ?_)
  rw [cntN_succ, h]
  simp
theorem metF_yes {p K : Nat} {xs ys : List Int} {m n : Nat} (hp : 0 < p) (h : fitB p K xs ys n m = true) : metF p K xs ys m (n + 1) = (metF p K xs ys m n).set (c0 p K n) ((metF p K xs ys m n).getD (c0 p K n) 0 + 1) := by
  have hc : c0 p K n < p := digN_bd p hp K n 0
  apply List.ext_getElem
  · simp [metF]
  · intro i h1 h2
    have hi : i < p := by simpa [metF] using h1
    rw [List.getElem_set]
    by_cases e : c0 p K n = i
    · rw [if_pos e, metF_at _ _ _ _ _ _ _ hc]
      simp only [metF, List.getElem_map, List.getElem_range]
      rw [cntN_succ, h, e]
      simp
    · rw [if_neg e]
      simp only [metF, List.getElem_map, List.getElem_range]
      rw [cntN_succ, h, show (c0 p K n == i) = false by simpa using e]
      simp
theorem diff_of {p : Nat} (hm : modB (p : Int) = true) : ∀ (xs : List Int), (∀ i k, k < i → i < xs.length → subI (p : Int) (xs.getD i 0) (xs.getD k 0) ≠ 0) → Diff (p : Int) xs
  | [], _ => trivial
  | a :: t, h => by
    refine ⟨fun b hb hd => ?_, diff_of hm t (fun i k hk hi => h (i + 1) (k + 1) (by omega) (by simp; omega))⟩
    obtain ⟨i, hi⟩ := List.mem_iff_getElem?.1 hb
    have hil := (List.getElem?_eq_some_iff.1 hi).1
    refine h (i + 1) 0 (by omega) (by simp; omega) ?_
    rw [subI_of hm]
    show (t.getD i 0 - a) % p = 0
    rw [show t.getD i 0 = b by rw [List.getD, hi]; rfl]
    exact Int.emod_eq_zero_of_dvd hd
theorem shares_one {p : Nat} (hp : p ∈ primes13) (xs ys : List Int) (hl : xs.length = ys.length) (h0 : ∀ i, i < xs.length → addI (p : Int) (xs.getD i 0) 0 ≠ 0) (hd : ∀ i k, k < i → i < xs.length → subI (p : Int) (xs.getD i 0) (xs.getD k 0) ≠ 0) (s : Nat) (hs : s < p) :
    cntN (p ^ (xs.length + 1)) (fun n => fitB p (xs.length + 1) xs ys n xs.length && (c0 p (xs.length + 1) n == s)) = 1 := by
  have hm := p13_mod hp
  have hb := p13_bd hp
  have hD : Diff (p : Int) (0 :: xs) := by
    refine ⟨fun b hbm hd' => ?_, diff_of hm xs hd⟩
    obtain ⟨i, hi⟩ := List.mem_iff_getElem?.1 hbm
    have hil := (List.getElem?_eq_some_iff.1 hi).1
    refine h0 i hil ?_
    rw [addI_of hm, show xs.getD i 0 = b by rw [List.getD, hi]; rfl, Int.add_zero]
    rw [Int.sub_zero] at hd'
    exact Int.emod_eq_zero_of_dvd hd'
  have h1 := one_poly (p := p) (by omega) (p13_prime hp) hD (s :: ys.map (fun y : Int => (y % (p : Int)).toNat)) (by simp [hl]) (fun x hx => by
    rcases List.mem_cons.1 hx with rfl | hx
    · exact hs
    · obtain ⟨y, _, rfl⟩ := List.mem_map.1 hx
      have := emod_bd y p (by omega)
      omega)
  rw [show (0 :: xs).length = xs.length + 1 from rfl, ← sum_digits p (by omega)] at h1
  refine Eq.trans ?_ h1
  unfold cntN
  refine sumN_cong _ (fun n _ => ?_)
  congr 1
  have hdl := digN_len p (xs.length + 1) n
  have hdp : c0 p (xs.length + 1) n < p := digN_bd p (by omega) _ n 0
  have hev0 : (evP (pvI (digN p (xs.length + 1) n)) 0 % p).toNat = c0 p (xs.length + 1) n := by
    obtain ⟨a, t, hat⟩ : ∃ a t, digN p (xs.length + 1) n = a :: t := ⟨_, _, rfl⟩
    have hc : c0 p (xs.length + 1) n = a := by unfold c0; rw [hat]; rfl
    rw [hc] at hdp ⊢
    rw [hat]
    show ((evP (pvI t) 0 * 0 + (a : Int)) % p).toNat = a
    rw [Int.mul_zero, Int.zero_add, Int.emod_eq_of_lt (by omega) (by omega)]
    omega
  rw [Bool.eq_iff_iff, Bool.and_eq_true, decide_eq_true_eq]
  unfold valsP
  rw [List.map_cons, hev0, List.cons.injEq]
  simp only [fitB, List.all_eq_true, List.mem_range, beq_iff_eq]
  have hcell : ∀ i, (atF (p : Int) (pvI (digN p (xs.length + 1) n)) (xs.getD i 0) = addI (p : Int) (ys.getD i 0) 0) ↔ (evP (pvI (digN p (xs.length + 1) n)) (xs.getD i 0) % p).toNat = (ys.getD i 0 % p).toNat := fun i => by
    rw [atF_ev hm, addI_of hm, Int.add_zero]
    have n1 := emod_bd (evP (pvI (digN p (xs.length + 1) n)) (xs.getD i 0)) p (by omega)
    have n2 := emod_bd (ys.getD i 0) p (by omega)
    omega
  constructor
  · rintro ⟨h2, h3⟩
    refine ⟨h3, List.ext_getElem (by simp [hl]) (fun i g1 g2 => ?_)⟩
    have hi : i < xs.length := by simpa using g1
    have := (hcell i).1 (h2 i hi)
    simpa [List.getD, hi, show i < ys.length by omega] using this
  · rintro ⟨h2, h3⟩
    refine ⟨fun i hi => (hcell i).2 ?_, h2⟩
    have := congrArg (fun l : List Nat => l[i]?) h3
    simpa [List.getD, hi, show i < ys.length by omega] using this
end Go.Proofs.YtbllanmhbfnagaaDoor
namespace Go.Proofs.YtbllanmhbfnagaaDoor
open Go.RowKit Go.Sort
set_option maxHeartbeats 4000000 in
set_option maxRecDepth 100000 in
theorem lpower_any (q n : Nat) (w : World) (hq : q ≤ 13) (hn : n ≤ 1000000) :
    Calls Tryd.prog 70 #[.int .i64 q, .int .i64 n] w fun e w' => e = .returned (.int .i64 (capF q n)) ∧ w = w' := by
  have e0 : Hid (((capF q 0 : Nat) : Int) = 1) := mkHid rfl
  go_enter Tryd.func70, Tryd.ntmps70
  go_wp2_with fail
  go_loop [5, 6] (fun u c => ∃ i : Nat, u = .int .i64 (capF q i) ∧ c = .int .i64 i ∧ i ≤ n) (fun _ c => (n - intOf c).toNat)
  case atStart => exact ⟨0, by rw [e0.out], rfl, by omega⟩
  case round =>
    obtain ⟨i, rfl, rfl, hi⟩ := hrel
    have e2 : IntKind.i64.wrap ((i : Int) + 1) = ((i + 1 : Nat) : Int) := IntWalk.i64_in _ (by omega)
    have hst : Hid (capF q (i + 1) = if capF q i ≤ 2500 then capF q i * q else capF q i) := mkHid rfl
    have hstop := mkHid (capF_stop q i)
    have hbd := capF_bd q i hq
    by_cases hlt : i < n
    · have d1 : decide ((i : Int) < n) = true := decide_eq_true (by omega)
      have d1' : (i : Int) < n := by omega
      by_cases hc : capF q i ≤ 2500
      · rw [if_pos hc] at hst
        obtain ⟨u, hu⟩ : ∃ u, capF q i = u := ⟨_, rfl⟩
        rw [hu] at hst hbd hc ⊢
        clear hu hstop
        have d2 : decide ((u : Int) ≤ 2500) = true := decide_eq_true (by omega)
        have d3 : (u : Int) ≤ 2500 := by omega
        have hm : u * q ≤ 32500 := Nat.le_trans (Nat.mul_le_mul hc hq) (by omega)
        have e3 : IntKind.i64.wrap ((u : Int) * (q : Int)) = ((u * q : Nat) : Int) := by rw [← Int.natCast_mul]; exact IntWalk.i64_in _ (by omega)
        have HM := mkHid hm
        clear hm
        go_wp2
        go_round
        case rel => exact ⟨i + 1, by rw [hst.out, Int.natCast_mul], rfl, by omega⟩
        case measure => simp [intOf]; omega
      · have hfin : Hid (capF q n = capF q i) := mkHid (hstop.out (by omega) n hi)
        obtain ⟨u, hu⟩ : ∃ u, capF q i = u := ⟨_, rfl⟩
        rw [hu] at hfin hbd hc ⊢
        clear hu hstop hst
        have d2 : decide ((u : Int) ≤ 2500) = false := decide_eq_false (by omega)
        have d3 : ¬ ((u : Int) ≤ 2500) := by omega
        clear hc
        go_wp2
        go_ret
        rw [hfin.out]
        exact ⟨rfl, rfl⟩
    · obtain rfl : i = n := by omega
      have d1 : decide ((i : Int) < i) = false := decide_eq_false (by omega)
      clear hst hstop
      go_wp2
      go_ret
      exact ⟨rfl, rfl⟩
set_option maxHeartbeats 4000000 in
set_option maxRecDepth 100000 in
theorem digits_any (n p k : Nat) (w : World) (hn : n ≤ 1000000) (hp : 1 ≤ p) (hp2 : p ≤ 1000000) (hk : k ≤ 1000) :
    Calls Tryd.prog 73 #[.int .i64 n, .int .i64 p, .int .i64 k] w fun e w' => ∃ ao cap, e = .returned (.slice ao k cap) ∧ ArgI w' ao k (pvI (digN p k n)) ∧ Below w.heap.size w w' := by
  have p0 : ¬ (p : Int) = 0 := by omega
  have e0 : Hid (((n / p ^ 0 : Nat) : Int) = n) := mkHid (by simp)
  go_enter Tryd.func73, Tryd.ntmps73
  go_wp2_with fail
  have O0 : Hid (OwnS (w.alloc (.cells #[] 3)) w.heap.size 0 (iv (pvI (digN p 0 n))) (some ⟨w.heap.size, 0, none⟩)) := mkHid (own_new0 w 3 w.heap.size (Nat.le_refl _)).s
  have B0 : Hid (Below w.heap.size w (w.alloc (.cells #[] 3))) := mkHid ((Below.refl _ w).alloc (Nat.le_refl _) _)
  generalize w.alloc (.cells #[] 3) = w1 at *
  go_loopw [0, 7, 8] (fun m s c wr => ∃ (i : Nat) (ao : Option Addr) (cp : Nat), m = .int .i64 ((n / p ^ i : Nat) : Int) ∧ s = .slice ao i cp ∧ c = .int .i64 i ∧ i ≤ k ∧ Hid (OwnS wr w.heap.size cp (iv (pvI (digN p i n))) ao) ∧ Hid (Below w.heap.size w wr)) (fun _ _ c _ => (k - intOf c).toNat)
  case atStart => exact ⟨0, some ⟨w.heap.size, 0, none⟩, 0, by rw [e0.out], rfl, rfl, by omega, O0, B0⟩
  case round =>
    clear O0 B0
    obtain ⟨i, ao, cp, rfl, rfl, rfl, hi, ho, hb⟩ := hrel
    have e2 : IntKind.i64.wrap ((i : Int) + 1) = ((i + 1 : Nat) : Int) := IntWalk.i64_in _ (by omega)
    by_cases hlt : i < k
    · have ii : (i : Int) < k := by omega
      have hsn := mkHid (digN_snoc p i n)
      have hdv := mkHid (div_pow_succ n p i)
      have hle : n / p ^ i ≤ n := Nat.div_le_self _ _
      obtain ⟨m, hm⟩ : ∃ m, n / p ^ i = m := ⟨_, rfl⟩
      rw [hm] at hsn hdv hle ⊢
      clear hm
      obtain ⟨r, hr⟩ : ∃ r, m % p = r := ⟨_, rfl⟩
      obtain ⟨d, hd⟩ : ∃ d, m / p = d := ⟨_, rfl⟩
      rw [hr] at hsn
      rw [hd] at hdv
      have hrl : r < p := by rw [← hr]; exact Nat.mod_lt _ (by omega)
      have hdl : d ≤ m := by rw [← hd]; exact Nat.div_le_self _ _
      have t1 : (m : Int).tmod p = (r : Int) := by rw [Int.tmod_eq_emod_of_nonneg (by omega), ← hr]; exact (Int.natCast_emod m p).symm
      have t2 : (m : Int).tdiv p = (d : Int) := by rw [Int.tdiv_eq_ediv_of_nonneg (by omega), ← hd]; exact (Int.natCast_ediv m p).symm
      have e4 : IntKind.i64.wrap (d : Int) = (d : Int) := IntWalk.i64_in _ (by omega)
      clear hr hd
      have SA : Hid (w.heap.size ≤ wr.heap.size) := mkHid hb.out.size
      have hlen := mkHid (digN_len p i n)
      go_wp2_with (at_builtin; refine app_ints wr w.heap.size rfl (.tmp 15) (.tmp 19) rfl ao cp i (pvI (digN p i n)) ?q1 ?q2 ho.out SA.out 1 1 #[.int .i64 (r : Int)] 3 [(r : Int)] ?q3 rfl rfl (by omega) ?q4 ?_; (case q1 => rw [pvI_len, hlen.out]); (case q2 => rfl); (case q3 => rfl); (case q4 => omega); intro g4 off4 c4 wb o8 b8; have OB := mkHid o8; have B8 := mkHid b8; clear o8 b8)
      go_roundw
      case rel => exact ⟨i + 1, some ⟨g4, off4, none⟩, c4, by rw [← hdv.out], rfl, rfl, by omega, mkHid (by rw [hsn.out, pvI_app]; exact OB.out.s), mkHid (hb.out.trans B8.out)⟩
      case measure => simp only [intOf]; omega
    · obtain rfl : i = k := by omega
      go_wp2_with fail
      go_ret
      exact ⟨ao, cp, rfl, ho.out.arg (by rw [pvI_len, digN_len]), hb.out⟩
end Go.Proofs.YtbllanmhbfnagaaDoor
