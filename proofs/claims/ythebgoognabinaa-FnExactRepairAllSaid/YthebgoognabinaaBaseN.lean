/- Loops on data: over lists, with and without early ends. -/
import Derived.Test.YthebgoognabinaaBaseM
namespace Go.Proofs.SL
open Go
section
variable {α β σ τ : Type}
theorem wrap_nat {k : Nat} (h : k ≤ 9223372036854775807) : IntKind.wrap .i64 (k : Int) = (k : Int) := wrap64_in (by unfold inR; omega)
theorem wrap_succ {k : Nat} (h : k < 9223372036854775807) : IntKind.wrap .i64 ((k : Int) + 1) = ((k + 1 : Nat) : Int) := by rw [wrap64_in (by unfold inR; omega)]; omega
theorem gb_true [Inhabited α] {o : Option α} {k : α → Option β} : gb true o k = o.bind k := rfl
theorem gb_false [Inhabited α] {o : Option α} {k : α → Option β} : gb false o k = k default := rfl
theorem gb_some [Inhabited α] {g : Bool} {a : α} {k : α → Option β} (h : g = false → k a = k default) : gb g (some a) k = k a := by
  cases g with
  | true => rfl
  | false => exact (h rfl).symm
/-- What a walk along a list does. -/
def goE (step : τ → β → τ ⊕ Option α) (fin : τ → Option α) : List β → τ → Option α
  | [], t => fin t
  | x :: xs, t => match step t x with
    | .inl t' => goE step fin xs t'
    | .inr r => r
theorem whileP_go {f : σ → Option (σ ⊕ α)} {l : List β} (mk : Nat → τ → σ) (step : τ → β → τ ⊕ Option α) (fin : τ → Option α) (I : Nat → τ → Prop)
    (hs : ∀ k t x, l[k]? = some x → I k t → (∃ t', step t x = .inl t' ∧ f (mk k t) = some (.inl (mk (k + 1) t')) ∧ I (k + 1) t') ∨ (∃ r, step t x = .inr r ∧ f (mk k t) = r.map .inr))
    (he : ∀ t, I l.length t → f (mk l.length t) = (fin t).map .inr) : ∀ (xs : List β) (k : Nat) (t : τ), l.drop k = xs → I k t → k ≤ l.length → whileP f (mk k t) = goE step fin xs t
  | [], k, t, hd, hi, hk => by
    have hlen : k = l.length := by
      have := congrArg List.length hd
      simp at this; omega
    subst hlen
    rw [whileP_eq, he t hi]
    show _ = fin t
    cases fin t <;> rfl
  | x :: xs, k, t, hd, hi, hk => by
    have hx : l[k]? = some x := by
      have := congrArg (fun q => q[0]?) hd
      simpa [List.getElem?_drop] using this
    have hlt := (List.getElem?_eq_some_iff.1 hx).1
    have hd' : l.drop (k + 1) = xs := by
      have := congrArg List.tail hd
      simpa [List.tail_drop] using this
    rw [whileP_eq]
    rcases hs k t x hx hi with ⟨t', h1, h2, h3⟩ | ⟨r, h1, h2⟩
    · rw [h2]
      show whileP f (mk (k + 1) t') = _
      rw [whileP_go mk step fin I hs he xs (k + 1) t' hd' h3 (by omega)]
      simp only [goE, h1]
    · rw [h2]
      simp only [goE, h1]
      cases r <;> rfl
theorem whileP_for {f : σ → Option (σ ⊕ α)} {l : List β} (mk : Nat → τ → σ) (step : τ → β → τ ⊕ Option α) (fin : τ → Option α) (I : Nat → τ → Prop) (t0 : τ) {s0 : σ} (h0 : mk 0 t0 = s0) (hI : I 0 t0)
    (hs : ∀ k t x, l[k]? = some x → I k t → (∃ t', step t x = .inl t' ∧ f (mk k t) = some (.inl (mk (k + 1) t')) ∧ I (k + 1) t') ∨ (∃ r, step t x = .inr r ∧ f (mk k t) = r.map .inr))
    (he : ∀ t, I l.length t → f (mk l.length t) = (fin t).map .inr) : whileP f s0 = goE step fin l t0 := by
  subst h0
  exact whileP_go mk step fin I hs he l 0 t0 rfl hI (Nat.zero_le _)
theorem goE_app (xs acc : List β) (g : List β → Option α) : goE (fun (t : List β) x => (.inl (t ++ [x]) : List β ⊕ Option α)) g xs acc = g (acc ++ xs) := by
  induction xs generalizing acc with
  | nil => simp [goE]
  | cons x xs ih => simp only [goE]; rw [ih]; simp
/-- A walk without early ends. -/
theorem goE_fold (h : τ → β → τ) (g : τ → Option α) : ∀ (xs : List β) (t : τ), goE (fun t x => (.inl (h t x) : τ ⊕ Option α)) g xs t = g (xs.foldl h t)
  | [], t => rfl
  | x :: xs, t => by simp only [goE, List.foldl_cons]; exact goE_fold h g xs (h t x)
theorem appP_ok {δ : Type} {a b : List δ} (h : a.length + b.length ≤ 4294967296) : appP a b = some (a ++ b) := if_pos h
theorem catP_ok {a b : ByteArray} (h : a.size + b.size ≤ 9223372036854775807) : catP a b = some (a ++ b) := if_pos h
theorem lt_dec {k n : Nat} (h : k < n) : decide ((k : Int) < (n : Int)) = true := decide_eq_true (by omega)
theorem ge_dec {n : Nat} : decide ((n : Int) < (n : Int)) = false := decide_eq_false (by omega)
/-- A check of all places. -/
theorem whileP_all {f : Int → Option (Int ⊕ α)} {n : Nat} (b : Nat → Bool) (no yes : Option α)
    (h : ∀ k, k < n → f (k : Int) = if b k then some (.inl ((k + 1 : Nat) : Int)) else no.map .inr) (hn : f (n : Int) = yes.map .inr) : whileP f 0 = if (List.range n).all b then yes else no := by
  have key : ∀ m k, n - k = m → k ≤ n → whileP f (k : Int) = if (List.range' k (n - k)).all b then yes else no := by
    intro m
    induction m with
    | zero =>
      intro k hm hk
      have : k = n := by omega
      subst this
      rw [whileP_eq, hn, Nat.sub_self]
      cases yes <;> rfl
    | succ m ih =>
      intro k hm hk
      rw [whileP_eq, h k (by omega), show n - k = (n - (k + 1)) + 1 by omega, List.range'_succ, List.all_cons]
      cases hb : b k with
      | true =>
        simp only [if_true, Bool.true_and]
        exact ih (k + 1) (by omega) (by omega)
      | false =>
        simp only [Bool.false_and, Bool.false_eq_true, if_false]
        cases no <;> rfl
  have := key n 0 (by omega) (by omega)
  rw [Nat.sub_zero, ← List.range_eq_range'] at this
  exact this
/-- A search for the first that passes: what the loop yields where one does, or at the end. -/
theorem whileP_find {γ : Type} {f : Int → Option (Int ⊕ γ)} {l : List β} (p : β → Bool) (q : Int → Option γ) (hl : l.length ≤ 9223372036854775807)
    (hs : ∀ (k : Nat) x, l[k]? = some x → f (k : Int) = if p x then (q k).map .inr else some (.inl (IntKind.wrap .i64 ((k : Int) + 1)))) (he : f (l.length : Int) = (q (-1)).map .inr) : whileP f 0 = q (firstI p l) := by
  have key : ∀ (xs : List β) (k : Nat), l.drop k = xs → k ≤ l.length → (∀ j x, j < k → l[j]? = some x → p x = false) → whileP f (k : Int) = q (firstI p l) := by
    intro xs
    induction xs with
    | nil =>
      intro k hd hk hf
      have hlen : k = l.length := by have := congrArg List.length hd; simp at this; omega
      subst hlen
      rw [whileP_eq, he, firstI_miss (fun x hx => by
        obtain ⟨j, hj⟩ := List.getElem?_of_mem hx
        exact hf j x (List.getElem?_eq_some_iff.1 hj).1 hj)]
      cases q (-1) <;> rfl
    | cons x xs ih =>
      intro k hd hk hf
      have hx : l[k]? = some x := by
        have := congrArg (fun q => q[0]?) hd
        simpa [List.getElem?_drop] using this
      have hlt := (List.getElem?_eq_some_iff.1 hx).1
      rw [whileP_eq, hs k x hx]
      cases hp : p x with
      | true =>
        rw [firstI_hit (fun y hy => by
          obtain ⟨j, hj⟩ := List.getElem?_of_mem hy
          have hjl := (List.getElem?_eq_some_iff.1 hj).1
          rw [List.length_take] at hjl
          rw [List.getElem?_take_of_lt (by omega)] at hj
          exact hf j y (by omega) hj) hx hp]
        simp only [if_true]
        cases q (k : Int) <;> rfl
      | false =>
        simp only [Bool.false_eq_true, if_false]
        rw [wrap_succ (by omega)]
        refine ih (k + 1) ?_ (by omega) (fun j y hj hy => ?_)
        · have := congrArg List.tail hd
          simpa [List.tail_drop] using this
        · rcases Nat.lt_or_ge j k with h1 | h1
          · exact hf j y h1 hy
          · have : j = k := by omega
            subst this
            rw [hx] at hy; cases hy; exact hp
  exact key l 0 rfl (Nat.zero_le _) (fun j x hj => absurd hj (Nat.not_lt_zero _))
theorem all_range_get {l : List β} {p : β → Bool} : (List.range l.length).all (fun k => (l[k]?).all p) = l.all p := by
  rw [Bool.eq_iff_iff, List.all_eq_true, List.all_eq_true]
  constructor
  · intro h x hx
    obtain ⟨i, hi⟩ := List.getElem?_of_mem hx
    have := h i (List.mem_range.2 (List.getElem?_eq_some_iff.1 hi).1)
    rw [hi] at this; exact this
  · intro h k hk
    have hk := List.mem_range.1 hk
    rw [List.getElem?_eq_getElem hk]
    exact h _ (List.getElem_mem hk)
end
end Go.Proofs.SL
