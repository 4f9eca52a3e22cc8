/- The least functions, in plain Lean; sizes of data. -/
import Derived.Test.YtndhmnoehapdhaaDoorW0
import Derived.Test.YtndhmnoehapdhaaDoorB2
namespace Go.Proofs.SL
open Go
theorem l1In_eq (x a b : Int) : s_l1In x a b = some (decide (a ≤ x ∧ x ≤ b)) := by
  unfold s_l1In; rw [Bool.decide_and]
theorem within_eq (x a b : Int) : i_within x a b = some (decide (a ≤ x ∧ x ≤ b)) := by
  unfold i_within; rw [Bool.decide_and]
theorem firstI_some {α : Type} {p : α → Bool} {xs : List α} {k : Nat} (h : xs.findIdx? p = some k) : firstI p xs = (k : Int) := by unfold firstI; rw [h]
theorem firstI_none {α : Type} {p : α → Bool} {xs : List α} (h : xs.findIdx? p = none) : firstI p xs = -1 := by unfold firstI; rw [h]
theorem gbs {α β : Type} [Inhabited α] (g : Bool) (a : α) (k : α → Option β) : gb g (some a) k = if g then k a else k default := by cases g <;> rfl
theorem prev_idx' {δ : Type} {l : List δ} {k : Nat} (hk : k < l.length) (hl : l.length ≤ 9223372036854775807) (h0 : 0 < k) : ∃ r, l[k - 1]? = some r ∧ idx l (IntKind.wrap .i64 ((k : Int) - 1)) = some r := by
  refine ⟨l[k - 1], List.getElem?_eq_getElem (by omega), ?_⟩
  rw [wrap64_in (by unfold inR; omega), show ((k : Int) - 1) = ((k - 1 : Nat) : Int) by omega, idx_nat]
  exact List.getElem?_eq_getElem (by omega)
theorem gb_none {α β : Type} [Inhabited α] (g : Bool) (o : Option α) (k : α → Option β) (h : g = false) : gb g o k = k default := by subst h; rfl
theorem gb_yes {α β : Type} [Inhabited α] (g : Bool) (o : Option α) (k : α → Option β) (h : g = true) : gb g o k = o.bind k := by subst h; rfl
def partsOk (l : List ByteArray) : Bool := l.all fun p => decide (1 ≤ (p.size : Int) ∧ (p.size : Int) ≤ 10)
theorem parts_loop {β : Type} {l : List ByteArray} {f : Int → Option (Int ⊕ β)} {no yes : Option β} (hl : l.length ≤ 9223372036854775807)
    (hf : ∀ (k : Nat) (p : ByteArray), l[k]? = some p → f (k : Int) = if decide (1 ≤ (p.size : Int) ∧ (p.size : Int) ≤ 10) then some (.inl (IntKind.wrap .i64 ((k : Int) + 1))) else no.map .inr) (hn : f (l.length : Int) = yes.map .inr) :
    whileP f 0 = if partsOk l then yes else no := by
  rw [whileP_all (n := l.length) (fun k => (l[k]?).all fun p => decide (1 ≤ (p.size : Int) ∧ (p.size : Int) ≤ 10)) no yes ?_ hn, all_range_get]
  · rfl
  · intro k hk
    have h := hf k l[k] (List.getElem?_eq_getElem hk)
    rw [h, List.getElem?_eq_getElem hk, wrap_succ (by omega)]
    rfl
theorem sidx_lt {s : ByteArray} {k : Nat} (h : k < s.size) : ∃ n, sidx s (k : Int) = some n ∧ 0 ≤ n ∧ n < 256 := by
  refine ⟨((s[k]'h).toNat : Int), ?_, by omega, by have := (s[k]'h).toNat_lt; omega⟩
  unfold sidx
  rw [dif_pos ⟨by omega, by simpa using h⟩]
  simp
/-- A check of each element. -/
theorem each_loop {β γ : Type} {l : List γ} {p : γ → Bool} {no yes : Option β} {f : Int → Option (Int ⊕ β)} (hl : l.length ≤ 9223372036854775807)
    (hf : ∀ (k : Nat) (x : γ), l[k]? = some x → f (k : Int) = if p x then some (.inl (IntKind.wrap .i64 ((k : Int) + 1))) else no.map .inr) (hn : f (l.length : Int) = yes.map .inr) :
    whileP f 0 = if l.all p then yes else no := by
  rw [whileP_all (n := l.length) (fun k => (l[k]?).all p) no yes ?_ hn, all_range_get]
  intro k hk
  rw [hf k l[k] (List.getElem?_eq_getElem hk), List.getElem?_eq_getElem hk, wrap_succ (by omega)]
  rfl
theorem bds_set_le {τ δ : Type} [GT τ δ] [Bk τ] [Bd τ] (l : List δ) (k : Nat) (y : δ) : bds τ (l.set k y) ≤ bds τ l + Bd.bd (τ := τ) y := by
  induction l generalizing k with
  | nil => simp [bds]
  | cons x xs ih =>
    cases k with
    | zero => simp only [List.set_cons_zero, bds]; omega
    | succ k => simp only [List.set_cons_succ, bds]; have := ih k; omega
theorem bds_append {τ δ : Type} [GT τ δ] [Bk τ] [Bd τ] (xs ys : List δ) : bds τ (xs ++ ys) = bds τ xs + bds τ ys := by
  induction xs with
  | nil => simp [bds]
  | cons x xs ih => simp only [List.cons_append, bds, ih]; omega
theorem bds_mem {τ δ : Type} [GT τ δ] [Bk τ] [Bd τ] {l : List δ} {x : δ} (h : x ∈ l) : Bd.bd (τ := τ) x ≤ bds τ l := by
  induction l with
  | nil => cases h
  | cons y ys ih =>
    rcases List.mem_cons.1 h with rfl | h
    · simp only [bds]; omega
    · have := ih h; simp only [bds]; omega
theorem bds_filter {τ δ : Type} [GT τ δ] [Bk τ] [Bd τ] (p : δ → Bool) (l : List δ) : bds τ (l.filter p) ≤ bds τ l := by
  induction l with
  | nil => simp [bds]
  | cons x xs ih =>
    rw [List.filter_cons]
    split
    · simp only [bds]; omega
    · simp only [bds]; omega
theorem bds_int (xs : List Int) : bds Int xs = 0 := by
  induction xs with
  | nil => rfl
  | cons x xs ih => simp only [bds, ih]; rfl
theorem bd_ints (xs : List Int) : Bd.bd (τ := TL Int) xs = xs.length := by
  show xs.length + bds Int xs = _
  rw [bds_int]; rfl
end Go.Proofs.SL
