/- Sizes of data, for the marks' bounds. -/
import Derived.Test.YtkfdcccpphhofaaPS
namespace Go.Proofs.SL
open Go
theorem bds_set_le {τ δ : Type} [GT τ δ] [Bk τ] [Bd τ] (l : List δ) (k : Nat) (y : δ) : bds τ (l.set k y) ≤ bds τ l + Bd.bd (τ := τ) y := by
  induction l generalizing k with
  | nil => simp [bds]
  | cons x xs ih =>
    cases k with
    | zero => simp only [List.set_cons_zero, bds]; omega
    | succ k => simp only [List.set_cons_succ, bds]; have := ih k; omega
theorem bds_append {τ δ : Type} [GT τ δ] [Bk τ] [Bd τ] (xs ys : List δ) : bds τ (xs ++ ys) = bds τ xs + bds τ ys := by
  induction xs with
  | nil => simp [bds]
  | cons x xs ih => simp only [List.cons_append, bds, ih]; omega
theorem bds_mem {τ δ : Type} [GT τ δ] [Bk τ] [Bd τ] {l : List δ} {x : δ} (h : x ∈ l) : Bd.bd (τ := τ) x ≤ bds τ l := by
  induction l with
  | nil => cases h
  | cons y ys ih =>
    rcases List.mem_cons.1 h with rfl | h
    · simp only [bds]; omega
    · have := ih h; simp only [bds]; omega
theorem bd_desks (d : D_Desks) : Bd.bd (τ := T_Desks) d = d.2.2.length + bds T_Sess d.2.2 := by
  show 0 + (0 + (d.2.2.length + bds T_Sess d.2.2)) = _
  omega
theorem bd_sess (s : D_Sess) : Bd.bd (τ := T_Sess) s = s.2.2.2.length + bds ByteArray s.2.2.2 := by
  show 0 + (0 + (0 + (s.2.2.2.length + bds ByteArray s.2.2.2))) = _
  omega

theorem bds_filter {τ δ : Type} [GT τ δ] [Bk τ] [Bd τ] (p : δ → Bool) (l : List δ) : bds τ (l.filter p) ≤ bds τ l := by
  induction l with
  | nil => simp [bds]
  | cons x xs ih =>
    rw [List.filter_cons]
    split
    · simp only [bds]; omega
    · simp only [bds]; omega
theorem bds_int (xs : List Int) : bds Int xs = 0 := by
  induction xs with
  | nil => rfl
  | cons x xs ih => simp only [bds, ih]; rfl
theorem bd_ints (xs : List Int) : Bd.bd (τ := TL Int) xs = xs.length := by
  show xs.length + bds Int xs = _
  rw [bds_int]; rfl
end Go.Proofs.SL
