/- The base of the walks, last part: sizes of data, small lemmas for data that is built. -/
import Derived.Test.YthebgoognabinaaBaseA
namespace Go.Proofs.SL
open Go

variable {Γ : Cx} {l : Envl} {M M' M1 M2 : List HP} {Q : Post} {K : Kont} {w0 w : World} {S0 : List Nat}
variable {rest : List Oper} {d : Nat} {ty : TypeId} {pos : String} {af : Array Edge}

class Bk (τ : Type) where
  bulk : τ → Nat
instance : Bk Int := ⟨fun _ => 0⟩
instance : Bk Bool := ⟨fun _ => 0⟩
instance : Bk UInt8 := ⟨fun _ => 0⟩
instance : Bk ByteArray := ⟨fun s => s.size⟩
instance {α β : Type} [Bk α] [Bk β] : Bk (α × β) := ⟨fun p => Bk.bulk p.1 + Bk.bulk p.2⟩
def bulks {τ : Type} [Bk τ] : List τ → Nat
  | [] => 0
  | x :: xs => Bk.bulk x + bulks xs
instance {τ : Type} [Bk τ] : Bk (TL τ) := ⟨fun L => L.els.length + bulks L.els⟩
theorem bulk_int (n : Int) : Bk.bulk n = 0 := rfl
theorem bulk_bool (n : Bool) : Bk.bulk n = 0 := rfl
theorem bulk_str (s : ByteArray) : Bk.bulk s = s.size := rfl
theorem bulk_pair {α β : Type} [Bk α] [Bk β] (a : α) (b : β) : Bk.bulk (a, b) = Bk.bulk a + Bk.bulk b := rfl
theorem bulk_TL {τ : Type} [Bk τ] (a : Option Addr) (c e : Nat) (x : List τ) (y : List Value) : Bk.bulk (⟨a, c, e, x, y⟩ : TL τ) = x.length + bulks x := rfl
section
variable {τ : Type} [Bk τ]
theorem bulks_append (xs ys : List τ) : bulks (xs ++ ys) = bulks xs + bulks ys := by
  induction xs with
  | nil => simp [bulks]
  | cons x xs ih => simp only [List.cons_append, bulks, ih]; omega
theorem bulks_take_succ {xs : List τ} {k : Nat} {x : τ} (h : xs[k]? = some x) : bulks (xs.take (k + 1)) = bulks (xs.take k) + Bk.bulk x := by
  rw [List.take_add_one, h, bulks_append]; simp [bulks]
theorem bulks_take_le (xs : List τ) (k : Nat) : bulks (xs.take k) ≤ bulks xs := by
  conv => rhs; rw [← List.take_append_drop k xs]
  rw [bulks_append]; omega
theorem bulk_mem {xs : List τ} {x : τ} (h : x ∈ xs) : Bk.bulk x ≤ bulks xs := by
  induction xs with
  | nil => cases h
  | cons y ys ih =>
    rcases List.mem_cons.1 h with rfl | h
    · simp only [bulks]; omega
    · have := ih h; simp only [bulks]; omega
end

theorem dat_int (n : Int) : GT.dat n = n := rfl
theorem dat_bool (n : Bool) : GT.dat n = n := rfl
theorem dat_str (s : ByteArray) : GT.dat s = s := rfl
theorem dat_pair {α β δ ε : Type} [GT α δ] [GT β ε] (a : α) (b : β) : GT.dat (a, b) = (GT.dat a, GT.dat b) := rfl
theorem dat_TL {τ δ : Type} [GT τ δ] (a : Option Addr) (c e : Nat) (x : List τ) (y : List Value) : GT.dat (⟨a, c, e, x, y⟩ : TL τ) = x.map GT.dat := rfl

theorem tree_snd {α β δ ε : Type} [GT α δ] [GT β ε] {a : α} {b : β} (hf : Flat a) (h : Holds w0 S0 (treeH b :: M) w) : Holds w0 S0 (treeH (a, b) :: M) w := pair_tree (h.addFlat hf)
theorem frontPick {x : HP} (p : Pick x M M') (h : Holds w0 S0 M w) : Holds w0 S0 (x :: M') w := h.perm p.perm
theorem pairPick {α β δ ε : Type} [GT α δ] [GT β ε] {a : α} {b : β} (p : Pick (treeH a) M M') (h : Holds w0 S0 (treeH b :: M) w) : Holds w0 S0 (treeH (a, b) :: M') w :=
  pair_tree (h.perm ((p.perm.cons _).trans (List.Perm.swap _ _ _)))

section
variable {τ δ : Type} [GT τ δ]
/-- A whole element that owns nothing. -/
theorem L_storeElV {p y : Operand} {T g i Lc n : Nat} {Lx : List τ} {Lt : List Value} {Le : TypeId} {v : Value} {x : τ} (x' : τ) (hp0 : ev l p = some (.pointer (some ⟨g, 0 + i * n, none⟩))) (hy : ev l y = some v)
    (hp : Pick (treeH (⟨some ⟨g, 0, none⟩, Lc, Le, Lx, Lt⟩ : TL τ)) M M1) (hn : GT.sz τ = n) (hi : Lx[i]? = some x) (hv : v.cells.toList = GT.cells x') (hf : Flat x')
    (hT : aggOf Γ.P T = some n ∨ (oneOf Γ.P T = true ∧ n = 1)) (hk : L Γ rest l (treeH (⟨some ⟨g, 0, none⟩, Lc, Le, Lx.set i x', Lt⟩ : TL τ) :: M1) K) :
    L Γ ({ dst := none, op := .store T p y, type := ty, pos, after := af, guard := none } :: rest) l M K :=
  L_conv (M' := treeH x' :: M) (fun _ h => h.addFlat hf) (L_storeEl x' hp0 hy (Pick.there _ hp) hn hi hv (Pick.here _) hT hk)
end

theorem set_take {α : Type} {xs : List α} {k : Nat} {x : α} (h : k < xs.length) : (xs.set k x).take (k + 1) = xs.take k ++ [x] := by
  rw [List.set_eq_take_append_cons_drop, if_pos h, List.take_append, List.length_take, Nat.min_eq_left (Nat.le_of_lt h), List.take_of_length_le (by rw [List.length_take]; omega), show k + 1 - k = 1 by omega]
  rfl
theorem set_eq_set {α : Type} {xs : List α} {k : Nat} {x y : α} : (xs.set k x).set k y = xs.set k y := by simp

/-- Copied element by element. -/
theorem map_take_set {α β γ : Type} (f : α → γ) (g : β → γ) {xs : List α} {ys : List β} {k : Nat} {x : α} {y : β} (h : (xs.take k).map f = (ys.take k).map g) (hk : k < xs.length) (hy : ys[k]? = some y) (e : f x = g y) :
    ((xs.set k x).take (k + 1)).map f = (ys.take (k + 1)).map g := by
  rw [set_take hk, List.take_add_one, hy, List.map_append, List.map_append, h]; simp [e]

/-- Equality as a Bool. -/
noncomputable def eqB {α : Type} (a b : α) : Bool := @decide (a = b) (Classical.propDecidable _)
@[simp] theorem eqB_true {α : Type} {a b : α} : eqB a b = true ↔ a = b := by unfold eqB; exact @decide_eq_true_iff _ (Classical.propDecidable _)
@[simp] theorem eqB_false {α : Type} {a b : α} : eqB a b = false ↔ ¬ a = b := by unfold eqB; exact @decide_eq_false_iff_not _ (Classical.propDecidable _)
end Go.Proofs.SL
