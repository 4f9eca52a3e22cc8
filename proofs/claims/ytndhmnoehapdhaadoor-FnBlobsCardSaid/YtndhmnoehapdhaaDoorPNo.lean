/- Lists of nodes. -/
import Derived.Test.YtndhmnoehapdhaaDoorP0
import Derived.Test.YtndhmnoehapdhaaDoorPO
namespace Go.Proofs.SL
open Go
def nodeOk (ns : List Int) (k : Nat) : Bool := match ns[k]? with
  | none => false
  | some n => decide (0 ≤ n ∧ n < 3) && (decide (k = 0) || (ns[k - 1]?).all fun r => decide (r < n))
def nodesOk (ns : List Int) : Bool := (List.range ns.length).all (nodeOk ns)
theorem firstI_any {α : Type} (p : α → Bool) (l : List α) : decide (0 ≤ firstI p l) = l.any p := by
  rcases firstI_find p l with ⟨h1, h2⟩ | ⟨k, x, h1, h2, h3, _⟩
  · rw [h1]
    cases h : l.any p with
    | false => rfl
    | true =>
      obtain ⟨x, hx, hp⟩ := List.any_eq_true.1 h
      exact absurd hp (List.find?_eq_none.1 h2 x hx)
  · rw [h1, show decide (0 ≤ (k : Int)) = true by simp]
    symm
    exact List.any_eq_true.2 ⟨x, List.mem_of_getElem? h2, List.find?_some h3⟩
theorem foldl_filter' {β : Type} (p : β → Bool) : ∀ (xs acc : List β), xs.foldl (fun t x => if p x then t ++ [x] else t) acc = acc ++ xs.filter p
  | [], acc => by simp
  | x :: xs, acc => by
    rw [List.foldl_cons]
    cases hp : p x with
    | true => simp only [if_true]; rw [foldl_filter' p xs]; simp [hp]
    | false => simp only [Bool.false_eq_true, if_false]; rw [foldl_filter' p xs]; simp [hp]
/-- What right uploads hold. -/
theorem nodesOk_facts {ns : List Int} (h : nodesOk ns = true) : (∀ n, n ∈ ns → 0 ≤ n ∧ n < 3) ∧ ns.Pairwise (· < ·) := by
  unfold nodesOk at h
  simp only [List.all_eq_true, List.mem_range] at h
  have h1 : ∀ n, n ∈ ns → 0 ≤ n ∧ n < 3 := fun n hn => by
    obtain ⟨k, hk⟩ := List.getElem?_of_mem hn
    have := h k (List.getElem?_eq_some_iff.1 hk).1
    unfold nodeOk at this
    rw [hk] at this
    simp only [Bool.and_eq_true, decide_eq_true_eq] at this
    exact this.1
  refine ⟨h1, pairwise_of_step (R := (· < ·)) (fun a b c => Int.lt_trans) ns fun k hk => ?_⟩
  have := h (k + 1) hk
  unfold nodeOk at this
  rw [List.getElem?_eq_getElem hk] at this
  simp only [Bool.and_eq_true, decide_eq_true_eq, Bool.or_eq_true, Nat.add_sub_cancel, List.getElem?_eq_getElem (show k < ns.length by omega), Option.all_some] at this
  rcases this.2 with h2 | h2
  · omega
  · exact h2
theorem sorted_le : ∀ {l : List Int} {a b : Int}, l.Pairwise (· < ·) → (∀ n, n ∈ l → a ≤ n ∧ n < b) → (l.length : Int) ≤ max 0 (b - a)
  | [], a, b, _, _ => by simp; omega
  | x :: l, a, b, h1, h2 => by
    obtain ⟨h3, h4⟩ := List.pairwise_cons.1 h1
    have hx := h2 x (List.mem_cons_self ..)
    have := sorted_le (a := x + 1) (b := b) h4 (fun n hn => ⟨by have := h3 n hn; omega, (h2 n (List.mem_cons_of_mem _ hn)).2⟩)
    simp only [List.length_cons]
    omega
theorem nodes_le {l : List Int} (h1 : ∀ n, n ∈ l → 0 ≤ n ∧ n < 3) (h2 : l.Pairwise (· < ·)) : l.length ≤ 3 := by
  have := sorted_le h2 h1
  omega
end Go.Proofs.SL
