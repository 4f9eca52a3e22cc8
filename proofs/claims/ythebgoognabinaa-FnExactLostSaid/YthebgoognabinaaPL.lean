/- Uploads: what is added, taken out, copied. -/
import Derived.Test.YthebgoognabinaaPO
import Derived.Test.YthebgoognabinaaPUa
namespace Go.Proofs.SL
open Go
theorem firstI_any {α : Type} (p : α → Bool) (l : List α) : decide (0 ≤ firstI p l) = l.any p := by
  rcases firstI_find p l with ⟨h1, h2⟩ | ⟨k, x, h1, h2, h3, _⟩
  · rw [h1]
    cases h : l.any p with
    | false => rfl
    | true =>
      obtain ⟨x, hx, hp⟩ := List.any_eq_true.1 h
      exact absurd hp (List.find?_eq_none.1 h2 x hx)
  · rw [h1, show decide (0 ≤ (k : Int)) = true by simp]
    symm
    exact List.any_eq_true.2 ⟨x, List.mem_of_getElem? h2, List.find?_some h3⟩
theorem l18Has_eq {l : List Int} {n : Int} (h : l.length ≤ 9223372036854775807) : s_l18Has l n = some (l.any fun x => decide (x = n)) := by
  unfold s_l18Has
  rw [whileP_find (fun x => decide (x = n)) (fun i => some (decide (0 ≤ i))) h, firstI_any]
  · intro k x hx
    simp only [lt_dec (List.getElem?_eq_some_iff.1 hx).1, cond_true, idx_nat, hx, Option.bind_some]
    cases decide (x = n) <;> simp
  · simp only [ge_dec]; rfl
theorem contains_eq {l : List Int} {n : Int} (h : l.length ≤ 9223372036854775807) : sl_Contains_intint l n = some (l.any fun x => decide (x = n)) := by
  unfold sl_Contains_intint sl_Index_intint
  rw [whileP_find (fun x => decide (x = n)) some h]
  · rw [Option.bind_some, firstI_any]
  · intro k x hx
    simp only [lt_dec (List.getElem?_eq_some_iff.1 hx).1, cond_true, idx_nat, hx, Option.bind_some, eq_comm (a := n)]
    cases decide (x = n) <;> rfl
  · simp only [ge_dec]; rfl
theorem foldl_filter' {β : Type} (p : β → Bool) : ∀ (xs acc : List β), xs.foldl (fun t x => if p x then t ++ [x] else t) acc = acc ++ xs.filter p
  | [], acc => by simp
  | x :: xs, acc => by
    rw [List.foldl_cons]
    cases hp : p x with
    | true => simp only [if_true]; rw [foldl_filter' p xs]; simp [hp]
    | false => simp only [Bool.false_eq_true, if_false]; rw [foldl_filter' p xs]; simp [hp]
/-- The nodes that have it, and one more, or one less. -/
def withL (l : List Int) (n : Int) (b : Bool) : List Int := [0, 1, 2].filter fun k => (decide (k = n) && b) || (!decide (k = n) && l.any fun x => decide (x = k))
theorem l18With_eq {l : List Int} {n : Int} {b : Bool} (h : l.length ≤ 9223372036854775807) : s_l18With l n b = some (withL l n b) := by
  unfold s_l18With
  simp only [Option.bind_some]
  rw [whileP_for (l := [0, 1, 2]) (fun k (t : List Int) => (t, (k : Int))) (fun t x => .inl (if ((decide (x = n) && b) || (!decide (x = n) && l.any fun y => decide (y = x))) then t ++ [x] else t)) (fun t => some t) (fun k t => t.length ≤ k) [] (s0 := ([], 0)) rfl (Nat.le_refl _), goE_fold, foldl_filter']
  · rfl
  · intro k t x hx hI
    have hk : k < 3 ∧ x = (k : Int) := by
      match k, hx with
      | 0, hx => cases hx; simp
      | 1, hx => cases hx; simp
      | 2, hx => cases hx; simp
    obtain ⟨hk, rfl⟩ := hk
    refine .inl ⟨_, rfl, ?_, ?_⟩
    · simp only [show decide ((k : Int) < 3) = true by simp; omega, cond_true, l18Has_eq h, wrap_succ (show k < 9223372036854775807 by omega)]
      rw [appP_ok (by simp; omega)]
      cases decide ((k : Int) = n) <;> cases b <;> cases (l.any fun y => decide (y = (k : Int))) <;> rfl
    · split
      · simp; omega
      · omega
  · intro t ht
    rfl
theorem s_l18Copy_eq {d : D_Ups} (h1 : d.2.length ≤ 1000) (h2 : ∀ s, s ∈ d.2 → s.2.1.length ≤ 1000) : s_l18Copy d = some d := by
  obtain ⟨a, l⟩ := d
  unfold s_l18Copy
  rw [whileP_for (l := l) (fun k (t : List D_Up) => ((k : Int), t)) (fun t x => .inl (t ++ [x])) (fun t => some (a, t)) (fun k t => t.length = k) [] (s0 := (0, [])) rfl rfl, goE_app]
  · rfl
  · intro k t x hx ht
    have hlt := (List.getElem?_eq_some_iff.1 hx).1
    have hm := h2 x (List.mem_of_getElem? hx)
    dsimp only at h1 hm ht
    refine .inl ⟨t ++ [x], rfl, ?_, by simp [ht]⟩
    simp only [lt_dec hlt, cond_true, idx_nat, hx, Option.bind_some, appP_ok (a := ([] : List Int)) (b := x.2.1) (by simp; omega), List.nil_append, wrap_succ (show k < 9223372036854775807 by omega)]
    rw [appP_ok (by simp; omega)]; rfl
  · intro t ht
    simp
theorem i_copyUps_eq {d : D_Ups} (h1 : d.2.length ≤ 1000) (h2 : ∀ s, s ∈ d.2 → s.2.1.length ≤ 1000) : i_copyUps d = some d := by
  obtain ⟨a, l⟩ := d
  unfold i_copyUps
  rw [whileP_for (l := l) (fun k (t : List D_Up) => ((k : Int), t)) (fun t x => .inl (t ++ [x])) (fun t => some (a, t)) (fun k t => t.length = k) [] (s0 := (0, [])) rfl rfl, goE_app]
  · rfl
  · intro k t x hx ht
    have hlt := (List.getElem?_eq_some_iff.1 hx).1
    have hm := h2 x (List.mem_of_getElem? hx)
    dsimp only at h1 hm ht
    refine .inl ⟨t ++ [x], rfl, ?_, by simp [ht]⟩
    simp only [lt_dec hlt, cond_true, idx_nat, hx, Option.bind_some, appP_ok (a := ([] : List Int)) (b := x.2.1) (by simp; omega), List.nil_append, wrap_succ (show k < 9223372036854775807 by omega)]
    rw [appP_ok (by simp; omega)]; rfl
  · intro t ht
    simp
/-- What right uploads hold. -/
theorem nodesOk_facts {ns : List Int} (h : nodesOk ns = true) : (∀ n, n ∈ ns → 0 ≤ n ∧ n < 3) ∧ ns.Pairwise (· < ·) := by
  unfold nodesOk at h
  simp only [List.all_eq_true, List.mem_range] at h
  have h1 : ∀ n, n ∈ ns → 0 ≤ n ∧ n < 3 := fun n hn => by
    obtain ⟨k, hk⟩ := List.getElem?_of_mem hn
    have := h k (List.getElem?_eq_some_iff.1 hk).1
    unfold nodeOk at this
    rw [hk] at this
    simp only [Bool.and_eq_true, decide_eq_true_eq] at this
    exact this.1
  refine ⟨h1, pairwise_of_step (R := (· < ·)) (fun a b c => Int.lt_trans) ns fun k hk => ?_⟩
  have := h (k + 1) hk
  unfold nodeOk at this
  rw [List.getElem?_eq_getElem hk] at this
  simp only [Bool.and_eq_true, decide_eq_true_eq, Bool.or_eq_true, Nat.add_sub_cancel, List.getElem?_eq_getElem (show k < ns.length by omega), Option.all_some] at this
  rcases this.2 with h2 | h2
  · omega
  · exact h2
theorem sorted_le : ∀ {l : List Int} {a b : Int}, l.Pairwise (· < ·) → (∀ n, n ∈ l → a ≤ n ∧ n < b) → (l.length : Int) ≤ max 0 (b - a)
  | [], a, b, _, _ => by simp; omega
  | x :: l, a, b, h1, h2 => by
    obtain ⟨h3, h4⟩ := List.pairwise_cons.1 h1
    have hx := h2 x (List.mem_cons_self ..)
    have := sorted_le (a := x + 1) (b := b) h4 (fun n hn => ⟨by have := h3 n hn; omega, (h2 n (List.mem_cons_of_mem _ hn)).2⟩)
    simp only [List.length_cons]
    omega
theorem nodes_le {l : List Int} (h1 : ∀ n, n ∈ l → 0 ≤ n ∧ n < 3) (h2 : l.Pairwise (· < ·)) : l.length ≤ 3 := by
  have := sorted_le h2 h1
  omega
theorem upsOk_facts {d : D_Ups} (h : upsOkB d = true) : (0 ≤ d.1 ∧ d.1 ≤ 1000) ∧ d.2.length ≤ 20 ∧ (∀ x, x ∈ d.2 → x.1.size = 8 ∧ x.2.1.length ≠ 0 ∧ (0 ≤ x.2.2 ∧ x.2.2 ≤ d.1) ∧ nodesOk x.2.1 = true) ∧ d.2.Pairwise (fun a b => sLt a.1 b.1 = true) := by
  unfold upsOkB at h
  simp only [Bool.and_eq_true, decide_eq_true_eq, List.all_eq_true, List.mem_range] at h
  refine ⟨h.1.1, h.1.2, fun x hx => ?_, pairwise_of_step (R := fun a b : D_Up => sLt a.1 b.1 = true) (fun a b c => sLt_trans) d.2 fun k hk => ?_⟩
  · obtain ⟨k, hk⟩ := List.getElem?_of_mem hx
    have := h.2 k (List.getElem?_eq_some_iff.1 hk).1
    unfold upOk at this
    rw [hk] at this
    simp only [Bool.and_eq_true, decide_eq_true_eq, Bool.not_eq_true', decide_eq_false_iff_not] at this
    exact ⟨by omega, by omega, this.1.2, this.2⟩
  · have := h.2 (k + 1) hk
    unfold upOk at this
    rw [List.getElem?_eq_getElem hk] at this
    simp only [Bool.and_eq_true, decide_eq_true_eq, Bool.or_eq_true, Nat.add_sub_cancel, List.getElem?_eq_getElem (show k < d.2.length by omega), Option.all_some] at this
    rcases this.1.1.1.2 with h2 | h2
    · omega
    · exact h2
end Go.Proofs.SL
