/- Uploads: what is added, taken out, copied. -/
import Derived.Test.YthebgoognabinaaGreatPO
import Derived.Test.YthebgoognabinaaGreatPUa
namespace Go.Proofs.SL
open Go
theorem l18Has_eq {l : List Int} {n : Int} (h : l.length ≤ 9223372036854775807) : s_l18Has l n = some (l.any fun x => decide (x = n)) := by
  unfold s_l18Has
  rw [whileP_find (fun x => decide (x = n)) (fun i => some (decide (0 ≤ i))) h, firstI_any]
  · intro k x hx
    simp only [lt_dec (List.getElem?_eq_some_iff.1 hx).1, cond_true, idx_nat, hx, Option.bind_some]
    cases decide (x = n) <;> simp
  · simp only [ge_dec]; rfl
theorem contains_eq {l : List Int} {n : Int} (h : l.length ≤ 9223372036854775807) : sl_Contains_intint l n = some (l.any fun x => decide (x = n)) := by
  unfold sl_Contains_intint sl_Index_intint
  rw [whileP_find (fun x => decide (x = n)) some h]
  · rw [Option.bind_some, firstI_any]
  · intro k x hx
    simp only [lt_dec (List.getElem?_eq_some_iff.1 hx).1, cond_true, idx_nat, hx, Option.bind_some, eq_comm (a := n)]
    cases decide (x = n) <;> rfl
  · simp only [ge_dec]; rfl
/-- The nodes that have it, and one more, or one less. -/
def withL (l : List Int) (n : Int) (b : Bool) : List Int := [0, 1, 2].filter fun k => (decide (k = n) && b) || (!decide (k = n) && l.any fun x => decide (x = k))
theorem upsOk_facts {d : D_Ups} (h : upsOkB d = true) : (0 ≤ d.1 ∧ d.1 ≤ 1000) ∧ d.2.length ≤ 20 ∧ (∀ x, x ∈ d.2 → x.1.size = 8 ∧ x.2.1.length ≠ 0 ∧ (0 ≤ x.2.2 ∧ x.2.2 ≤ d.1) ∧ nodesOk x.2.1 = true) ∧ d.2.Pairwise (fun a b => sLt a.1 b.1 = true) := by
  unfold upsOkB at h
  simp only [Bool.and_eq_true, decide_eq_true_eq, List.all_eq_true, List.mem_range] at h
  refine ⟨h.1.1, h.1.2, fun x hx => ?_, pairwise_of_step (R := fun a b : D_Up => sLt a.1 b.1 = true) (fun a b c => sLt_trans) d.2 fun k hk => ?_⟩
  · obtain ⟨k, hk⟩ := List.getElem?_of_mem hx
    have := h.2 k (List.getElem?_eq_some_iff.1 hk).1
    unfold upOk at this
    rw [hk] at this
    simp only [Bool.and_eq_true, decide_eq_true_eq, Bool.not_eq_true', decide_eq_false_iff_not] at this
    exact ⟨by omega, by omega, this.1.2, this.2⟩
  · have := h.2 (k + 1) hk
    unfold upOk at this
    rw [List.getElem?_eq_getElem hk] at this
    simp only [Bool.and_eq_true, decide_eq_true_eq, Bool.or_eq_true, Nat.add_sub_cancel, List.getElem?_eq_getElem (show k < d.2.length by omega), Option.all_some] at this
    rcases this.1.1.1.2 with h2 | h2
    · omega
    · exact h2
end Go.Proofs.SL
