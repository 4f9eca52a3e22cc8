/- Loops that end in one value; draws out of lists. -/
import Derived.Test.YtimkhmokohidlaaPD1
namespace Go.Proofs.SL
open Go
theorem whileP_is {σ α : Type} {f : σ → Option (σ ⊕ α)} {r : α} {s : σ} (I : σ → Prop) (μ : σ → Nat) (h : ∀ s, I s → (∃ s', f s = some (.inl s') ∧ I s' ∧ μ s' < μ s) ∨ f s = some (.inr r)) (hs : I s) : whileP f s = some r := by
  obtain ⟨a, ha, rfl⟩ := whileP_rule I μ (· = r) (fun s hs => (h s hs).imp id fun h => ⟨r, h, rfl⟩) s hs
  exact ha
theorem pickint_ok {d : D_l1Cur} (h : CurOk d) {l : List Int} (hl : 0 < l.length) : ∃ x d', s_l1PickInt d l = some (x, d') ∧ x ∈ l ∧ CurOk d' := by
  unfold s_l1PickInt
  simp only [Prod.eta]
  obtain ⟨y, d1, e1, g1, c1⟩ := below_ok h (l.length : Int)
  rw [e1, Option.bind_some]
  dsimp only
  obtain ⟨k, rfl⟩ := Int.eq_ofNat_of_zero_le g1.1
  have hk : k < l.length := by have := g1.2.1 (by omega); omega
  rw [idx_nat, List.getElem?_eq_getElem hk, Option.bind_some]
  exact ⟨_, _, rfl, List.getElem_mem hk, c1⟩
theorem at_ok {l : List UInt8} {i : Int} (h : l.length ≤ 1048576) (h0 : 0 ≤ i) (h1 : i ≤ 1000) : ∃ x, w_at l i = some x ∧ 0 ≤ x := by
  unfold w_at
  obtain ⟨k, rfl⟩ := Int.eq_ofNat_of_zero_le h0
  by_cases hi : (k : Int) < (l.length : Int)
  · have hk : l[k]? = some (l[k]'(by omega)) := List.getElem?_eq_getElem _
    rw [decide_eq_true hi, cond_true, idx_nat, hk]
    refine ⟨_, rfl, ?_⟩
    have := (l[k]'(by omega)).toNat_lt
    rw [wrap64_in (by unfold inR; omega)]; omega
  · rw [decide_eq_false hi, cond_false]
    refine ⟨_, rfl, (tmod_lt ?_ (by omega)).1⟩
    rw [wrap64_in (n := (k : Int) * 37) (by unfold inR; omega), wrap64_in (n := (l.length : Int) * 11) (by unfold inR; omega), wrap64_in (by unfold inR; omega)]
    omega
end Go.Proofs.SL
