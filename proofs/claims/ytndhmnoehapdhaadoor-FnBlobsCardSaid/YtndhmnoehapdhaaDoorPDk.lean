/- Loops that end in one value; draws out of lists, with the cursor's tape kept. -/
import Derived.Test.YtndhmnoehapdhaaDoorPD0
import Derived.Test.YtndhmnoehapdhaaDoorWBl
namespace Go.Proofs.SL
open Go
theorem whileP_is {σ α : Type} {f : σ → Option (σ ⊕ α)} {r : α} {s : σ} (I : σ → Prop) (μ : σ → Nat) (h : ∀ s, I s → (∃ s', f s = some (.inl s') ∧ I s' ∧ μ s' < μ s) ∨ f s = some (.inr r)) (hs : I s) : whileP f s = some r := by
  obtain ⟨a, ha, rfl⟩ := whileP_rule I μ (· = r) (fun s hs => (h s hs).imp id fun h => ⟨r, h, rfl⟩) s hs
  exact ha
theorem once_ok' {d : D_l1Cur} (h : CurOk d) (n : Int) : ∃ x d', s_l1Once d n = some (x, d') ∧ CurOk d' ∧ d'.1 = d.1 := by
  unfold s_l1Once
  simp only [Prod.eta]
  obtain ⟨x, d', e, _, c, f⟩ := below_ok' h n
  rw [e]
  exact ⟨_, d', rfl, c, f⟩
theorem pickint_ok' {d : D_l1Cur} (h : CurOk d) {l : List Int} (hl : 0 < l.length) : ∃ x d', s_l1PickInt d l = some (x, d') ∧ x ∈ l ∧ CurOk d' ∧ d'.1 = d.1 := by
  unfold s_l1PickInt
  simp only [Prod.eta]
  obtain ⟨y, d1, e1, g1, c1, f1⟩ := below_ok' h (l.length : Int)
  rw [e1, Option.bind_some]
  dsimp only
  obtain ⟨k, rfl⟩ := Int.eq_ofNat_of_zero_le g1.1
  have hk : k < l.length := by have := g1.2.1 (by omega); omega
  rw [idx_nat, List.getElem?_eq_getElem hk, Option.bind_some]
  exact ⟨_, _, rfl, List.getElem_mem hk, c1, f1⟩
theorem pick_ok' {d : D_l1Cur} (h : CurOk d) {l : List ByteArray} (hl : 0 < l.length) : ∃ x d', s_l1Pick d l = some (x, d') ∧ x ∈ l ∧ CurOk d' ∧ d'.1 = d.1 := by
  unfold s_l1Pick
  simp only [Prod.eta]
  obtain ⟨y, d1, e1, g1, c1, f1⟩ := below_ok' h (l.length : Int)
  rw [e1, Option.bind_some]
  dsimp only
  obtain ⟨k, rfl⟩ := Int.eq_ofNat_of_zero_le g1.1
  have hk : k < l.length := by have := g1.2.1 (by omega); omega
  rw [idx_nat, List.getElem?_eq_getElem hk, Option.bind_some]
  exact ⟨_, _, rfl, List.getElem_mem hk, c1, f1⟩
end Go.Proofs.SL
