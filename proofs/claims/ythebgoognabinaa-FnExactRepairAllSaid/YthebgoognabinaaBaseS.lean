/- A part of memory that is there unless a flag is set. -/
import Derived.Test.YthebgoognabinaaBaseR
namespace Go.Proofs.SL
open Go
variable {M M1 : List HP} {w0 w : World} {S0 : List Nat}
def condH : Bool → HP → HP
  | true, _ => ⟨[], fun _ => True, fun _ _ _ h => h⟩
  | false, h => h
theorem condH_true {h : HP} (hh : Holds w0 S0 M w) : Holds w0 S0 (condH true h :: M) w := by
  refine hh.reFp (List.Perm.of_eq rfl) fun x hx => ?_
  rcases List.mem_cons.1 hx with rfl | hx
  · trivial
  · exact hh.prs _ hx
theorem cond_in {h : HP} {b : Bool} (p : Pick h M M1) (hh : Holds w0 S0 M w) : Holds w0 S0 (condH b h :: M1) w := by
  cases b with
  | false => exact hh.perm p.perm
  | true => exact condH_true ((hh.perm p.perm).sub ⟨[h], List.perm_append_comm (l₁ := [h])⟩)
theorem cond_out {h : HP} {b : Bool} (p : Pick (condH b h) M M1) (hb : b = false) (hh : Holds w0 S0 M w) : Holds w0 S0 (h :: M1) w := by
  subst hb; exact hh.perm p.perm
theorem bf1 {b : Bool} (h : (!b) = true) : b = false := by simpa using h
theorem bf2 {b c : Bool} (h : (!b && c) = true) : b = false := by cases b <;> simp_all
end Go.Proofs.SL
namespace Go.Proofs.SL
open Go
theorem els_skip {M M1 : List HP} {w0 w : World} {S0 : List Nat} {τ δ : Type} [GT τ δ] {X : TL τ} {i : Int} {u : τ} (hi : 0 ≤ i ∧ X.els[i.toNat]? = some u) (hm : rowH X ∈ M) (p : Pick (elsT (X.els.drop i.toNat)) M M1) (h : Holds w0 S0 M w) :
    Holds w0 S0 (elsT (X.els.drop (IntKind.wrap .i64 (i + 1)).toNat) :: M1) w := by
  have h1 := els_next hi.2 p h
  have h2 : Holds w0 S0 (elsT (X.els.drop (i.toNat + 1)) :: M1) w := h1.sub ⟨[treeH u], List.perm_append_comm (l₁ := [treeH u])⟩
  have hlt := (List.getElem?_eq_some_iff.1 hi.2).1
  obtain ⟨r1, r2, _⟩ := h.prs _ hm
  simp only [maxLen] at r2
  rw [wrap64_in (by unfold inR; omega), show (i + 1).toNat = i.toNat + 1 by omega]
  exact h2
end Go.Proofs.SL
