/- What UpLost and UpAck compute. -/
import Derived.Test.YthebgoognabinaaGreatPL2

namespace Go.Proofs.SL
open Go
theorem sorted_ext : ∀ {l m : List Int}, l.Pairwise (· < ·) → m.Pairwise (· < ·) → (∀ x, x ∈ l ↔ x ∈ m) → l = m
  | [], [], _, _, _ => rfl
  | [], b :: m, _, _, h => absurd ((h b).2 (List.mem_cons_self ..)) (by simp)
  | a :: l, [], _, _, h => absurd ((h a).1 (List.mem_cons_self ..)) (by simp)
  | a :: l, b :: m, h1, h2, h => by
    obtain ⟨h3, h4⟩ := List.pairwise_cons.1 h1
    obtain ⟨h5, h6⟩ := List.pairwise_cons.1 h2
    have hab : a = b := by
      rcases List.mem_cons.1 ((h a).1 (List.mem_cons_self ..)) with e | e
      · exact e
      · rcases List.mem_cons.1 ((h b).2 (List.mem_cons_self ..)) with e2 | e2
        · exact e2.symm
        · have := h5 a e; have := h3 b e2; omega
    subst hab
    rw [sorted_ext h4 h6 fun x => ⟨fun hx => ?_, fun hx => ?_⟩]
    · rcases List.mem_cons.1 ((h x).1 (List.mem_cons_of_mem _ hx)) with e | e
      · have := h3 x hx; omega
      · exact e
    · rcases List.mem_cons.1 ((h x).2 (List.mem_cons_of_mem _ hx)) with e | e
      · have := h5 x hx; omega
      · exact e
theorem any_mem {l : List Int} {n : Int} : (l.any fun x => decide (x = n)) = true ↔ n ∈ l := by
  simp [List.any_eq_true]
theorem withL_sorted (l : List Int) (n : Int) (b : Bool) : (withL l n b).Pairwise (· < ·) := by
  unfold withL
  refine List.Pairwise.filter _ ?_
  simp
theorem mem_withL {l : List Int} {n x : Int} {b : Bool} : x ∈ withL l n b ↔ (0 ≤ x ∧ x < 3) ∧ ((x = n ∧ b = true) ∨ (x ≠ n ∧ x ∈ l)) := by
  unfold withL
  rw [List.mem_filter]
  have h3 : x ∈ ([0, 1, 2] : List Int) ↔ (0 ≤ x ∧ x < 3) := by simp; omega
  rw [h3]
  simp only [Bool.or_eq_true, Bool.and_eq_true, decide_eq_true_eq, Bool.not_eq_true', decide_eq_false_iff_not, any_mem]
theorem withL_out {l : List Int} {n : Int} (h1 : ∀ x, x ∈ l → 0 ≤ x ∧ x < 3) (h2 : l.Pairwise (· < ·)) : withL l n false = l.filter fun x => !decide (x = n) := by
  refine sorted_ext (withL_sorted ..) (List.Pairwise.filter _ h2) fun x => ?_
  rw [mem_withL, List.mem_filter]
  simp only [Bool.false_eq_true, and_false, false_or, Bool.not_eq_true', decide_eq_false_iff_not]
  constructor
  · rintro ⟨_, h4, h5⟩; exact ⟨h5, h4⟩
  · rintro ⟨h5, h4⟩; exact ⟨h1 x h5, h4, h5⟩
noncomputable def upLostD (d : D_Ups) (c : ByteArray) (n : Int) : D_Ups × Bool :=
  if upsOkB d then
    match d.2.findIdx? (fun s => decide (s.1 = c)) with
    | none => (d, false)
    | some k => match d.2[k]? with
      | none => (d, false)
      | some x => if x.2.1.any (fun y => decide (y = n)) then
          let ns := x.2.1.filter fun y => !decide (y = n)
          ((d.1, if ns.length = 0 then d.2.eraseIdx k else d.2.set k (x.1, ns, x.2.2)), true)
        else (d, false)
  else ((0, []), false)
end Go.Proofs.SL
