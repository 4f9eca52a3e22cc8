/- What RepairAll computes. -/
import Derived.Test.YthebgoognabinaaPL3
import Derived.Test.YthebgoognabinaaWR
namespace Go.Proofs.SL
open Go
theorem sortI_with {l : List Int} {n : Int} (h1 : ∀ x, x ∈ l → 0 ≤ x ∧ x < 3) (h2 : l.Pairwise (· < ·)) (hn : 0 ≤ n ∧ n < 3) : ((if l.any (fun x => decide (x = n)) then l else l ++ [n]).mergeSort fun x y => decide (x ≤ y)) = withL l n true := by
  generalize hm : (if l.any (fun x => decide (x = n)) then l else l ++ [n]) = m
  have hmem : ∀ x, x ∈ m ↔ x = n ∨ x ∈ l := by
    intro x
    subst hm
    split
    · rename_i h
      constructor
      · exact .inr
      · rintro (h3 | h3)
        · subst h3; exact any_mem.1 h
        · exact h3
    · rw [List.mem_append, List.mem_singleton]; exact Or.comm
  have hnd : m.Nodup := by
    have hl : l.Nodup := h2.imp fun h => by omega
    subst hm
    split
    · exact hl
    · rename_i h
      rw [List.nodup_append]
      refine ⟨hl, by simp, fun a ha b hb => ?_⟩
      obtain rfl := List.mem_singleton.1 hb
      intro e; subst e
      exact h (any_mem.2 ha)
  refine sorted_ext ?_ (withL_sorted ..) fun x => ?_
  · have hp : (m.mergeSort fun x y => decide (x ≤ y)).Pairwise fun a b => decide (a ≤ b) = true := List.pairwise_mergeSort (by
      intro a b c h3 h4
      simp only [decide_eq_true_eq] at *
      omega) (by
      intro a b
      simp only [Bool.or_eq_true, decide_eq_true_eq]
      omega) m
    have hnd2 : (m.mergeSort fun x y => decide (x ≤ y)).Nodup := (List.mergeSort_perm m _).nodup_iff.2 hnd
    refine (hp.and hnd2).imp fun {a b} ⟨h3, h4⟩ => ?_
    simp only [decide_eq_true_eq] at h3
    omega
  · rw [List.mem_mergeSort, hmem, mem_withL]
    constructor
    · rintro (h | h)
      · subst h; exact ⟨hn, .inl ⟨rfl, rfl⟩⟩
      · by_cases e : x = n
        · subst e; exact ⟨hn, .inl ⟨rfl, rfl⟩⟩
        · exact ⟨h1 x h, .inr ⟨e, h⟩⟩
    · rintro ⟨_, ⟨h, _⟩ | ⟨_, h⟩⟩
      · exact .inl h
      · exact .inr h
theorem i_with_eq {l : List Int} {n : Int} (h1 : ∀ x, x ∈ l → 0 ≤ x ∧ x < 3) (h2 : l.Pairwise (· < ·)) (hn : 0 ≤ n ∧ n < 3) : i_with l n = some (withL l n true) := by
  have hl := nodes_le h1 h2
  unfold i_with
  rw [appP_ok (by simp; omega)]
  simp only [List.nil_append, Option.bind_some]
  rw [contains_eq (by omega), Option.bind_some, ← sortI_with h1 h2 hn]
  cases h : l.any fun x => decide (x = n) with
  | true =>
    simp only [Bool.not_true, cond_false, if_true]
    unfold sortIP
    rw [if_pos (by omega)]; rfl
  | false =>
    simp only [Bool.not_false, cond_true, Bool.false_eq_true, if_false]
    rw [appP_ok (by simp; omega), Option.bind_some]
    unfold sortIP
    rw [if_pos (by simp; omega)]; rfl
def repStep (d : D_Ups) (t : List D_Up) (x : D_Copy) : List D_Up ⊕ Option (D_Ups × Bool) := match t.findIdx? (fun s => decide (s.1 = x.1)) with
  | none => .inr (some (d, false))
  | some k => match t[k]? with
    | none => .inr (some (d, false))
    | some y => if y.2.1.any (fun z => decide (z = x.2.1)) && decide (0 ≤ x.2.2 ∧ x.2.2 < 3) then .inl (t.set k (y.1, withL y.2.1 x.2.2 true, y.2.2)) else .inr (some (d, false))
def repInv (d : D_Ups) (t : List D_Up) : Prop := t.length = d.2.length ∧ ∀ y, y ∈ t → y.1.size = 8 ∧ (∀ n, n ∈ y.2.1 → 0 ≤ n ∧ n < 3) ∧ y.2.1.Pairwise (· < ·)
theorem repInv_start {d : D_Ups} (h : upsOkB d = true) : repInv d d.2 := by
  obtain ⟨_, _, h3, _⟩ := upsOk_facts h
  exact ⟨rfl, fun y hy => ⟨(h3 y hy).1, nodesOk_facts (h3 y hy).2.2.2⟩⟩
theorem repInv_step {d : D_Ups} {t t' : List D_Up} {x : D_Copy} (h : repInv d t) (hs : repStep d t x = .inl t') : repInv d t' := by
  unfold repStep at hs
  split at hs
  · cases hs
  · split at hs
    · cases hs
    · rename_i k _ y hy
      split at hs
      · cases hs
        refine ⟨by rw [List.length_set]; exact h.1, fun z hz => ?_⟩
        rcases List.mem_or_eq_of_mem_set hz with hz | rfl
        · exact h.2 z hz
        · exact ⟨(h.2 y (List.mem_of_getElem? hy)).1, fun n hn => (mem_withL.1 hn).1, withL_sorted ..⟩
      · cases hs
noncomputable def repairAllD (d : D_Ups) (l : List D_Copy) : D_Ups × Bool :=
  if upsOkB d then ((goE (repStep d) (fun t => some ((d.1, t), true)) l d.2).getD (d, false)) else ((0, []), false)
theorem rep_some (d : D_Ups) : ∀ (l : List D_Copy) (t : List D_Up), ∃ r, goE (repStep d) (fun t => some ((d.1, t), true)) l t = some r
  | [], t => ⟨_, rfl⟩
  | x :: l, t => by
    unfold goE
    cases h : repStep d t x with
    | inl t' => exact rep_some d l t'
    | inr r =>
      have : r = some (d, false) := by
        unfold repStep at h
        split at h
        · cases h; rfl
        · split at h
          · cases h; rfl
          · split at h
            · cases h
            · cases h; rfl
      subst this
      exact ⟨_, rfl⟩
theorem s_RepairAll_eq {d : D_Ups} {l : List D_Copy} (ho : Ok.ok d) (hl : l.length ≤ 9223372036854775807) : s_RepairAll d l = some (repairAllD d l) := by
  unfold s_RepairAll repairAllD
  simp only [Prod.eta, s_UpsOk_eq ho, Option.bind_some]
  cases hk : upsOkB d with
  | false => rfl
  | true =>
    obtain ⟨h1, h2, h3, h4⟩ := upsOk_facts hk
    simp only [Bool.not_true, cond_false, (ups_copy hk).1, Option.bind_some, if_true]
    obtain ⟨r, hr⟩ := rep_some d l d.2
    rw [hr, Option.getD_some, ← hr]
    refine whileP_for (l := l) (fun k (t : List D_Up) => ((k : Int), t)) (repStep d) (fun t => some ((d.1, t), true)) (fun _ t => repInv d t) d.2 (s0 := (0, d.2)) rfl (repInv_start hk) ?_ ?_
    · intro k t x hx hI
      have hlt := (List.getElem?_eq_some_iff.1 hx).1
      have htl : t.length ≤ 9223372036854775807 := by rw [hI.1]; omega
      simp only [lt_dec hlt, cond_true, idx_nat, hx, Option.bind_some, s_l18At_eq (u := (d.1, t)) htl]
      unfold repStep
      cases hf : t.findIdx? (fun s : D_Up => decide (s.1 = x.1)) with
      | none => rw [firstI_none hf]; exact .inr ⟨_, rfl, rfl⟩
      | some q =>
        obtain ⟨hq, _, _⟩ := List.findIdx?_eq_some_iff_getElem.1 hf
        have hy : t[q]? = some t[q] := List.getElem?_eq_getElem hq
        generalize t[q] = y at hy
        obtain ⟨hy1, hy2, hy3⟩ := hI.2 y (List.mem_of_getElem? hy)
        have hyl := nodes_le hy2 hy3
        rw [firstI_some hf]
        simp only [show decide ((q : Int) < 0) = false by simp, idx_nat, hy, Option.bind_some, gb, Bool.not_false, Bool.false_or, l18Has_eq (l := y.2.1) (n := x.2.1) (by omega), Int.toNat_natCast]
        cases hh : y.2.1.any fun z => decide (z = x.2.1) with
        | false => exact .inr ⟨_, rfl, rfl⟩
        | true =>
          simp only [Bool.not_true, Bool.not_false, l9Node_eq, Option.bind_some, Bool.true_and]
          by_cases hn : 0 ≤ x.2.2 ∧ x.2.2 < 3
          · left
            simp only [decide_eq_true hn, Bool.not_true, cond_false, if_true, l18With_eq (l := y.2.1) (n := x.2.2) (b := true) (by omega), Option.bind_some, wrap_succ (show k < 9223372036854775807 by omega)]
            refine ⟨_, rfl, rfl, repInv_step (x := x) hI ?_⟩
            unfold repStep
            rw [hf]
            simp only [hy, hh, decide_eq_true hn, Bool.true_and, if_true]
          · right
            simp only [decide_eq_false hn, Bool.not_false, cond_true, Bool.false_eq_true, if_false]
            exact ⟨_, rfl, rfl⟩
    · intro t hI
      simp only [ge_dec]; rfl
theorem i_RepairAll_eq {d : D_Ups} {l : List D_Copy} (ho : Ok.ok d) (hl : l.length ≤ 9223372036854775807) : i_RepairAll d l = some (repairAllD d l) := by
  unfold i_RepairAll repairAllD
  simp only [Prod.eta, i_UpsOk_eq ho, Option.bind_some]
  cases hk : upsOkB d with
  | false => rfl
  | true =>
    obtain ⟨h1, h2, h3, h4⟩ := upsOk_facts hk
    simp only [Bool.not_true, cond_false, (ups_copy hk).2, Option.bind_some, if_true]
    obtain ⟨r, hr⟩ := rep_some d l d.2
    rw [hr, Option.getD_some, ← hr]
    refine whileP_for (l := l) (fun k (t : List D_Up) => ((k : Int), t)) (repStep d) (fun t => some ((d.1, t), true)) (fun _ t => repInv d t) d.2 (s0 := (0, d.2)) rfl (repInv_start hk) ?_ ?_
    · intro k t x hx hI
      have hlt := (List.getElem?_eq_some_iff.1 hx).1
      have htl : t.length ≤ 9223372036854775807 := by rw [hI.1]; omega
      simp only [lt_dec hlt, cond_true, idx_nat, hx, Option.bind_some, i_Ups_at_eq (u := (d.1, t)) htl]
      unfold repStep
      cases hf : t.findIdx? (fun s : D_Up => decide (s.1 = x.1)) with
      | none => rw [firstI_none hf]; exact .inr ⟨_, rfl, rfl⟩
      | some q =>
        obtain ⟨hq, _, _⟩ := List.findIdx?_eq_some_iff_getElem.1 hf
        have hy : t[q]? = some t[q] := List.getElem?_eq_getElem hq
        generalize t[q] = y at hy
        obtain ⟨hy1, hy2, hy3⟩ := hI.2 y (List.mem_of_getElem? hy)
        have hyl := nodes_le hy2 hy3
        rw [firstI_some hf]
        simp only [show decide ((q : Int) < 0) = false by simp, idx_nat, hy, Option.bind_some, gb, Bool.not_false, Bool.false_or, contains_eq (l := y.2.1) (n := x.2.1) (by omega), Int.toNat_natCast]
        cases hh : y.2.1.any fun z => decide (z = x.2.1) with
        | false => exact .inr ⟨_, rfl, rfl⟩
        | true =>
          simp only [Bool.not_true, Bool.not_false, isRep_eq, Option.bind_some, Bool.true_and]
          by_cases hn : 0 ≤ x.2.2 ∧ x.2.2 < 3
          · left
            simp only [decide_eq_true hn, Bool.not_true, cond_false, if_true, i_with_eq hy2 hy3 hn, Option.bind_some, wrap_succ (show k < 9223372036854775807 by omega)]
            refine ⟨_, rfl, rfl, repInv_step (x := x) hI ?_⟩
            unfold repStep
            rw [hf]
            simp only [hy, hh, decide_eq_true hn, Bool.true_and, if_true]
          · right
            simp only [decide_eq_false hn, Bool.not_false, cond_true, Bool.false_eq_true, if_false]
            exact ⟨_, rfl, rfl⟩
    · intro t hI
      simp only [ge_dec]; rfl
theorem rep_inv (d : D_Ups) : ∀ (l : List D_Copy) (t : List D_Up) (r : D_Ups × Bool), repInv d t → goE (repStep d) (fun t => some ((d.1, t), true)) l t = some r → r = (d, false) ∨ ∃ t', r = ((d.1, t'), true) ∧ repInv d t'
  | [], t, r, hI, h => by cases h; exact .inr ⟨t, rfl, hI⟩
  | x :: l, t, r, hI, h => by
    unfold goE at h
    cases hs : repStep d t x with
    | inl t' => rw [hs] at h; exact rep_inv d l t' r (repInv_step hI hs) h
    | inr q =>
      rw [hs] at h
      left
      unfold repStep at hs
      split at hs
      · cases hs; cases h; rfl
      · split at hs
        · cases hs; cases h; rfl
        · split at hs
          · cases hs
          · cases hs; cases h; rfl
end Go.Proofs.SL
