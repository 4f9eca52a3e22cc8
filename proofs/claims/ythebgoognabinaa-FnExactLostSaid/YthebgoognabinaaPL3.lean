/- What UpLost and UpAck compute. -/
import Derived.Test.YthebgoognabinaaPL2
import Derived.Test.YthebgoognabinaaWB
namespace Go.Proofs.SL
open Go
theorem sorted_ext : ∀ {l m : List Int}, l.Pairwise (· < ·) → m.Pairwise (· < ·) → (∀ x, x ∈ l ↔ x ∈ m) → l = m
  | [], [], _, _, _ => rfl
  | [], b :: m, _, _, h => absurd ((h b).2 (List.mem_cons_self ..)) (by simp)
  | a :: l, [], _, _, h => absurd ((h a).1 (List.mem_cons_self ..)) (by simp)
  | a :: l, b :: m, h1, h2, h => by
    obtain ⟨h3, h4⟩ := List.pairwise_cons.1 h1
    obtain ⟨h5, h6⟩ := List.pairwise_cons.1 h2
    have hab : a = b := by
      rcases List.mem_cons.1 ((h a).1 (List.mem_cons_self ..)) with e | e
      · exact e
      · rcases List.mem_cons.1 ((h b).2 (List.mem_cons_self ..)) with e2 | e2
        · exact e2.symm
        · have := h5 a e; have := h3 b e2; omega
    subst hab
    rw [sorted_ext h4 h6 fun x => ⟨fun hx => ?_, fun hx => ?_⟩]
    · rcases List.mem_cons.1 ((h x).1 (List.mem_cons_of_mem _ hx)) with e | e
      · have := h3 x hx; omega
      · exact e
    · rcases List.mem_cons.1 ((h x).2 (List.mem_cons_of_mem _ hx)) with e | e
      · have := h5 x hx; omega
      · exact e
theorem any_mem {l : List Int} {n : Int} : (l.any fun x => decide (x = n)) = true ↔ n ∈ l := by
  simp [List.any_eq_true]
theorem withL_sorted (l : List Int) (n : Int) (b : Bool) : (withL l n b).Pairwise (· < ·) := by
  unfold withL
  refine List.Pairwise.filter _ ?_
  simp
theorem mem_withL {l : List Int} {n x : Int} {b : Bool} : x ∈ withL l n b ↔ (0 ≤ x ∧ x < 3) ∧ ((x = n ∧ b = true) ∨ (x ≠ n ∧ x ∈ l)) := by
  unfold withL
  rw [List.mem_filter]
  have h3 : x ∈ ([0, 1, 2] : List Int) ↔ (0 ≤ x ∧ x < 3) := by simp; omega
  rw [h3]
  simp only [Bool.or_eq_true, Bool.and_eq_true, decide_eq_true_eq, Bool.not_eq_true', decide_eq_false_iff_not, any_mem]
theorem withL_out {l : List Int} {n : Int} (h1 : ∀ x, x ∈ l → 0 ≤ x ∧ x < 3) (h2 : l.Pairwise (· < ·)) : withL l n false = l.filter fun x => !decide (x = n) := by
  refine sorted_ext (withL_sorted ..) (List.Pairwise.filter _ h2) fun x => ?_
  rw [mem_withL, List.mem_filter]
  simp only [Bool.false_eq_true, and_false, false_or, Bool.not_eq_true', decide_eq_false_iff_not]
  constructor
  · rintro ⟨_, h4, h5⟩; exact ⟨h5, h4⟩
  · rintro ⟨h5, h4⟩; exact ⟨h1 x h5, h4, h5⟩
theorem filter_ne {l : List D_Up} {k : Nat} {y : D_Up} (hs : l.Pairwise (fun a b => sLt a.1 b.1 = true)) (hk : l[k]? = some y) : l.filter (fun z => !decide (z.1 = y.1)) = l.eraseIdx k := by
  induction l generalizing k with
  | nil => cases hk
  | cons a l ih =>
    obtain ⟨h1, h2⟩ := List.pairwise_cons.1 hs
    cases k with
    | zero =>
      cases hk
      rw [List.filter_cons, if_neg (by simp), List.eraseIdx_cons_zero, List.filter_eq_self.2 fun z hz => ?_]
      have := sLt_ne (h1 z hz)
      simp [Ne.symm this]
    | succ k =>
      have hk' : l[k]? = some y := hk
      have := sLt_ne (h1 y (List.mem_of_getElem? hk'))
      rw [List.filter_cons, if_pos (by simp [this]), List.eraseIdx_cons_succ, ih h2 hk']
theorem setU_at {l : List D_Up} {k : Nat} {x y : D_Up} (hs : l.Pairwise (fun a b => sLt a.1 b.1 = true)) (hk : l[k]? = some y) (hc : x.1 = y.1) : setU x l = l.set k x := by
  induction l generalizing k with
  | nil => cases hk
  | cons a l ih =>
    obtain ⟨h1, h2⟩ := List.pairwise_cons.1 hs
    cases k with
    | zero =>
      cases hk
      rw [setU, hc, sLt_irrefl, List.set_cons_zero]
      have := filter_ne (k := 0) (y := y) hs rfl
      simp only [Bool.false_eq_true, if_false, this, List.eraseIdx_cons_zero]
    | succ k =>
      have hk' : l[k]? = some y := hk
      have := h1 y (List.mem_of_getElem? hk')
      rw [setU, hc, this, if_pos rfl, List.set_cons_succ, ih h2 hk']
noncomputable def upLostD (d : D_Ups) (c : ByteArray) (n : Int) : D_Ups × Bool :=
  if upsOkB d then
    match d.2.findIdx? (fun s => decide (s.1 = c)) with
    | none => (d, false)
    | some k => match d.2[k]? with
      | none => (d, false)
      | some x => if x.2.1.any (fun y => decide (y = n)) then
          let ns := x.2.1.filter fun y => !decide (y = n)
          ((d.1, if ns.length = 0 then d.2.eraseIdx k else d.2.set k (x.1, ns, x.2.2)), true)
        else (d, false)
  else ((0, []), false)
theorem ups_copy {d : D_Ups} (h : upsOkB d = true) : s_l18Copy d = some d ∧ i_copyUps d = some d := by
  obtain ⟨_, h1, h2, _⟩ := upsOk_facts h
  have h3 : ∀ s, s ∈ d.2 → s.2.1.length ≤ 1000 := fun s hs => by
    obtain ⟨h4, h5⟩ := nodesOk_facts (h2 s hs).2.2.2
    have := nodes_le h4 h5
    omega
  exact ⟨s_l18Copy_eq (by omega) h3, i_copyUps_eq (by omega) h3⟩
theorem s_UpLost_eq {d : D_Ups} {c : ByteArray} {n : Int} (ho : Ok.ok d) : s_UpLost d c n = some (upLostD d c n) := by
  unfold s_UpLost upLostD
  have hl : d.2.length ≤ 9223372036854775807 := ho.2.1
  simp only [Prod.eta, s_UpsOk_eq ho, Option.bind_some]
  cases hk : upsOkB d with
  | false => rfl
  | true =>
    obtain ⟨h1, h2, h3, h4⟩ := upsOk_facts hk
    simp only [Bool.not_true, cond_false, (ups_copy hk).1, Option.bind_some, s_l18At_eq hl, if_true]
    cases hf : d.2.findIdx? (fun s : D_Up => decide (s.1 = c)) with
    | none => rw [firstI_none hf]; rfl
    | some k =>
      obtain ⟨hlt, hc, _⟩ := List.findIdx?_eq_some_iff_getElem.1 hf
      rw [firstI_some hf]
      have hx : d.2[k]? = some d.2[k] := List.getElem?_eq_getElem hlt
      generalize d.2[k] = x at hx hc
      have hn := (h3 x (List.mem_of_getElem? hx)).2.2.2
      obtain ⟨hn1, hn2⟩ := nodesOk_facts hn
      have hnl := nodes_le hn1 hn2
      simp only [show decide ((k : Int) < 0) = false by simp, idx_nat, hx, Option.bind_some, gb, Bool.not_false, Bool.false_or, l18Has_eq (l := x.2.1) (n := n) (by omega)]
      cases hh : x.2.1.any fun y => decide (y = n) with
      | false => rfl
      | true =>
        simp only [Bool.not_true, cond_false, if_true, l18With_eq (l := x.2.1) (n := n) (b := false) (by omega), Option.bind_some, l18Set_eq (show d.2.length ≤ 1000 by omega), withL_out hn1 hn2]
        by_cases h0 : (x.2.1.filter fun y => !decide (y = n)).length = 0
        · rw [if_pos h0, if_pos h0, filter_ne h4 hx]
        · rw [if_neg h0, if_neg h0, setU_at (x := (x.1, x.2.1.filter (fun y => !decide (y = n)), x.2.2)) h4 hx rfl]
theorem delP_one {α : Type} {l : List α} {k : Nat} {v : α} (h : k < l.length) : delP (l.set k v) (k : Int) ((k + 1 : Nat) : Int) = some (l.eraseIdx k) := by
  unfold delP
  rw [if_pos ⟨by omega, by omega, by simp; omega⟩]
  simp only [Int.toNat_natCast]
  rw [List.take_set_of_le (Nat.le_refl _), List.drop_set_of_lt (by omega), List.eraseIdx_eq_take_drop_succ]
theorem i_UpLost_eq {d : D_Ups} {c : ByteArray} {n : Int} (ho : Ok.ok d) : i_UpLost d c n = some (upLostD d c n) := by
  unfold i_UpLost upLostD
  have hl : d.2.length ≤ 9223372036854775807 := ho.2.1
  simp only [Prod.eta, i_UpsOk_eq ho, Option.bind_some]
  cases hk : upsOkB d with
  | false => rfl
  | true =>
    obtain ⟨h1, h2, h3, h4⟩ := upsOk_facts hk
    simp only [Bool.not_true, cond_false, (ups_copy hk).2, Option.bind_some, i_Ups_at_eq hl, if_true]
    cases hf : d.2.findIdx? (fun s : D_Up => decide (s.1 = c)) with
    | none => rw [firstI_none hf]; rfl
    | some k =>
      obtain ⟨hlt, hc, _⟩ := List.findIdx?_eq_some_iff_getElem.1 hf
      rw [firstI_some hf]
      have hx : d.2[k]? = some d.2[k] := List.getElem?_eq_getElem hlt
      generalize d.2[k] = x at hx hc
      have hn := (h3 x (List.mem_of_getElem? hx)).2.2.2
      obtain ⟨hn1, hn2⟩ := nodesOk_facts hn
      have hnl := nodes_le hn1 hn2
      simp only [show decide ((k : Int) < 0) = false by simp, idx_nat, hx, Option.bind_some, gb, Bool.not_false, Bool.false_or, contains_eq (l := x.2.1) (n := n) (by omega)]
      cases hh : x.2.1.any fun y => decide (y = n) with
      | false => rfl
      | true =>
        simp only [Bool.not_true, cond_false, if_true, deleteFunc_eq (l := x.2.1) (a := fun z0 => i_UpLost_c1 z0 n) (fun y => decide (y = n)) (fun _ => rfl) (by omega), Option.bind_some, Int.toNat_natCast, List.getElem?_set_self hlt, wrap_succ (show k < 9223372036854775807 by omega), delP_one hlt]
        by_cases h0 : (x.2.1.filter fun y => !decide (y = n)).length = 0
        · rw [if_pos h0, show decide (((x.2.1.filter fun y => !decide (y = n)).length : Int) = 0) = true by simp [h0]]; rfl
        · rw [if_neg h0, show decide (((x.2.1.filter fun y => !decide (y = n)).length : Int) = 0) = false by simp only [decide_eq_false_iff_not]; omega]; rfl
end Go.Proofs.SL
