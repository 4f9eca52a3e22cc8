/- What the catalog's functions compute. -/
import Derived.Test.YtndhmnoehapdhaaDoorPW
import Derived.Test.YtndhmnoehapdhaaDoorPQ
namespace Go.Proofs.SL
open Go
def snapOkB (p : D_CSnap) : Bool := isWordB p.1 && (decide (p.2.1 = ByteArray.empty) || isWordB p.2.1) && decide (1 ≤ (p.2.2.length : Int) ∧ (p.2.2.length : Int) ≤ 4) && areChunksB p.2.2
def snapAt (s : D_CSet) (k : Nat) : Bool := match s.2[k]? with
  | none => false
  | some p => snapOkB p && decide (firstI (fun q : D_CSnap => decide (q.1 = p.1)) s.2 = (k : Int))
def setOkB (s : D_CSet) : Bool := isWordB s.1 && decide (s.2.length ≤ 5) && (List.range s.2.length).all (snapAt s)
def setAt (c : D_Catalog) (k : Nat) : Bool := match c[k]? with
  | none => false
  | some s => setOkB s && (decide (k = 0) || (c[k - 1]?).all fun r => sLt r.1 s.1)
def catOkB (c : D_Catalog) : Bool := decide (c.length ≤ 5) && (List.range c.length).all (setAt c)
theorem s_l15Snap_eq {p : D_CSnap} (ho : Ok.ok p) : s_l15Snap p = some (snapOkB p) := by
  have h1 : p.1.size ≤ 9223372036854775807 := ho.1
  have h2 : p.2.1.size ≤ 9223372036854775807 := ho.2.1
  have h3 : p.2.2.length ≤ 9223372036854775807 := ho.2.2.1
  unfold s_l15Snap snapOkB areChunksB
  rw [each_loop (p := fun c => decide ((c.size : Int) = 8)) (no := some false) (yes := some true) h3]
  · simp only [s_l4Word_eq h1, s_l4Word_eq h2, l1In_eq, Option.bind_some, gbs]
    cases isWordB p.1 <;> cases decide (p.2.1 = ByteArray.empty) <;> cases isWordB p.2.1 <;> cases decide (1 ≤ (p.2.2.length : Int) ∧ (p.2.2.length : Int) ≤ 4) <;> cases (p.2.2.all fun c => decide ((c.size : Int) = 8)) <;> rfl
  · intro k x hx
    simp only [lt_dec (List.getElem?_eq_some_iff.1 hx).1, cond_true, idx_nat, hx, Option.bind_some]
    cases decide ((x.size : Int) = 8) <;> rfl
  · simp only [ge_dec]; rfl
theorem s_l15Find_eq {s : D_CSet} {n : ByteArray} (h : s.2.length ≤ 9223372036854775807) : s_l15Find s n = some (firstI (fun q : D_CSnap => decide (q.1 = n)) s.2) := by
  unfold s_l15Find
  rw [whileP_find (fun q : D_CSnap => decide (q.1 = n)) some h]
  · intro k x hx
    simp only [lt_dec (List.getElem?_eq_some_iff.1 hx).1, cond_true, idx_nat, hx, Option.bind_some]
    cases decide (x.1 = n) <;> rfl
  · simp only [ge_dec]; rfl
theorem i_CSet_snap_eq {s : D_CSet} {n : ByteArray} (h : s.2.length ≤ 9223372036854775807) : i_CSet_snap s n = some (firstI (fun q : D_CSnap => decide (q.1 = n)) s.2) := by
  unfold i_CSet_snap sl_IndexFunc_implCSnapimplCSnap i_CSet_snap_c1
  rw [whileP_find (fun q : D_CSnap => decide (q.1 = n)) some h]
  · rfl
  · intro k x hx
    simp only [lt_dec (List.getElem?_eq_some_iff.1 hx).1, cond_true, idx_nat, hx, Option.bind_some]
    cases decide (x.1 = n) <;> rfl
  · simp only [ge_dec]; rfl
theorem i_setOk_eq {s : D_CSet} (ho : Ok.ok s) : i_setOk s = some (setOkB s) := by
  have h1 : s.1.size ≤ 9223372036854775807 := ho.1
  have h2 : s.2.length ≤ 9223372036854775807 := ho.2.1
  unfold i_setOk setOkB
  rw [whileP_all (n := s.2.length) (snapAt s) (some false) (some (isWordB s.1 && decide (s.2.length ≤ 5)))]
  · cases isWordB s.1 <;> cases decide (s.2.length ≤ 5) <;> cases (List.range s.2.length).all (snapAt s) <;> rfl
  · intro k hk
    have hx : s.2[k]? = some s.2[k] := List.getElem?_eq_getElem hk
    generalize s.2[k] = p at hx
    have hp : Ok.ok p := ho.2.2 p (List.mem_of_getElem? hx)
    have h3 : p.1.size ≤ 9223372036854775807 := hp.1
    have h4 : p.2.1.size ≤ 9223372036854775807 := hp.2.1
    have h5 : p.2.2.length ≤ 9223372036854775807 := hp.2.2.1
    simp only [lt_dec hk, cond_true, idx_nat, hx, Option.bind_some, i_isWord_eq h3, i_isWord_eq h4, within_eq, i_areChunks_eq h5, i_CSet_snap_eq (s := (s.1, s.2)) h2, gbs, wrap_succ (show k < 9223372036854775807 by omega)]
    unfold snapAt snapOkB
    simp only [hx]
    cases isWordB p.1 <;> cases decide (p.2.1 = ByteArray.empty) <;> cases isWordB p.2.1 <;> cases decide (1 ≤ (p.2.2.length : Int) ∧ (p.2.2.length : Int) ≤ 4) <;> cases areChunksB p.2.2 <;> cases decide (firstI (fun q : D_CSnap => decide (q.1 = p.1)) s.2 = (k : Int)) <;> simp
  · have h9 : decide ((s.2.length : Int) ≤ 5) = decide (s.2.length ≤ 5) := by rw [Bool.eq_iff_iff]; simp; omega
    simp only [ge_dec, cond_false, i_isWord_eq h1, Option.bind_some, h9]
theorem prev_dec {k : Nat} : decide (0 < (k : Int)) = !decide (k = 0) := by rw [Bool.eq_iff_iff]; simp; omega
theorem i_CatOk_eq {c : D_Catalog} (ho : Ok.ok c) : i_CatOk c = some (catOkB c) := by
  have hl : c.length ≤ 9223372036854775807 := ho.1
  unfold i_CatOk catOkB
  rw [whileP_all (n := c.length) (setAt c) (some false) (some (decide (c.length ≤ 5)))]
  · cases decide (c.length ≤ 5) <;> cases (List.range c.length).all (setAt c) <;> rfl
  · intro k hk
    have hx : c[k]? = some c[k] := List.getElem?_eq_getElem hk
    generalize c[k] = s at hx
    have hs : Ok.ok s := ho.2 s (List.mem_of_getElem? hx)
    simp only [lt_dec hk, cond_true, idx_nat, hx, Option.bind_some, Prod.eta, i_setOk_eq hs, wrap_succ (show k < 9223372036854775807 by omega)]
    unfold setAt
    simp only [hx]
    rcases Nat.eq_zero_or_pos k with h0 | h0
    · subst h0
      rw [gb_none _ _ _ (by simp)]
      cases setOkB s <;> simp
    · obtain ⟨r, hr1, hr2⟩ := prev_idx' hk hl h0
      have h5 : decide (0 < (k : Int)) = true := by simp; omega
      have h6 : decide (k = 0) = false := by simp; omega
      rw [hr1, hr2, h5, h6, gbs]
      simp only [Option.all_some]
      by_cases h7 : sLt r.1 s.1 = true <;> cases setOkB s <;> simp [h7]
  · have h9 : decide ((c.length : Int) ≤ 5) = decide (c.length ≤ 5) := by rw [Bool.eq_iff_iff]; simp; omega
    simp only [ge_dec, cond_false, h9]
theorem s_CatOk_eq {c : D_Catalog} (ho : Ok.ok c) : s_CatOk c = some (catOkB c) := by
  have hl : c.length ≤ 9223372036854775807 := ho.1
  unfold s_CatOk catOkB
  have h9 : decide (5 < (c.length : Int)) = !decide (c.length ≤ 5) := by rw [Bool.eq_iff_iff]; simp; omega
  rw [whileP_all (n := c.length) (setAt c) (some false) (some true), h9]
  · cases decide (c.length ≤ 5) <;> cases (List.range c.length).all (setAt c) <;> rfl
  · intro k hk
    have hx : c[k]? = some c[k] := List.getElem?_eq_getElem hk
    generalize c[k] = s at hx
    have hs : Ok.ok s := ho.2 s (List.mem_of_getElem? hx)
    have h1 : s.1.size ≤ 9223372036854775807 := hs.1
    have h2 : s.2.length ≤ 9223372036854775807 := hs.2.1
    simp only [lt_dec hk, cond_true, idx_nat, hx, Option.bind_some, Prod.eta, s_l4Word_eq h1]
    rw [whileP_all (n := s.2.length) (snapAt s) (some (.inr false)) (some (.inl ((k + 1 : Nat) : Int)))]
    · have h10 : decide (5 < (s.2.length : Int)) = !decide (s.2.length ≤ 5) := by rw [Bool.eq_iff_iff]; simp; omega
      unfold setAt setOkB
      simp only [hx, h10]
      rcases Nat.eq_zero_or_pos k with h0 | h0
      · subst h0
        rw [gb_none _ _ _ (by simp)]
        cases isWordB s.1 <;> cases decide (s.2.length ≤ 5) <;> cases (List.range s.2.length).all (snapAt s) <;> simp
      · obtain ⟨r, hr1, hr2⟩ := prev_idx' hk hl h0
        have h5 : decide (0 < (k : Int)) = true := by simp; omega
        have h6 : decide (k = 0) = false := by simp; omega
        rw [hr1, hr2, h5, h6, gbs]
        simp only [Option.all_some]
        by_cases h7 : sLt r.1 s.1 = true <;> cases isWordB s.1 <;> cases decide (s.2.length ≤ 5) <;> cases (List.range s.2.length).all (snapAt s) <;> simp [h7]
    · intro j hj
      have hy : s.2[j]? = some s.2[j] := List.getElem?_eq_getElem hj
      generalize s.2[j] = p at hy
      have hp : Ok.ok p := hs.2.2 p (List.mem_of_getElem? hy)
      simp only [lt_dec hj, cond_true, idx_nat, hy, Option.bind_some, Prod.eta, s_l15Snap_eq hp, gbs, wrap_succ (show j < 9223372036854775807 by omega)]
      unfold snapAt
      simp only [hy]
      cases snapOkB p with
      | false => rfl
      | true =>
        simp only [Bool.not_true, Bool.not_false, if_true, gb, Option.bind_some, s_l15Find_eq h2, Bool.true_and, Bool.false_or]
        cases decide (firstI (fun q : D_CSnap => decide (q.1 = p.1)) s.2 = (j : Int)) <;> rfl
    · simp only [ge_dec, cond_false, wrap_succ (show k < 9223372036854775807 by omega)]
  · simp only [ge_dec]; rfl
/-- What a right catalog holds. -/
theorem catOk_facts {c : D_Catalog} (h : catOkB c = true) : c.length ≤ 5 ∧ ∀ s, s ∈ c → s.2.length ≤ 5 ∧ ∀ p, p ∈ s.2 → p.2.2.length ≤ 4 ∧ ∀ x, x ∈ p.2.2 → x.size = 8 := by
  unfold catOkB at h
  simp only [Bool.and_eq_true, decide_eq_true_eq, List.all_eq_true, List.mem_range] at h
  refine ⟨h.1, fun s hs => ?_⟩
  obtain ⟨k, hk⟩ := List.getElem?_of_mem hs
  have h1 := h.2 k (List.getElem?_eq_some_iff.1 hk).1
  unfold setAt at h1
  rw [hk] at h1
  simp only [Bool.and_eq_true] at h1
  have h2 := h1.1
  unfold setOkB at h2
  simp only [Bool.and_eq_true, decide_eq_true_eq, List.all_eq_true, List.mem_range] at h2
  refine ⟨h2.1.2, fun p hp => ?_⟩
  obtain ⟨j, hj⟩ := List.getElem?_of_mem hp
  have h3 := h2.2 j (List.getElem?_eq_some_iff.1 hj).1
  unfold snapAt at h3
  rw [hj] at h3
  simp only [Bool.and_eq_true] at h3
  have h4 := h3.1
  unfold snapOkB areChunksB at h4
  simp only [Bool.and_eq_true, decide_eq_true_eq, List.all_eq_true] at h4
  exact ⟨by omega, fun x hx => by have := h4.2 x hx; omega⟩
end Go.Proofs.SL
