/- What the functions of uploads compute. -/
import Derived.Test.YthebgoognabinaaGreatWA
import Derived.Test.YthebgoognabinaaGreatPNo
namespace Go.Proofs.SL
open Go
def upOk (e : Int) (l : List D_Up) (k : Nat) : Bool := match l[k]? with
  | none => false
  | some x => decide ((x.1.size : Int) = 8) && (decide (k = 0) || (l[k - 1]?).all fun r => sLt r.1 x.1) && !decide ((x.2.1.length : Int) = 0) && decide (0 ≤ x.2.2 ∧ x.2.2 ≤ e) && nodesOk x.2.1
def upsOkB (u : D_Ups) : Bool := decide (0 ≤ u.1 ∧ u.1 ≤ 1000) && decide (u.2.length ≤ 20) && (List.range u.2.length).all (upOk u.1 u.2)
theorem s_UpsOk_eq {u : D_Ups} (ho : Ok.ok u) : s_UpsOk u = some (upsOkB u) := by
  obtain ⟨e, l⟩ := u
  have hl : l.length ≤ 9223372036854775807 := ho.2.1
  have hl2 : ∀ x, x ∈ l → Ok.ok x := ho.2.2
  unfold s_UpsOk upsOkB
  simp only [l1In_eq, l9Node_eq, Option.bind_some]
  rw [whileP_all (n := l.length) (upOk e l) (some false) (some true)]
  · have h9 : decide (20 < (l.length : Int)) = !decide (l.length ≤ 20) := by rw [Bool.eq_iff_iff]; simp; omega
    rw [h9]
    cases decide (0 ≤ e ∧ e ≤ 1000) <;> cases decide (l.length ≤ 20) <;> cases (List.range l.length).all (upOk e l) <;> rfl
  · intro k hk
    have hx : l[k]? = some l[k] := List.getElem?_eq_getElem hk
    generalize l[k] = x at hx
    have hn : x.2.1.length ≤ 9223372036854775807 := (hl2 x (List.mem_of_getElem? hx)).2.1.1
    simp only [lt_dec hk, cond_true, idx_nat, hx, Option.bind_some, gbs]
    rw [whileP_all (n := x.2.1.length) (nodeOk x.2.1) (some (.inr false)) (some (.inl ((k + 1 : Nat) : Int)))]
    · have hno : (List.range x.2.1.length).all (nodeOk x.2.1) = nodesOk x.2.1 := rfl
      unfold upOk
      simp only [hx, hno]
      rcases Nat.eq_zero_or_pos k with h0 | h0
      · subst h0
        rw [gb_none _ _ _ (by simp)]
        cases decide ((x.1.size : Int) = 8) <;> cases decide ((x.2.1.length : Int) = 0) <;> cases decide (0 ≤ x.2.2 ∧ x.2.2 ≤ e) <;> cases nodesOk x.2.1 <;> simp
      · obtain ⟨r, hr1, hr2⟩ := prev_idx' hk hl h0
        have h5 : decide (0 < (k : Int)) = true := by simp; omega
        have h6 : decide (k = 0) = false := by simp; omega
        rw [hr1, hr2, h5, h6, gbs]
        simp only [Option.all_some]
        by_cases h7 : sLt r.1 x.1 = true <;> cases decide ((x.1.size : Int) = 8) <;> cases decide ((x.2.1.length : Int) = 0) <;> cases decide (0 ≤ x.2.2 ∧ x.2.2 ≤ e) <;> cases nodesOk x.2.1 <;> simp [h7]
    · intro j hj
      have hy : x.2.1[j]? = some x.2.1[j] := List.getElem?_eq_getElem hj
      generalize x.2.1[j] = y at hy
      simp only [lt_dec hj, cond_true, idx_nat, hy, Option.bind_some, gbs, wrap_succ (show j < 9223372036854775807 by omega)]
      unfold nodeOk
      simp only [hy]
      rcases Nat.eq_zero_or_pos j with h0 | h0
      · subst h0
        rw [gb_none _ _ _ (by simp)]
        cases decide (0 ≤ y ∧ y < 3) <;> simp
      · obtain ⟨r, hr1, hr2⟩ := prev_idx' hj hn h0
        have h5 : decide (0 < (j : Int)) = true := by simp; omega
        have h6 : decide (j = 0) = false := by simp; omega
        rw [hr1, hr2, h5, h6, gbs]
        simp only [Option.all_some]
        by_cases h7 : r < y
        · have h8 : decide (y ≤ r) = false := by simp; omega
          cases decide (0 ≤ y ∧ y < 3) <;> simp [h7, h8]
        · have h8 : decide (y ≤ r) = true := by simp; omega
          cases decide (0 ≤ y ∧ y < 3) <;> simp [h7, h8]
    · simp only [ge_dec, cond_false, wrap_succ (show k < 9223372036854775807 by omega)]
  · simp only [ge_dec]; rfl
theorem i_UpsOk_eq {u : D_Ups} (ho : Ok.ok u) : i_UpsOk u = some (upsOkB u) := by
  obtain ⟨e, l⟩ := u
  have hl : l.length ≤ 9223372036854775807 := ho.2.1
  have hl2 : ∀ x, x ∈ l → Ok.ok x := ho.2.2
  unfold i_UpsOk upsOkB
  simp only [within_eq, isRep_eq, Option.bind_some]
  rw [whileP_all (n := l.length) (upOk e l) (some false) (some (decide (0 ≤ e ∧ e ≤ 1000) && decide (l.length ≤ 20)))]
  · cases decide (0 ≤ e ∧ e ≤ 1000) <;> cases decide (l.length ≤ 20) <;> cases (List.range l.length).all (upOk e l) <;> rfl
  · intro k hk
    have hx : l[k]? = some l[k] := List.getElem?_eq_getElem hk
    generalize l[k] = x at hx
    have hn : x.2.1.length ≤ 9223372036854775807 := (hl2 x (List.mem_of_getElem? hx)).2.1.1
    simp only [lt_dec hk, cond_true, idx_nat, hx, Option.bind_some, gbs]
    rw [whileP_all (n := x.2.1.length) (nodeOk x.2.1) (some (.inr false)) (some (.inl ((k + 1 : Nat) : Int)))]
    · have hno : (List.range x.2.1.length).all (nodeOk x.2.1) = nodesOk x.2.1 := rfl
      unfold upOk
      simp only [hx, hno]
      rcases Nat.eq_zero_or_pos k with h0 | h0
      · subst h0
        rw [gb_none _ _ _ (by simp)]
        cases decide ((x.1.size : Int) = 8) <;> cases decide ((x.2.1.length : Int) = 0) <;> cases decide (0 ≤ x.2.2 ∧ x.2.2 ≤ e) <;> cases nodesOk x.2.1 <;> simp
      · obtain ⟨r, hr1, hr2⟩ := prev_idx' hk hl h0
        have h5 : decide (0 < (k : Int)) = true := by simp; omega
        have h6 : decide (k = 0) = false := by simp; omega
        rw [hr1, hr2, h5, h6, gbs]
        simp only [Option.all_some]
        by_cases h7 : sLt r.1 x.1 = true <;> cases decide ((x.1.size : Int) = 8) <;> cases decide ((x.2.1.length : Int) = 0) <;> cases decide (0 ≤ x.2.2 ∧ x.2.2 ≤ e) <;> cases nodesOk x.2.1 <;> simp [h7]
    · intro j hj
      have hy : x.2.1[j]? = some x.2.1[j] := List.getElem?_eq_getElem hj
      generalize x.2.1[j] = y at hy
      simp only [lt_dec hj, cond_true, idx_nat, hy, Option.bind_some, gbs, wrap_succ (show j < 9223372036854775807 by omega)]
      unfold nodeOk
      simp only [hy]
      rcases Nat.eq_zero_or_pos j with h0 | h0
      · subst h0
        rw [gb_none _ _ _ (by simp)]
        cases decide (0 ≤ y ∧ y < 3) <;> simp
      · obtain ⟨r, hr1, hr2⟩ := prev_idx' hj hn h0
        have h5 : decide (0 < (j : Int)) = true := by simp; omega
        have h6 : decide (j = 0) = false := by simp; omega
        rw [hr1, hr2, h5, h6, gbs]
        simp only [Option.all_some]
        by_cases h7 : r < y
        · have h8 : decide (y ≤ r) = false := by simp; omega
          cases decide (0 ≤ y ∧ y < 3) <;> simp [h7, h8]
        · have h8 : decide (y ≤ r) = true := by simp; omega
          cases decide (0 ≤ y ∧ y < 3) <;> simp [h7, h8]
    · simp only [ge_dec, cond_false, wrap_succ (show k < 9223372036854775807 by omega)]
  · have h9 : decide ((l.length : Int) ≤ 20) = decide (l.length ≤ 20) := by rw [Bool.eq_iff_iff]; simp; omega
    simp only [ge_dec, cond_false, h9]

/-- The first upload of a chunk. -/
def upFind (u : D_Ups) (c : ByteArray) : Option D_Up := u.2.find? fun x => decide (x.1 = c)
theorem s_l18At_eq {u : D_Ups} {c : ByteArray} (h : u.2.length ≤ 9223372036854775807) : s_l18At u c = some (firstI (fun x : D_Up => decide (x.1 = c)) u.2) := by
  unfold s_l18At
  rw [whileP_find (fun x : D_Up => decide (x.1 = c)) some h]
  · intro k x hx
    simp only [lt_dec (List.getElem?_eq_some_iff.1 hx).1, cond_true, idx_nat, hx, Option.bind_some]
    cases decide (x.1 = c) <;> rfl
  · simp only [ge_dec]; rfl
theorem i_Ups_at_eq {u : D_Ups} {c : ByteArray} (h : u.2.length ≤ 9223372036854775807) : i_Ups_at u c = some (firstI (fun x : D_Up => decide (x.1 = c)) u.2) := by
  unfold i_Ups_at sl_IndexFunc_implUpimplUp i_Ups_at_c1
  rw [whileP_find (fun x : D_Up => decide (x.1 = c)) some h]
  · rfl
  · intro k x hx
    simp only [lt_dec (List.getElem?_eq_some_iff.1 hx).1, cond_true, idx_nat, hx, Option.bind_some]
    cases decide (x.1 = c) <;> rfl
  · simp only [ge_dec]; rfl
def upNodes (u : D_Ups) (c : ByteArray) : List Int := match upFind u c with
  | some x => x.2.1
  | none => []
theorem i_Ups_nodes_eq {u : D_Ups} {c : ByteArray} (h : u.2.length ≤ 9223372036854775807) : i_Ups_nodes u c = some (upNodes u c) := by
  unfold i_Ups_nodes upNodes upFind
  simp only [Prod.eta, i_Ups_at_eq h, Option.bind_some]
  rcases firstI_find (fun x : D_Up => decide (x.1 = c)) u.2 with ⟨h1, h2⟩ | ⟨k, x, h1, h2, h3, _⟩
  · rw [h1, h2]; rfl
  · rw [h1, h3]
    simp only [show decide (0 ≤ (k : Int)) = true by simp, cond_true, idx_nat, h2, Option.bind_some]
noncomputable def upHasB (u : D_Ups) (c : ByteArray) : Int := if upsOkB u then ((upNodes u c).length : Int) else 0
end Go.Proofs.SL
