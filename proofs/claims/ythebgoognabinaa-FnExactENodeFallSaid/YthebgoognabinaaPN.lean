/- What the functions of nodes compute. -/
import Derived.Test.YthebgoognabinaaWK
import Derived.Test.YthebgoognabinaaPM
import Derived.Test.YthebgoognabinaaPNo
namespace Go.Proofs.SL
open Go
def idOkB (x : D_Id) : Bool := decide (0 ≤ x.1 ∧ x.1 ≤ 2) && decide (1 ≤ x.2 ∧ x.2 ≤ 6)
theorem s_l8Id_eq (x : D_Id) : s_l8Id x = some (idOkB x) := by
  unfold s_l8Id idOkB
  simp only [l1In_eq, Option.bind_some, gbs]
  cases decide (0 ≤ x.1 ∧ x.1 ≤ 2) <;> cases decide (1 ≤ x.2 ∧ x.2 ≤ 6) <;> rfl
theorem i_idOk_eq (x : D_Id) : i_idOk x = some (idOkB x) := by
  unfold i_idOk idOkB
  simp only [within_eq, Option.bind_some, gbs]
  cases decide (0 ≤ x.1 ∧ x.1 ≤ 2) <;> cases decide (1 ≤ x.2 ∧ x.2 ≤ 6) <;> rfl
def idLt (a b : D_Id) : Bool := decide (a.1 < b.1) || (decide (a.1 = b.1) && decide (a.2 < b.2))
theorem s_l8Less_eq (a b : D_Id) : s_l8Less a b = some (idLt a b) := rfl
theorem compareIds_eq (a b : D_Id) : ∃ c, i_compareIds a b = some c ∧ decide (0 ≤ c) = !idLt a b := by
  unfold i_compareIds idLt
  cases h : decide (a.1 < b.1) || (decide (a.1 = b.1) && decide (a.2 < b.2)) with
  | true => exact ⟨-1, rfl, rfl⟩
  | false =>
    cases h2 : decide (a.1 = b.1) && (decide (a.2 = b.2) && true) with
    | true => exact ⟨0, rfl, rfl⟩
    | false => exact ⟨1, rfl, rfl⟩
def idEq (a b : D_Id) : Bool := decide (a.1 = b.1) && (decide (a.2 = b.2) && true)
theorem idEq_comm (a b : D_Id) : idEq a b = idEq b a := by unfold idEq; rw [Bool.eq_iff_iff]; simp only [Bool.and_eq_true, decide_eq_true_eq, and_true]; constructor <;> (rintro ⟨h1, h2⟩; exact ⟨h1.symm, h2.symm⟩)
def idAt (l : List D_Id) (k : Nat) : Bool := match l[k]? with
  | none => false
  | some x => idOkB x && (decide (k = 0) || (l[k - 1]?).all fun r => idLt r x)
def idsOkB (l : List D_Id) : Bool := (List.range l.length).all (idAt l)
theorem s_IdsOk_eq {l : List D_Id} (hl : l.length ≤ 9223372036854775807) : s_IdsOk l = some (idsOkB l) := by
  unfold s_IdsOk idsOkB
  rw [whileP_all (n := l.length) (idAt l) (some false) (some true)]
  · cases (List.range l.length).all (idAt l) <;> rfl
  · intro k hk
    have hx : l[k]? = some l[k] := List.getElem?_eq_getElem hk
    generalize l[k] = x at hx
    simp only [lt_dec hk, cond_true, idx_nat, hx, Option.bind_some, Prod.eta, s_l8Id_eq, s_l8Less_eq, wrap_succ (show k < 9223372036854775807 by omega)]
    unfold idAt
    simp only [hx]
    rcases Nat.eq_zero_or_pos k with h0 | h0
    · subst h0
      rw [gb_none _ _ _ (by simp)]
      cases idOkB x <;> simp [gb]
    · obtain ⟨r, hr1, hr2⟩ := prev_idx' hk hl h0
      have h5 : decide (0 < (k : Int)) = true := by simp; omega
      have h6 : decide (k = 0) = false := by simp; omega
      rw [hr1, hr2, h5, h6, gbs]
      simp only [Option.all_some]
      by_cases h7 : idLt r x = true <;> cases idOkB x <;> simp [gb, h7]
  · simp only [ge_dec]; rfl
theorem i_IdsOk_eq {l : List D_Id} (hl : l.length ≤ 9223372036854775807) : i_IdsOk l = some (idsOkB l) := by
  unfold i_IdsOk idsOkB
  rw [whileP_all (n := l.length) (idAt l) (some false) (some true)]
  · cases (List.range l.length).all (idAt l) <;> rfl
  · intro k hk
    have hx : l[k]? = some l[k] := List.getElem?_eq_getElem hk
    generalize l[k] = x at hx
    simp only [lt_dec hk, cond_true, idx_nat, hx, Option.bind_some, Prod.eta, i_idOk_eq, wrap_succ (show k < 9223372036854775807 by omega)]
    unfold idAt
    simp only [hx]
    rcases Nat.eq_zero_or_pos k with h0 | h0
    · subst h0
      rw [gb_none _ _ _ (by simp), gb_none _ _ _ (by simp)]
      cases idOkB x <;> simp
    · obtain ⟨r, hr1, hr2⟩ := prev_idx' hk hl h0
      have h5 : decide (0 < (k : Int)) = true := by simp; omega
      have h6 : decide (k = 0) = false := by simp; omega
      obtain ⟨c, hc1, hc2⟩ := compareIds_eq r x
      rw [hr1, hr2, h5, h6, gbs]
      simp only [Option.all_some, hc1]
      by_cases h7 : idLt r x = true <;> cases idOkB x <;> simp [gb, h7, hc2]
  · simp only [ge_dec]; rfl
theorem s_l8Has_eq {l : List D_Id} {x : D_Id} (h : l.length ≤ 9223372036854775807) : s_l8Has l x = some (l.any fun y => idEq y x) := by
  unfold s_l8Has
  rw [whileP_find (fun y => idEq y x) (fun i => some (decide (0 ≤ i))) h, firstI_any]
  · intro k y hy
    simp only [lt_dec (List.getElem?_eq_some_iff.1 hy).1, cond_true, idx_nat, hy, Option.bind_some]
    show cond (idEq y x) _ _ = _
    cases idEq y x <;> simp
  · simp only [ge_dec]; rfl
theorem containsId_eq {l : List D_Id} {x : D_Id} (h : l.length ≤ 9223372036854775807) : sl_Contains_implIdimplId l x = some (l.any fun y => idEq y x) := by
  unfold sl_Contains_implIdimplId sl_Index_implIdimplId
  rw [whileP_find (fun y => idEq y x) some h]
  · rw [Option.bind_some, firstI_any]
  · intro k y hy
    simp only [lt_dec (List.getElem?_eq_some_iff.1 hy).1, cond_true, idx_nat, hy, Option.bind_some]
    show cond (idEq x y) _ _ = _
    rw [idEq_comm]
    cases idEq y x <;> rfl
  · simp only [ge_dec]; rfl
noncomputable def instOkB (x : D_Inst) : Bool := idOkB x.1 && decide (-1 ≤ x.2.1 ∧ x.2.1 ≤ 600) && decide (-1 ≤ x.2.2.1 ∧ x.2.2.1 ≤ x.2.1) && decide (0 ≤ x.2.2.2.1 ∧ x.2.2.2.1 ≤ 3) && cmdOkB x.2.2.2.2.1 && decide (0 ≤ x.2.2.2.2.2.1 ∧ x.2.2.2.2.2.1 ≤ 60) && idsOkB x.2.2.2.2.2.2.1 && !(x.2.2.2.2.2.2.1.any fun y => idEq y x.1) &&
  ((!decide (x.2.2.2.1 = 0)) || (((((decide (x.2.2.1 = (-1))) && (decide (x.2.2.2.2.1.1 = 0))) && (decide (x.2.2.2.2.2.1 = 0))) && (decide ((x.2.2.2.2.2.2.1.length : Int) = 0))) && (!x.2.2.2.2.2.2.2)))
theorem s_l8Inst_eq {x : D_Inst} (ho : Ok.ok x) : s_l8Inst x = some (instOkB x) := by
  have hc : Ok.ok x.2.2.2.2.1 := ho.2.2.2.2.1
  have hd : x.2.2.2.2.2.2.1.length ≤ 9223372036854775807 := ho.2.2.2.2.2.2.1.1
  unfold s_l8Inst instOkB
  simp only [Prod.eta, s_l8Id_eq, l1In_eq, s_CmdOk_eq hc, s_IdsOk_eq hd, s_l8Has_eq hd, Option.bind_some]
  generalize ((!decide (x.2.2.2.1 = 0)) || (((((decide (x.2.2.1 = (-1))) && (decide (x.2.2.2.2.1.1 = 0))) && (decide (x.2.2.2.2.2.1 = 0))) && (decide ((x.2.2.2.2.2.2.1.length : Int) = 0))) && (!x.2.2.2.2.2.2.2))) = b9
  generalize (x.2.2.2.2.2.2.1.any fun y => idEq y x.1) = b8
  generalize idsOkB x.2.2.2.2.2.2.1 = b7
  generalize decide (0 ≤ x.2.2.2.2.2.1 ∧ x.2.2.2.2.2.1 ≤ 60) = b6
  generalize cmdOkB x.2.2.2.2.1 = b5
  generalize decide (0 ≤ x.2.2.2.1 ∧ x.2.2.2.1 ≤ 3) = b4
  generalize decide (-1 ≤ x.2.2.1 ∧ x.2.2.1 ≤ x.2.1) = b3
  generalize decide (-1 ≤ x.2.1 ∧ x.2.1 ≤ 600) = b2
  generalize idOkB x.1 = b1
  cases b1
  · rfl
  cases b2
  · rfl
  cases b3
  · rfl
  cases b4
  · rfl
  cases b5
  · rfl
  cases b6
  · rfl
  cases b7
  · rfl
  cases b8 <;> rfl
theorem i_instOk_eq {x : D_Inst} (ho : Ok.ok x) : i_instOk x = some (instOkB x) := by
  have hc : Ok.ok x.2.2.2.2.1 := ho.2.2.2.2.1
  have hd : x.2.2.2.2.2.2.1.length ≤ 9223372036854775807 := ho.2.2.2.2.2.2.1.1
  unfold i_instOk instOkB
  simp only [Prod.eta, i_idOk_eq, within_eq, i_CmdOk_eq hc, i_IdsOk_eq hd, containsId_eq hd, Option.bind_some]
  generalize ((!decide (x.2.2.2.1 = 0)) || (((((decide (x.2.2.1 = (-1))) && (decide (x.2.2.2.2.1.1 = 0))) && (decide (x.2.2.2.2.2.1 = 0))) && (decide ((x.2.2.2.2.2.2.1.length : Int) = 0))) && (!x.2.2.2.2.2.2.2))) = b9
  generalize (x.2.2.2.2.2.2.1.any fun y => idEq y x.1) = b8
  generalize idsOkB x.2.2.2.2.2.2.1 = b7
  generalize decide (0 ≤ x.2.2.2.2.2.1 ∧ x.2.2.2.2.2.1 ≤ 60) = b6
  generalize cmdOkB x.2.2.2.2.1 = b5
  generalize decide (0 ≤ x.2.2.2.1 ∧ x.2.2.2.1 ≤ 3) = b4
  generalize decide (-1 ≤ x.2.2.1 ∧ x.2.2.1 ≤ x.2.1) = b3
  generalize decide (-1 ≤ x.2.1 ∧ x.2.1 ≤ 600) = b2
  generalize idOkB x.1 = b1
  cases b1
  · rfl
  cases b2
  · rfl
  cases b3
  · rfl
  cases b4
  · rfl
  cases b5
  · rfl
  cases b6
  · rfl
  cases b7
  · rfl
  cases b8 <;> rfl
noncomputable def instAt (l : List D_Inst) (k : Nat) : Bool := match l[k]? with
  | none => false
  | some x => instOkB x && (decide (k = 0) || (l[k - 1]?).all fun r => idLt r.1 x.1)
noncomputable def instsOkB (l : List D_Inst) : Bool := (List.range l.length).all (instAt l)
theorem s_InstsOk_eq {l : List D_Inst} (ho : Ok.ok l) : s_InstsOk l = some (instsOkB l) := by
  have hl : l.length ≤ 9223372036854775807 := ho.1
  unfold s_InstsOk instsOkB
  rw [whileP_all (n := l.length) (instAt l) (some false) (some true)]
  · cases (List.range l.length).all (instAt l) <;> rfl
  · intro k hk
    have hx : l[k]? = some l[k] := List.getElem?_eq_getElem hk
    generalize l[k] = x at hx
    have hox : Ok.ok x := ho.2 x (List.mem_of_getElem? hx)
    simp only [lt_dec hk, cond_true, idx_nat, hx, Option.bind_some, Prod.eta, s_l8Inst_eq hox, s_l8Less_eq, wrap_succ (show k < 9223372036854775807 by omega)]
    unfold instAt
    simp only [hx]
    rcases Nat.eq_zero_or_pos k with h0 | h0
    · subst h0
      rw [gb_none _ _ _ (by simp)]
      cases instOkB x <;> simp [gb]
    · obtain ⟨r, hr1, hr2⟩ := prev_idx' hk hl h0
      have h5 : decide (0 < (k : Int)) = true := by simp; omega
      have h6 : decide (k = 0) = false := by simp; omega
      rw [hr1, hr2, h5, h6, gbs]
      simp only [Option.all_some]
      by_cases h7 : idLt r.1 x.1 = true <;> cases instOkB x <;> simp [gb, h7]
  · simp only [ge_dec]; rfl
theorem i_InstsOk_eq {l : List D_Inst} (ho : Ok.ok l) : i_InstsOk l = some (instsOkB l) := by
  have hl : l.length ≤ 9223372036854775807 := ho.1
  unfold i_InstsOk instsOkB
  rw [whileP_all (n := l.length) (instAt l) (some false) (some true)]
  · cases (List.range l.length).all (instAt l) <;> rfl
  · intro k hk
    have hx : l[k]? = some l[k] := List.getElem?_eq_getElem hk
    generalize l[k] = x at hx
    have hox : Ok.ok x := ho.2 x (List.mem_of_getElem? hx)
    simp only [lt_dec hk, cond_true, idx_nat, hx, Option.bind_some, Prod.eta, i_instOk_eq hox, wrap_succ (show k < 9223372036854775807 by omega)]
    unfold instAt
    simp only [hx]
    rcases Nat.eq_zero_or_pos k with h0 | h0
    · subst h0
      rw [gb_none _ _ _ (by simp), gb_none _ _ _ (by simp)]
      cases instOkB x <;> simp
    · obtain ⟨r, hr1, hr2⟩ := prev_idx' hk hl h0
      have h5 : decide (0 < (k : Int)) = true := by simp; omega
      have h6 : decide (k = 0) = false := by simp; omega
      obtain ⟨c, hc1, hc2⟩ := compareIds_eq r.1 x.1
      rw [hr1, hr2, h5, h6, gbs]
      simp only [Option.all_some, hc1]
      by_cases h7 : idLt r.1 x.1 = true <;> cases instOkB x <;> simp [gb, h7, hc2]
  · simp only [ge_dec]; rfl
end Go.Proofs.SL
