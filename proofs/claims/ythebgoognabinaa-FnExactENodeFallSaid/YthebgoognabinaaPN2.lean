/- Leads, nodes, copies of nodes. -/
import Derived.Test.YthebgoognabinaaPN
namespace Go.Proofs.SL
open Go
noncomputable def leadOkB (x : D_Lead) : Bool := idOkB x.1 && decide (0 ≤ x.2.1 ∧ x.2.1 ≤ 600) && decide (1 ≤ x.2.2.1 ∧ x.2.2.1 ≤ 3) && decide (0 ≤ x.2.2.2.1 ∧ x.2.2.2.1 ≤ 60) && idsOkB x.2.2.2.2.1 && !(x.2.2.2.2.1.any fun y => idEq y x.1) && nodesOk x.2.2.2.2.2.1
theorem nodes_loop {α : Type} {l : List Int} {f : Int → Option (Int ⊕ α)} (no yes : Option α) (hl : l.length ≤ 9223372036854775807)
    (hf : ∀ (k : Nat) (y : Int), l[k]? = some y → f (k : Int) = gb ((!(!decide (0 ≤ y ∧ y < 3))) && (decide (0 < (k : Int)))) (idx l (IntKind.wrap .i64 ((k : Int) - 1))) (fun r => cond ((!decide (0 ≤ y ∧ y < 3)) || ((decide (0 < (k : Int))) && (decide (y ≤ r)))) (no.map .inr) (some (.inl (IntKind.wrap .i64 ((k : Int) + 1))))))
    (he : f (l.length : Int) = yes.map .inr) : whileP f 0 = if nodesOk l then yes else no := by
  refine whileP_all (n := l.length) (nodeOk l) no yes (fun k hk => ?_) he
  have hy : l[k]? = some l[k] := List.getElem?_eq_getElem hk
  generalize l[k] = y at hy
  rw [hf k y hy]
  simp only [wrap_succ (show k < 9223372036854775807 by omega)]
  unfold nodeOk
  simp only [hy]
  rcases Nat.eq_zero_or_pos k with h0 | h0
  · subst h0
    rw [gb_none _ _ _ (by simp)]
    cases decide (0 ≤ y ∧ y < 3) <;> simp
  · obtain ⟨r, hr1, hr2⟩ := prev_idx' hk hl h0
    have h5 : decide (0 < (k : Int)) = true := by simp; omega
    have h6 : decide (k = 0) = false := by simp; omega
    rw [hr1, hr2, h5, h6, gbs]
    simp only [Option.all_some]
    by_cases h7 : r < y
    · have h8 : decide (y ≤ r) = false := by simp; omega
      cases decide (0 ≤ y ∧ y < 3) <;> simp [h7, h8]
    · have h8 : decide (y ≤ r) = true := by simp; omega
      cases decide (0 ≤ y ∧ y < 3) <;> simp [h7, h8]
theorem s_l9Lead_eq {x : D_Lead} (ho : Ok.ok x) : s_l9Lead x = some (leadOkB x) := by
  have hd : x.2.2.2.2.1.length ≤ 9223372036854775807 := ho.2.2.2.2.1.1
  have hf : x.2.2.2.2.2.1.length ≤ 9223372036854775807 := ho.2.2.2.2.2.1.1
  unfold s_l9Lead leadOkB
  rw [nodes_loop (l := x.2.2.2.2.2.1) (some false) (some true) hf]
  · simp only [Prod.eta, s_l8Id_eq, l1In_eq, s_IdsOk_eq hd, s_l8Has_eq hd, Option.bind_some]
    have h3 : nodesOk x.2.2.2.2.2.1 = true → decide (3 < (x.2.2.2.2.2.1.length : Int)) = false := fun h => by
      obtain ⟨h1, h2⟩ := nodesOk_facts h
      have := nodes_le h1 h2
      simp; omega
    generalize decide (3 < (x.2.2.2.2.2.1.length : Int)) = b8 at *
    generalize nodesOk x.2.2.2.2.2.1 = b7 at *
    generalize (x.2.2.2.2.1.any fun y => idEq y x.1) = b6
    generalize idsOkB x.2.2.2.2.1 = b5
    generalize decide (0 ≤ x.2.2.2.1 ∧ x.2.2.2.1 ≤ 60) = b4
    generalize decide (1 ≤ x.2.2.1 ∧ x.2.2.1 ≤ 3) = b3
    generalize decide (0 ≤ x.2.1 ∧ x.2.1 ≤ 600) = b2
    generalize idOkB x.1 = b1
    cases b1
    · rfl
    cases b2
    · rfl
    cases b3
    · rfl
    cases b4
    · rfl
    cases b5
    · rfl
    cases b6
    · cases b7
      · cases b8 <;> rfl
      · rw [h3 rfl]; rfl
    · rfl
  · intro k y hy
    simp only [lt_dec (List.getElem?_eq_some_iff.1 hy).1, cond_true, idx_nat, hy, Option.bind_some, l9Node_eq]
    congr 1
    funext r
    cases h : ((!(!decide (0 ≤ y ∧ y < 3))) && decide (0 < (k : Int))) with
    | true => rfl
    | false =>
      simp only [gb]
      simp only [Bool.and_eq_false_imp, Bool.not_not] at h
      cases h1 : decide (0 ≤ y ∧ y < 3) with
      | false => rfl
      | true => rw [h h1]; rfl
  · simp only [ge_dec]; rfl
theorem i_areDeps_eq {l : List D_Id} {x : D_Id} (h : l.length ≤ 9223372036854775807) : i_areDeps l x = some (idsOkB l && !(l.any fun y => idEq y x)) := by
  unfold i_areDeps
  simp only [Prod.eta, i_IdsOk_eq h, containsId_eq h, Option.bind_some, gbs]
  cases idsOkB l <;> rfl
theorem i_leadOk_eq {x : D_Lead} (ho : Ok.ok x) : i_leadOk x = some (leadOkB x) := by
  have hd : x.2.2.2.2.1.length ≤ 9223372036854775807 := ho.2.2.2.2.1.1
  have hf : x.2.2.2.2.2.1.length ≤ 9223372036854775807 := ho.2.2.2.2.2.1.1
  unfold i_leadOk leadOkB
  rw [nodes_loop (l := x.2.2.2.2.2.1) (some false) (some (idOkB x.1 && decide (0 ≤ x.2.1 ∧ x.2.1 ≤ 600) && decide (1 ≤ x.2.2.1 ∧ x.2.2.1 ≤ 3) && decide (0 ≤ x.2.2.2.1 ∧ x.2.2.2.1 ≤ 60) && (idsOkB x.2.2.2.2.1 && !(x.2.2.2.2.1.any fun y => idEq y x.1)))) hf]
  · cases nodesOk x.2.2.2.2.2.1 with
    | true => simp only [if_true, Bool.and_true, Bool.and_assoc]
    | false => simp
  · intro k y hy
    simp only [lt_dec (List.getElem?_eq_some_iff.1 hy).1, cond_true, idx_nat, hy, Option.bind_some, isRep_eq]
  · simp only [ge_dec, cond_false, Prod.eta, i_idOk_eq, within_eq, i_areDeps_eq hd, Option.bind_some, gbs]
    generalize (idsOkB x.2.2.2.2.1 && !(x.2.2.2.2.1.any fun y => idEq y x.1)) = b5
    generalize decide (0 ≤ x.2.2.2.1 ∧ x.2.2.2.1 ≤ 60) = b4
    generalize decide (1 ≤ x.2.2.1 ∧ x.2.2.1 ≤ 3) = b3
    generalize decide (0 ≤ x.2.1 ∧ x.2.1 ≤ 600) = b2
    generalize idOkB x.1 = b1
    cases b1 <;> cases b2 <;> cases b3 <;> cases b4 <;> cases b5 <;> rfl
theorem s_l9At_eq {d : D_ENode} {x : D_Id} (h : d.2.2.2.length ≤ 9223372036854775807) : s_l9At d x = some (firstI (fun y : D_Lead => idEq y.1 x) d.2.2.2) := by
  unfold s_l9At
  rw [whileP_find (fun y : D_Lead => idEq y.1 x) some h]
  · intro k y hy
    simp only [lt_dec (List.getElem?_eq_some_iff.1 hy).1, cond_true, idx_nat, hy, Option.bind_some]
    show cond (idEq y.1 x) _ _ = _
    cases idEq y.1 x <;> rfl
  · simp only [ge_dec]; rfl
theorem i_lead_eq {d : D_ENode} {x : D_Id} (h : d.2.2.2.length ≤ 9223372036854775807) : i_ENode_lead d x = some (firstI (fun y : D_Lead => idEq y.1 x) d.2.2.2) := by
  unfold i_ENode_lead sl_IndexFunc_implLeadimplLead i_ENode_lead_c1
  rw [whileP_find (fun y : D_Lead => idEq y.1 x) some h]
  · rfl
  · intro k y hy
    simp only [lt_dec (List.getElem?_eq_some_iff.1 hy).1, cond_true, idx_nat, hy, Option.bind_some]
    show cond (idEq y.1 x) _ _ = _
    cases idEq y.1 x <;> rfl
  · simp only [ge_dec]; rfl
noncomputable def leadAt (l : List D_Lead) (k : Nat) : Bool := match l[k]? with
  | none => false
  | some x => leadOkB x && decide (firstI (fun y : D_Lead => idEq y.1 x.1) l = (k : Int))
noncomputable def nodeOkB (d : D_ENode) : Bool := decide (0 ≤ d.1 ∧ d.1 < 3) && decide (1 ≤ d.2.1 ∧ d.2.1 ≤ 7) && instsOkB d.2.2.1 && decide (d.2.2.2.length ≤ 8) && (d.2.2.1.all fun x => !(decide (x.1.1 = d.1) && decide (d.2.1 ≤ x.1.2))) && (List.range d.2.2.2.length).all (leadAt d.2.2.2)
theorem s_ENodeOk_eq {d : D_ENode} (ho : Ok.ok d) : s_ENodeOk d = some (nodeOkB d) := by
  have hi : Ok.ok d.2.2.1 := ho.2.2.1
  have hil : d.2.2.1.length ≤ 9223372036854775807 := ho.2.2.1.1
  have hll : d.2.2.2.length ≤ 9223372036854775807 := ho.2.2.2.1
  have hin : (whileP (fun s12 : Int => cond (decide (s12 < (d.2.2.2.length : Int))) (Option.bind (idx d.2.2.2 s12) (fun y14 => Option.bind (s_l9Lead y14) (fun y15 => gb (!(!y15)) (idx d.2.2.2 s12) (fun y16 => gb (!(!y15)) (s_l9At d y16.1) (fun y17 => cond ((!y15) || (!decide (y17 = s12))) (Option.map .inr (some false)) (some (.inl (IntKind.wrap .i64 (s12 + 1))))))))) (Option.map .inr (some true))) 0 : Option Bool) = if (List.range d.2.2.2.length).all (leadAt d.2.2.2) then some true else some false := by
    refine whileP_all (n := d.2.2.2.length) (leadAt d.2.2.2) (some false) (some true) ?_ ?_
    · intro k hk
      have hx : d.2.2.2[k]? = some d.2.2.2[k] := List.getElem?_eq_getElem hk
      generalize d.2.2.2[k] = x at hx
      have hox : Ok.ok x := ho.2.2.2.2 x (List.mem_of_getElem? hx)
      simp only [lt_dec hk, cond_true, idx_nat, hx, Option.bind_some, s_l9Lead_eq hox, s_l9At_eq hll, wrap_succ (show k < 9223372036854775807 by omega)]
      unfold leadAt
      simp only [hx]
      cases leadOkB x with
      | false => rfl
      | true =>
        simp only [Bool.not_true, Bool.not_false, gb, Option.bind_some, Bool.true_and, Bool.false_or]
        cases decide (firstI (fun y : D_Lead => idEq y.1 x.1) d.2.2.2 = (k : Int)) <;> rfl
    · simp only [ge_dec]; rfl
  unfold s_ENodeOk nodeOkB
  simp only [Prod.eta]
  rw [hin, each_loop (l := d.2.2.1) (p := fun x => !(decide (x.1.1 = d.1) && decide (d.2.1 ≤ x.1.2))) (no := some false) (yes := if (List.range d.2.2.2.length).all (leadAt d.2.2.2) then some true else some false) hil]
  · have h8 : decide (8 < (d.2.2.2.length : Int)) = !decide (d.2.2.2.length ≤ 8) := by rw [Bool.eq_iff_iff]; simp; omega
    simp only [l9Node_eq, l1In_eq, s_InstsOk_eq hi, Option.bind_some, h8]
    generalize (List.range d.2.2.2.length).all (leadAt d.2.2.2) = b6
    generalize (d.2.2.1.all fun x => !(decide (x.1.1 = d.1) && decide (d.2.1 ≤ x.1.2))) = b5
    generalize decide (d.2.2.2.length ≤ 8) = b4
    generalize instsOkB d.2.2.1 = b3
    generalize decide (1 ≤ d.2.1 ∧ d.2.1 ≤ 7) = b2
    generalize decide (0 ≤ d.1 ∧ d.1 < 3) = b1
    cases b1
    · rfl
    cases b2
    · rfl
    cases b3
    · rfl
    cases b4
    · rfl
    cases b5
    · rfl
    cases b6 <;> rfl
  · intro k x hx
    simp only [lt_dec (List.getElem?_eq_some_iff.1 hx).1, cond_true, idx_nat, hx, Option.bind_some]
    cases h1 : decide (x.1.1 = d.1) <;> cases h2 : decide (d.2.1 ≤ x.1.2) <;> simp [gb, h2]
  · simp only [ge_dec]; rfl
theorem i_ENodeOk_eq {d : D_ENode} (ho : Ok.ok d) : i_ENodeOk d = some (nodeOkB d) := by
  have hi : Ok.ok d.2.2.1 := ho.2.2.1
  have hil : d.2.2.1.length ≤ 9223372036854775807 := ho.2.2.1.1
  have hll : d.2.2.2.length ≤ 9223372036854775807 := ho.2.2.2.1
  have hin : (whileP (fun s12 : Int => cond (decide (s12 < (d.2.2.2.length : Int))) (Option.bind (idx d.2.2.2 s12) (fun y14 => Option.bind (i_leadOk y14) (fun y15 => gb (!(!y15)) (i_ENode_lead d y14.1) (fun y16 => cond ((!y15) || (!decide (y16 = s12))) (Option.map .inr (some false)) (some (.inl (IntKind.wrap .i64 (s12 + 1)))))))) (Option.map .inr (some true))) 0 : Option Bool) = if (List.range d.2.2.2.length).all (leadAt d.2.2.2) then some true else some false := by
    refine whileP_all (n := d.2.2.2.length) (leadAt d.2.2.2) (some false) (some true) ?_ ?_
    · intro k hk
      have hx : d.2.2.2[k]? = some d.2.2.2[k] := List.getElem?_eq_getElem hk
      generalize d.2.2.2[k] = x at hx
      have hox : Ok.ok x := ho.2.2.2.2 x (List.mem_of_getElem? hx)
      simp only [lt_dec hk, cond_true, idx_nat, hx, Option.bind_some, i_leadOk_eq hox, i_lead_eq hll, wrap_succ (show k < 9223372036854775807 by omega)]
      unfold leadAt
      simp only [hx]
      cases leadOkB x with
      | false => rfl
      | true =>
        simp only [Bool.not_true, Bool.not_false, gb, Option.bind_some, Bool.true_and, Bool.false_or]
        cases decide (firstI (fun y : D_Lead => idEq y.1 x.1) d.2.2.2 = (k : Int)) <;> rfl
    · simp only [ge_dec]; rfl
  unfold i_ENodeOk nodeOkB
  simp only [Prod.eta]
  rw [hin, each_loop (l := d.2.2.1) (p := fun x => !(decide (x.1.1 = d.1) && decide (d.2.1 ≤ x.1.2))) (no := some false) (yes := if (List.range d.2.2.2.length).all (leadAt d.2.2.2) then some true else some false) hil]
  · have h8 : decide (8 < (d.2.2.2.length : Int)) = !decide (d.2.2.2.length ≤ 8) := by rw [Bool.eq_iff_iff]; simp; omega
    simp only [isRep_eq, within_eq, i_InstsOk_eq hi, Option.bind_some, h8]
    generalize (List.range d.2.2.2.length).all (leadAt d.2.2.2) = b6
    generalize (d.2.2.1.all fun x => !(decide (x.1.1 = d.1) && decide (d.2.1 ≤ x.1.2))) = b5
    generalize decide (d.2.2.2.length ≤ 8) = b4
    generalize instsOkB d.2.2.1 = b3
    generalize decide (1 ≤ d.2.1 ∧ d.2.1 ≤ 7) = b2
    generalize decide (0 ≤ d.1 ∧ d.1 < 3) = b1
    cases b1
    · rfl
    cases b2
    · rfl
    cases b3
    · rfl
    cases b4
    · rfl
    cases b5
    · rfl
    cases b6 <;> rfl
  · intro k x hx
    simp only [lt_dec (List.getElem?_eq_some_iff.1 hx).1, cond_true, idx_nat, hx, Option.bind_some, i_ENode_unknown]
    cases h1 : decide (x.1.1 = d.1) <;> cases h2 : decide (d.2.1 ≤ x.1.2) <;> simp
  · simp only [ge_dec]; rfl
/-! Copies -/
def smallI (x : D_Inst) : Prop := x.2.2.2.2.1.2.2.2.2.2.2.2.length ≤ 1048576 ∧ x.2.2.2.2.2.2.1.length ≤ 1048576
def smallL (x : D_Lead) : Prop := x.2.2.2.2.1.length ≤ 1048576 ∧ x.2.2.2.2.2.1.length ≤ 1048576
def smallN (d : D_ENode) : Prop := d.2.2.1.length ≤ 1048576 ∧ (∀ x, x ∈ d.2.2.1 → smallI x) ∧ d.2.2.2.length ≤ 1048576 ∧ ∀ x, x ∈ d.2.2.2 → smallL x
theorem s_l4Copy_eq {c : D_Cmd} (h : c.2.2.2.2.2.2.2.length ≤ 1048576) : s_l4Copy c = some c := by
  unfold s_l4Copy
  simp only [Option.bind_some]
  rw [appP_ok (by simp; omega)]; rfl
theorem s_l8Copy_eq {x : D_Inst} (h : smallI x) : s_l8Copy x = some x := by
  unfold s_l8Copy
  simp only [Prod.eta, s_l4Copy_eq h.1, Option.bind_some]
  have := h.2
  rw [appP_ok (by simp; omega)]; rfl
theorem copyTexts_eq {l : List ByteArray} (h : l.length ≤ 4294967296) : i_copyTexts l = some l := by
  unfold i_copyTexts
  rw [appP_ok (by simpa using h)]; rfl
theorem i_copyCmd_eq {c : D_Cmd} (h : c.2.2.2.2.2.2.2.length ≤ 1048576) : i_copyCmd c = some c := by
  unfold i_copyCmd
  rw [copyTexts_eq (by omega)]; rfl
theorem i_copyIds_eq {l : List D_Id} (h : l.length ≤ 4294967296) : i_copyIds l = some l := by
  unfold i_copyIds
  rw [appP_ok (by simpa using h)]; rfl
theorem i_copyInst_eq {x : D_Inst} (h : smallI x) : i_copyInst x = some x := by
  unfold i_copyInst
  have := h.2
  simp only [Prod.eta, i_copyCmd_eq h.1, Option.bind_some, i_copyIds_eq (show x.2.2.2.2.2.2.1.length ≤ 4294967296 by omega)]
theorem s_l8CopyAll_eq {l : List D_Inst} (h1 : l.length ≤ 1048576) (h2 : ∀ x, x ∈ l → smallI x) : s_l8CopyAll l = some l := by
  unfold s_l8CopyAll
  simp only [Option.bind_some]
  rw [whileP_for (l := l) (fun k (t : List D_Inst) => (t, (k : Int))) (fun t x => .inl (t ++ [x])) (fun t => some t) (fun k t => t.length = k) [] (s0 := ([], 0)) rfl rfl, goE_app]
  · rfl
  · intro k t x hx ht
    have hlt := (List.getElem?_eq_some_iff.1 hx).1
    refine .inl ⟨t ++ [x], rfl, ?_, by simp [ht]⟩
    simp only [lt_dec hlt, cond_true, idx_nat, hx, Option.bind_some, Prod.eta, s_l8Copy_eq (h2 x (List.mem_of_getElem? hx)), wrap_succ (show k < 9223372036854775807 by omega)]
    rw [appP_ok (by simp; omega)]; rfl
  · intro t ht
    simp only [ge_dec]; rfl
theorem i_copyInsts_eq {l : List D_Inst} (h1 : l.length ≤ 1048576) (h2 : ∀ x, x ∈ l → smallI x) : i_copyInsts l = some l := by
  unfold i_copyInsts
  rw [whileP_for (l := l) (fun k (t : List D_Inst) => (t, (k : Int))) (fun t x => .inl (t ++ [x])) (fun t => some t) (fun k t => t.length = k) [] (s0 := ([], 0)) rfl rfl, goE_app]
  · rfl
  · intro k t x hx ht
    have hlt := (List.getElem?_eq_some_iff.1 hx).1
    refine .inl ⟨t ++ [x], rfl, ?_, by simp [ht]⟩
    simp only [lt_dec hlt, cond_true, idx_nat, hx, Option.bind_some, Prod.eta, i_copyInst_eq (h2 x (List.mem_of_getElem? hx)), wrap_succ (show k < 9223372036854775807 by omega)]
    rw [appP_ok (by simp; omega)]; rfl
  · intro t ht
    simp only [ge_dec]; rfl
theorem s_l9Copy_eq {d : D_ENode} (h : smallN d) : s_l9Copy d = some d := by
  obtain ⟨me, nx, is, ls⟩ := d
  obtain ⟨h1, h2, h3, h4⟩ := h
  dsimp only at h1 h2 h3 h4
  unfold s_l9Copy
  simp only [s_l8CopyAll_eq h1 h2, Option.bind_some]
  rw [whileP_for (l := ls) (fun k (t : List D_Lead) => ((k : Int), t)) (fun t x => .inl (t ++ [x])) (fun t => some (me, nx, is, t)) (fun k t => t.length = k) [] (s0 := (0, [])) rfl rfl, goE_app]
  · rfl
  · intro k t x hx ht
    have hlt := (List.getElem?_eq_some_iff.1 hx).1
    obtain ⟨h5, h6⟩ := h4 x (List.mem_of_getElem? hx)
    refine .inl ⟨t ++ [x], rfl, ?_, by simp [ht]⟩
    simp only [lt_dec hlt, cond_true, idx_nat, hx, Option.bind_some, Prod.eta, wrap_succ (show k < 9223372036854775807 by omega), appP_ok (a := ([] : List D_Id)) (b := x.2.2.2.2.1) (by simp; omega), appP_ok (a := ([] : List Int)) (b := x.2.2.2.2.2.1) (by simp; omega), List.nil_append]
    rw [appP_ok (by simp; omega)]; rfl
  · intro t ht
    simp only [ge_dec]; rfl
theorem i_copyENode_eq {d : D_ENode} (h : smallN d) : i_copyENode d = some d := by
  obtain ⟨me, nx, is, ls⟩ := d
  obtain ⟨h1, h2, h3, h4⟩ := h
  dsimp only at h1 h2 h3 h4
  unfold i_copyENode
  simp only [i_copyInsts_eq h1 h2, Option.bind_some]
  rw [whileP_for (l := ls) (fun k (t : List D_Lead) => ((k : Int), t)) (fun t x => .inl (t ++ [x])) (fun t => some (me, nx, is, t)) (fun k t => t.length = k) [] (s0 := (0, [])) rfl rfl, goE_app]
  · rfl
  · intro k t x hx ht
    have hlt := (List.getElem?_eq_some_iff.1 hx).1
    obtain ⟨h5, h6⟩ := h4 x (List.mem_of_getElem? hx)
    refine .inl ⟨t ++ [x], rfl, ?_, by simp [ht]⟩
    simp only [lt_dec hlt, cond_true, idx_nat, hx, Option.bind_some, Prod.eta, wrap_succ (show k < 9223372036854775807 by omega), i_copyIds_eq (show x.2.2.2.2.1.length ≤ 4294967296 by omega), appP_ok (a := ([] : List Int)) (b := x.2.2.2.2.2.1) (by simp; omega), List.nil_append]
    rw [appP_ok (by simp; omega)]; rfl
  · intro t ht
    simp only [ge_dec]; rfl
noncomputable def fallD (d : D_ENode) : D_ENode × Bool := if nodeOkB d then ((d.1, d.2.1, d.2.2.1, []), true) else ((0, 0, [], []), false)
theorem s_ENodeFall_eq {d : D_ENode} (ho : Ok.ok d) (h : smallN d) : s_ENodeFall d = some (fallD d) := by
  unfold s_ENodeFall fallD
  simp only [Prod.eta, s_ENodeOk_eq ho, s_l9Copy_eq h, Option.bind_some]
  cases nodeOkB d <;> rfl
theorem i_ENodeFall_eq {d : D_ENode} (ho : Ok.ok d) (h : smallN d) : i_ENodeFall d = some (fallD d) := by
  unfold i_ENodeFall fallD
  simp only [Prod.eta, i_ENodeOk_eq ho, i_copyENode_eq h, Option.bind_some]
  cases nodeOkB d <;> rfl
end Go.Proofs.SL
