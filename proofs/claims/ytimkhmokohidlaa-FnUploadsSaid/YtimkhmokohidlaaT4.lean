/- The texts of the proof, part 4: the base, walks of functions, plain Lean. -/
import Derived.Test.YtimkhmokohidlaaT3
import Derived.Test.YtimkhmokohidlaaT2
/- from P0.lean -/
namespace Go.Proofs.SL
open Go
theorem l1In_eq (x a b : Int) : s_l1In x a b = some (decide (a ≤ x ∧ x ≤ b)) := by
  unfold s_l1In; rw [Bool.decide_and]
theorem within_eq (x a b : Int) : i_within x a b = some (decide (a ≤ x ∧ x ≤ b)) := by
  unfold i_within; rw [Bool.decide_and]
theorem firstI_some {α : Type} {p : α → Bool} {xs : List α} {k : Nat} (h : xs.findIdx? p = some k) : firstI p xs = (k : Int) := by unfold firstI; rw [h]
theorem firstI_none {α : Type} {p : α → Bool} {xs : List α} (h : xs.findIdx? p = none) : firstI p xs = -1 := by unfold firstI; rw [h]
theorem gbs {α β : Type} [Inhabited α] (g : Bool) (a : α) (k : α → Option β) : gb g (some a) k = if g then k a else k default := by cases g <;> rfl
theorem prev_idx' {δ : Type} {l : List δ} {k : Nat} (hk : k < l.length) (hl : l.length ≤ 9223372036854775807) (h0 : 0 < k) : ∃ r, l[k - 1]? = some r ∧ idx l (IntKind.wrap .i64 ((k : Int) - 1)) = some r := by
  refine ⟨l[k - 1], List.getElem?_eq_getElem (by omega), ?_⟩
  rw [wrap64_in (by unfold inR; omega), show ((k : Int) - 1) = ((k - 1 : Nat) : Int) by omega, idx_nat]
  exact List.getElem?_eq_getElem (by omega)
theorem gb_none {α β : Type} [Inhabited α] (g : Bool) (o : Option α) (k : α → Option β) (h : g = false) : gb g o k = k default := by subst h; rfl
theorem gb_yes {α β : Type} [Inhabited α] (g : Bool) (o : Option α) (k : α → Option β) (h : g = true) : gb g o k = o.bind k := by subst h; rfl
theorem sidx_lt {s : ByteArray} {k : Nat} (h : k < s.size) : ∃ n, sidx s (k : Int) = some n ∧ 0 ≤ n ∧ n < 256 := by
  refine ⟨((s[k]'h).toNat : Int), ?_, by omega, by have := (s[k]'h).toNat_lt; omega⟩
  unfold sidx
  rw [dif_pos ⟨by omega, by simpa using h⟩]
  simp
/-- A check of each element. -/
theorem each_loop {β γ : Type} {l : List γ} {p : γ → Bool} {no yes : Option β} {f : Int → Option (Int ⊕ β)} (hl : l.length ≤ 9223372036854775807)
    (hf : ∀ (k : Nat) (x : γ), l[k]? = some x → f (k : Int) = if p x then some (.inl (IntKind.wrap .i64 ((k : Int) + 1))) else no.map .inr) (hn : f (l.length : Int) = yes.map .inr) :
    whileP f 0 = if l.all p then yes else no := by
  rw [whileP_all (n := l.length) (fun k => (l[k]?).all p) no yes ?_ hn, all_range_get]
  intro k hk
  rw [hf k l[k] (List.getElem?_eq_getElem hk), List.getElem?_eq_getElem hk, wrap_succ (by omega)]
  rfl
end Go.Proofs.SL
/- from PO.lean -/
namespace Go.Proofs.SL
open Go
theorem bl_irrefl : ∀ l : List UInt8, Op.bytesLess l l = false
  | [] => rfl
  | a :: l => by simp [Op.bytesLess, bl_irrefl l]
theorem bl_trans : ∀ {a b c : List UInt8}, Op.bytesLess a b = true → Op.bytesLess b c = true → Op.bytesLess a c = true
  | _, _, [], h1, h2 => by
    rename_i b
    cases b <;> simp [Op.bytesLess] at h2
  | [], b, c :: cs1, h1, h2 => by simp [Op.bytesLess]
  | a :: as1, [], c :: cs1, h1, h2 => by simp [Op.bytesLess] at h1
  | a :: as1, b :: bs1, c :: cs1, h1, h2 => by
    simp only [Op.bytesLess, Bool.or_eq_true, decide_eq_true_eq, Bool.and_eq_true, beq_iff_eq] at h1 h2 ⊢
    rcases h1 with h1 | ⟨rfl, h1⟩
    · rcases h2 with h2 | ⟨rfl, h2⟩
      · exact .inl (UInt8.lt_trans h1 h2)
      · exact .inl h1
    · rcases h2 with h2 | ⟨rfl, h2⟩
      · exact .inl h2
      · exact .inr ⟨rfl, bl_trans h1 h2⟩
theorem sLt_irrefl (a : ByteArray) : sLt a a = false := bl_irrefl _
theorem sLt_trans {a b c : ByteArray} (h1 : sLt a b = true) (h2 : sLt b c = true) : sLt a c = true := bl_trans h1 h2
theorem sLt_ne {a b : ByteArray} (h : sLt a b = true) : a ≠ b := by
  intro e; subst e; rw [sLt_irrefl] at h; cases h
theorem pairwise_of_step {α : Type} {R : α → α → Prop} (tr : ∀ a b c, R a b → R b c → R a c) : ∀ (l : List α), (∀ k (h : k + 1 < l.length), R l[k] l[k + 1]) → l.Pairwise R
  | [], _ => List.Pairwise.nil
  | [a], _ => List.pairwise_singleton _ _
  | a :: b :: l, h => by
    have ih := pairwise_of_step tr (b :: l) (fun k hk => h (k + 1) (by simp at hk ⊢; omega))
    refine List.pairwise_cons.2 ⟨fun x hx => ?_, ih⟩
    have h0 : R a b := h 0 (by simp)
    rcases List.mem_cons.1 hx with rfl | hx
    · exact h0
    · exact tr _ _ _ h0 (List.rel_of_pairwise_cons ih hx)
end Go.Proofs.SL
/- from PNo.lean -/
namespace Go.Proofs.SL
open Go
theorem isRep_eq (x : Int) : i_isRep x = some (decide (0 ≤ x ∧ x < 3)) := by
  unfold i_isRep
  rw [within_eq, show decide (0 ≤ x ∧ x ≤ 2) = decide (0 ≤ x ∧ x < 3) by rw [Bool.eq_iff_iff]; simp; omega]; rfl
theorem l9Node_eq (x : Int) : s_l9Node x = some (decide (0 ≤ x ∧ x < 3)) := by unfold s_l9Node; rw [Bool.decide_and]
def nodeOk (ns : List Int) (k : Nat) : Bool := match ns[k]? with
  | none => false
  | some n => decide (0 ≤ n ∧ n < 3) && (decide (k = 0) || (ns[k - 1]?).all fun r => decide (r < n))
def nodesOk (ns : List Int) : Bool := (List.range ns.length).all (nodeOk ns)
theorem firstI_any {α : Type} (p : α → Bool) (l : List α) : decide (0 ≤ firstI p l) = l.any p := by
  rcases firstI_find p l with ⟨h1, h2⟩ | ⟨k, x, h1, h2, h3, _⟩
  · rw [h1]
    cases h : l.any p with
    | false => rfl
    | true =>
      obtain ⟨x, hx, hp⟩ := List.any_eq_true.1 h
      exact absurd hp (List.find?_eq_none.1 h2 x hx)
  · rw [h1, show decide (0 ≤ (k : Int)) = true by simp]
    symm
    exact List.any_eq_true.2 ⟨x, List.mem_of_getElem? h2, List.find?_some h3⟩
theorem foldl_filter' {β : Type} (p : β → Bool) : ∀ (xs acc : List β), xs.foldl (fun t x => if p x then t ++ [x] else t) acc = acc ++ xs.filter p
  | [], acc => by simp
  | x :: xs, acc => by
    rw [List.foldl_cons]
    cases hp : p x with
    | true => simp only [if_true]; rw [foldl_filter' p xs]; simp [hp]
    | false => simp only [Bool.false_eq_true, if_false]; rw [foldl_filter' p xs]; simp [hp]
/-- What right uploads hold. -/
theorem nodesOk_facts {ns : List Int} (h : nodesOk ns = true) : (∀ n, n ∈ ns → 0 ≤ n ∧ n < 3) ∧ ns.Pairwise (· < ·) := by
  unfold nodesOk at h
  simp only [List.all_eq_true, List.mem_range] at h
  have h1 : ∀ n, n ∈ ns → 0 ≤ n ∧ n < 3 := fun n hn => by
    obtain ⟨k, hk⟩ := List.getElem?_of_mem hn
    have := h k (List.getElem?_eq_some_iff.1 hk).1
    unfold nodeOk at this
    rw [hk] at this
    simp only [Bool.and_eq_true, decide_eq_true_eq] at this
    exact this.1
  refine ⟨h1, pairwise_of_step (R := (· < ·)) (fun a b c => Int.lt_trans) ns fun k hk => ?_⟩
  have := h (k + 1) hk
  unfold nodeOk at this
  rw [List.getElem?_eq_getElem hk] at this
  simp only [Bool.and_eq_true, decide_eq_true_eq, Bool.or_eq_true, Nat.add_sub_cancel, List.getElem?_eq_getElem (show k < ns.length by omega), Option.all_some] at this
  rcases this.2 with h2 | h2
  · omega
  · exact h2
theorem sorted_le : ∀ {l : List Int} {a b : Int}, l.Pairwise (· < ·) → (∀ n, n ∈ l → a ≤ n ∧ n < b) → (l.length : Int) ≤ max 0 (b - a)
  | [], a, b, _, _ => by simp; omega
  | x :: l, a, b, h1, h2 => by
    obtain ⟨h3, h4⟩ := List.pairwise_cons.1 h1
    have hx := h2 x (List.mem_cons_self ..)
    have := sorted_le (a := x + 1) (b := b) h4 (fun n hn => ⟨by have := h3 n hn; omega, (h2 n (List.mem_cons_of_mem _ hn)).2⟩)
    simp only [List.length_cons]
    omega
theorem nodes_le {l : List Int} (h1 : ∀ n, n ∈ l → 0 ≤ n ∧ n < 3) (h2 : l.Pairwise (· < ·)) : l.length ≤ 3 := by
  have := sorted_le h2 h1
  omega
end Go.Proofs.SL
/- from PUa.lean -/
namespace Go.Proofs.SL
open Go
def upOk (e : Int) (l : List D_Up) (k : Nat) : Bool := match l[k]? with
  | none => false
  | some x => decide ((x.1.size : Int) = 8) && (decide (k = 0) || (l[k - 1]?).all fun r => sLt r.1 x.1) && !decide ((x.2.1.length : Int) = 0) && decide (0 ≤ x.2.2 ∧ x.2.2 ≤ e) && nodesOk x.2.1
def upsOkB (u : D_Ups) : Bool := decide (0 ≤ u.1 ∧ u.1 ≤ 1000) && decide (u.2.length ≤ 20) && (List.range u.2.length).all (upOk u.1 u.2)
theorem s_UpsOk_eq {u : D_Ups} (ho : Ok.ok u) : s_UpsOk u = some (upsOkB u) := by
  obtain ⟨e, l⟩ := u
  have hl : l.length ≤ 9223372036854775807 := ho.2.1
  have hl2 : ∀ x, x ∈ l → Ok.ok x := ho.2.2
  unfold s_UpsOk upsOkB
  simp only [l1In_eq, l9Node_eq, Option.bind_some]
  rw [whileP_all (n := l.length) (upOk e l) (some false) (some true)]
  · have h9 : decide (20 < (l.length : Int)) = !decide (l.length ≤ 20) := by rw [Bool.eq_iff_iff]; simp; omega
    rw [h9]
    cases decide (0 ≤ e ∧ e ≤ 1000) <;> cases decide (l.length ≤ 20) <;> cases (List.range l.length).all (upOk e l) <;> rfl
  · intro k hk
    have hx : l[k]? = some l[k] := List.getElem?_eq_getElem hk
    generalize l[k] = x at hx
    have hn : x.2.1.length ≤ 9223372036854775807 := (hl2 x (List.mem_of_getElem? hx)).2.1.1
    simp only [lt_dec hk, cond_true, idx_nat, hx, Option.bind_some, gbs]
    rw [whileP_all (n := x.2.1.length) (nodeOk x.2.1) (some (.inr false)) (some (.inl ((k + 1 : Nat) : Int)))]
    · have hno : (List.range x.2.1.length).all (nodeOk x.2.1) = nodesOk x.2.1 := rfl
      unfold upOk
      simp only [hx, hno]
      rcases Nat.eq_zero_or_pos k with h0 | h0
      · subst h0
        rw [gb_none _ _ _ (by simp)]
        cases decide ((x.1.size : Int) = 8) <;> cases decide ((x.2.1.length : Int) = 0) <;> cases decide (0 ≤ x.2.2 ∧ x.2.2 ≤ e) <;> cases nodesOk x.2.1 <;> simp
      · obtain ⟨r, hr1, hr2⟩ := prev_idx' hk hl h0
        have h5 : decide (0 < (k : Int)) = true := by simp; omega
        have h6 : decide (k = 0) = false := by simp; omega
        rw [hr1, hr2, h5, h6, gbs]
        simp only [Option.all_some]
        by_cases h7 : sLt r.1 x.1 = true <;> cases decide ((x.1.size : Int) = 8) <;> cases decide ((x.2.1.length : Int) = 0) <;> cases decide (0 ≤ x.2.2 ∧ x.2.2 ≤ e) <;> cases nodesOk x.2.1 <;> simp [h7]
    · intro j hj
      have hy : x.2.1[j]? = some x.2.1[j] := List.getElem?_eq_getElem hj
      generalize x.2.1[j] = y at hy
      simp only [lt_dec hj, cond_true, idx_nat, hy, Option.bind_some, gbs, wrap_succ (show j < 9223372036854775807 by omega)]
      unfold nodeOk
      simp only [hy]
      rcases Nat.eq_zero_or_pos j with h0 | h0
      · subst h0
        rw [gb_none _ _ _ (by simp)]
        cases decide (0 ≤ y ∧ y < 3) <;> simp
      · obtain ⟨r, hr1, hr2⟩ := prev_idx' hj hn h0
        have h5 : decide (0 < (j : Int)) = true := by simp; omega
        have h6 : decide (j = 0) = false := by simp; omega
        rw [hr1, hr2, h5, h6, gbs]
        simp only [Option.all_some]
        by_cases h7 : r < y
        · have h8 : decide (y ≤ r) = false := by simp; omega
          cases decide (0 ≤ y ∧ y < 3) <;> simp [h7, h8]
        · have h8 : decide (y ≤ r) = true := by simp; omega
          cases decide (0 ≤ y ∧ y < 3) <;> simp [h7, h8]
    · simp only [ge_dec, cond_false, wrap_succ (show k < 9223372036854775807 by omega)]
  · simp only [ge_dec]; rfl
theorem i_UpsOk_eq {u : D_Ups} (ho : Ok.ok u) : i_UpsOk u = some (upsOkB u) := by
  obtain ⟨e, l⟩ := u
  have hl : l.length ≤ 9223372036854775807 := ho.2.1
  have hl2 : ∀ x, x ∈ l → Ok.ok x := ho.2.2
  unfold i_UpsOk upsOkB
  simp only [within_eq, isRep_eq, Option.bind_some]
  rw [whileP_all (n := l.length) (upOk e l) (some false) (some (decide (0 ≤ e ∧ e ≤ 1000) && decide (l.length ≤ 20)))]
  · cases decide (0 ≤ e ∧ e ≤ 1000) <;> cases decide (l.length ≤ 20) <;> cases (List.range l.length).all (upOk e l) <;> rfl
  · intro k hk
    have hx : l[k]? = some l[k] := List.getElem?_eq_getElem hk
    generalize l[k] = x at hx
    have hn : x.2.1.length ≤ 9223372036854775807 := (hl2 x (List.mem_of_getElem? hx)).2.1.1
    simp only [lt_dec hk, cond_true, idx_nat, hx, Option.bind_some, gbs]
    rw [whileP_all (n := x.2.1.length) (nodeOk x.2.1) (some (.inr false)) (some (.inl ((k + 1 : Nat) : Int)))]
    · have hno : (List.range x.2.1.length).all (nodeOk x.2.1) = nodesOk x.2.1 := rfl
      unfold upOk
      simp only [hx, hno]
      rcases Nat.eq_zero_or_pos k with h0 | h0
      · subst h0
        rw [gb_none _ _ _ (by simp)]
        cases decide ((x.1.size : Int) = 8) <;> cases decide ((x.2.1.length : Int) = 0) <;> cases decide (0 ≤ x.2.2 ∧ x.2.2 ≤ e) <;> cases nodesOk x.2.1 <;> simp
      · obtain ⟨r, hr1, hr2⟩ := prev_idx' hk hl h0
        have h5 : decide (0 < (k : Int)) = true := by simp; omega
        have h6 : decide (k = 0) = false := by simp; omega
        rw [hr1, hr2, h5, h6, gbs]
        simp only [Option.all_some]
        by_cases h7 : sLt r.1 x.1 = true <;> cases decide ((x.1.size : Int) = 8) <;> cases decide ((x.2.1.length : Int) = 0) <;> cases decide (0 ≤ x.2.2 ∧ x.2.2 ≤ e) <;> cases nodesOk x.2.1 <;> simp [h7]
    · intro j hj
      have hy : x.2.1[j]? = some x.2.1[j] := List.getElem?_eq_getElem hj
      generalize x.2.1[j] = y at hy
      simp only [lt_dec hj, cond_true, idx_nat, hy, Option.bind_some, gbs, wrap_succ (show j < 9223372036854775807 by omega)]
      unfold nodeOk
      simp only [hy]
      rcases Nat.eq_zero_or_pos j with h0 | h0
      · subst h0
        rw [gb_none _ _ _ (by simp)]
        cases decide (0 ≤ y ∧ y < 3) <;> simp
      · obtain ⟨r, hr1, hr2⟩ := prev_idx' hj hn h0
        have h5 : decide (0 < (j : Int)) = true := by simp; omega
        have h6 : decide (j = 0) = false := by simp; omega
        rw [hr1, hr2, h5, h6, gbs]
        simp only [Option.all_some]
        by_cases h7 : r < y
        · have h8 : decide (y ≤ r) = false := by simp; omega
          cases decide (0 ≤ y ∧ y < 3) <;> simp [h7, h8]
        · have h8 : decide (y ≤ r) = true := by simp; omega
          cases decide (0 ≤ y ∧ y < 3) <;> simp [h7, h8]
    · simp only [ge_dec, cond_false, wrap_succ (show k < 9223372036854775807 by omega)]
  · have h9 : decide ((l.length : Int) ≤ 20) = decide (l.length ≤ 20) := by rw [Bool.eq_iff_iff]; simp; omega
    simp only [ge_dec, cond_false, h9]
/-- The first upload of a chunk. -/
def upFind (u : D_Ups) (c : ByteArray) : Option D_Up := u.2.find? fun x => decide (x.1 = c)
theorem s_l18At_eq {u : D_Ups} {c : ByteArray} (h : u.2.length ≤ 9223372036854775807) : s_l18At u c = some (firstI (fun x : D_Up => decide (x.1 = c)) u.2) := by
  unfold s_l18At
  rw [whileP_find (fun x : D_Up => decide (x.1 = c)) some h]
  · intro k x hx
    simp only [lt_dec (List.getElem?_eq_some_iff.1 hx).1, cond_true, idx_nat, hx, Option.bind_some]
    cases decide (x.1 = c) <;> rfl
  · simp only [ge_dec]; rfl
theorem i_Ups_at_eq {u : D_Ups} {c : ByteArray} (h : u.2.length ≤ 9223372036854775807) : i_Ups_at u c = some (firstI (fun x : D_Up => decide (x.1 = c)) u.2) := by
  unfold i_Ups_at sl_IndexFunc_implUpimplUp i_Ups_at_c1
  rw [whileP_find (fun x : D_Up => decide (x.1 = c)) some h]
  · rfl
  · intro k x hx
    simp only [lt_dec (List.getElem?_eq_some_iff.1 hx).1, cond_true, idx_nat, hx, Option.bind_some]
    cases decide (x.1 = c) <;> rfl
  · simp only [ge_dec]; rfl
def upNodes (u : D_Ups) (c : ByteArray) : List Int := match upFind u c with
  | some x => x.2.1
  | none => []
theorem i_Ups_nodes_eq {u : D_Ups} {c : ByteArray} (h : u.2.length ≤ 9223372036854775807) : i_Ups_nodes u c = some (upNodes u c) := by
  unfold i_Ups_nodes upNodes upFind
  simp only [Prod.eta, i_Ups_at_eq h, Option.bind_some]
  rcases firstI_find (fun x : D_Up => decide (x.1 = c)) u.2 with ⟨h1, h2⟩ | ⟨k, x, h1, h2, h3, _⟩
  · rw [h1, h2]; rfl
  · rw [h1, h3]
    simp only [show decide (0 ≤ (k : Int)) = true by simp, cond_true, idx_nat, h2, Option.bind_some]
noncomputable def upHasB (u : D_Ups) (c : ByteArray) : Int := if upsOkB u then ((upNodes u c).length : Int) else 0
theorem i_UpHas_eq {u : D_Ups} {c : ByteArray} (ho : Ok.ok u) : i_UpHas u c = some (upHasB u c) := by
  unfold i_UpHas upHasB
  simp only [Prod.eta, i_UpsOk_eq ho, Option.bind_some, i_Ups_nodes_eq ho.2.1]
  cases upsOkB u <;> rfl
theorem s_UpHas_eq {u : D_Ups} {c : ByteArray} (ho : Ok.ok u) : s_UpHas u c = some (upHasB u c) := by
  unfold s_UpHas upHasB upNodes upFind
  simp only [Prod.eta, s_UpsOk_eq ho, Option.bind_some, s_l18At_eq ho.2.1]
  rcases firstI_find (fun x : D_Up => decide (x.1 = c)) u.2 with ⟨h1, h2⟩ | ⟨k, x, h1, h2, h3, _⟩
  · rw [h1, h2]; cases upsOkB u <;> rfl
  · rw [h1, h3]
    simp only [show decide ((k : Int) < 0) = false by simp, idx_nat, h2, Option.bind_some]
    cases upsOkB u <;> rfl
end Go.Proofs.SL
/- from PL.lean -/
namespace Go.Proofs.SL
open Go
theorem l18Has_eq {l : List Int} {n : Int} (h : l.length ≤ 9223372036854775807) : s_l18Has l n = some (l.any fun x => decide (x = n)) := by
  unfold s_l18Has
  rw [whileP_find (fun x => decide (x = n)) (fun i => some (decide (0 ≤ i))) h, firstI_any]
  · intro k x hx
    simp only [lt_dec (List.getElem?_eq_some_iff.1 hx).1, cond_true, idx_nat, hx, Option.bind_some]
    cases decide (x = n) <;> simp
  · simp only [ge_dec]; rfl
theorem contains_eq {l : List Int} {n : Int} (h : l.length ≤ 9223372036854775807) : sl_Contains_intint l n = some (l.any fun x => decide (x = n)) := by
  unfold sl_Contains_intint sl_Index_intint
  rw [whileP_find (fun x => decide (x = n)) some h]
  · rw [Option.bind_some, firstI_any]
  · intro k x hx
    simp only [lt_dec (List.getElem?_eq_some_iff.1 hx).1, cond_true, idx_nat, hx, Option.bind_some, eq_comm (a := n)]
    cases decide (x = n) <;> rfl
  · simp only [ge_dec]; rfl
/-- The nodes that have it, and one more, or one less. -/
def withL (l : List Int) (n : Int) (b : Bool) : List Int := [0, 1, 2].filter fun k => (decide (k = n) && b) || (!decide (k = n) && l.any fun x => decide (x = k))
theorem l18With_eq {l : List Int} {n : Int} {b : Bool} (h : l.length ≤ 9223372036854775807) : s_l18With l n b = some (withL l n b) := by
  unfold s_l18With
  simp only [Option.bind_some]
  rw [whileP_for (l := [0, 1, 2]) (fun k (t : List Int) => (t, (k : Int))) (fun t x => .inl (if ((decide (x = n) && b) || (!decide (x = n) && l.any fun y => decide (y = x))) then t ++ [x] else t)) (fun t => some t) (fun k t => t.length ≤ k) [] (s0 := ([], 0)) rfl (Nat.le_refl _), goE_fold, foldl_filter']
  · rfl
  · intro k t x hx hI
    have hk : k < 3 ∧ x = (k : Int) := by
      match k, hx with
      | 0, hx => cases hx; simp
      | 1, hx => cases hx; simp
      | 2, hx => cases hx; simp
    obtain ⟨hk, rfl⟩ := hk
    refine .inl ⟨_, rfl, ?_, ?_⟩
    · simp only [show decide ((k : Int) < 3) = true by simp; omega, cond_true, l18Has_eq h, wrap_succ (show k < 9223372036854775807 by omega)]
      rw [appP_ok (by simp; omega)]
      cases decide ((k : Int) = n) <;> cases b <;> cases (l.any fun y => decide (y = (k : Int))) <;> rfl
    · split
      · simp; omega
      · omega
  · intro t ht
    rfl
theorem s_l18Copy_eq {d : D_Ups} (h1 : d.2.length ≤ 1000) (h2 : ∀ s, s ∈ d.2 → s.2.1.length ≤ 1000) : s_l18Copy d = some d := by
  obtain ⟨a, l⟩ := d
  unfold s_l18Copy
  rw [whileP_for (l := l) (fun k (t : List D_Up) => ((k : Int), t)) (fun t x => .inl (t ++ [x])) (fun t => some (a, t)) (fun k t => t.length = k) [] (s0 := (0, [])) rfl rfl, goE_app]
  · rfl
  · intro k t x hx ht
    have hlt := (List.getElem?_eq_some_iff.1 hx).1
    have hm := h2 x (List.mem_of_getElem? hx)
    dsimp only at h1 hm ht
    refine .inl ⟨t ++ [x], rfl, ?_, by simp [ht]⟩
    simp only [lt_dec hlt, cond_true, idx_nat, hx, Option.bind_some, appP_ok (a := ([] : List Int)) (b := x.2.1) (by simp; omega), List.nil_append, wrap_succ (show k < 9223372036854775807 by omega)]
    rw [appP_ok (by simp; omega)]; rfl
  · intro t ht
    simp
theorem i_copyUps_eq {d : D_Ups} (h1 : d.2.length ≤ 1000) (h2 : ∀ s, s ∈ d.2 → s.2.1.length ≤ 1000) : i_copyUps d = some d := by
  obtain ⟨a, l⟩ := d
  unfold i_copyUps
  rw [whileP_for (l := l) (fun k (t : List D_Up) => ((k : Int), t)) (fun t x => .inl (t ++ [x])) (fun t => some (a, t)) (fun k t => t.length = k) [] (s0 := (0, [])) rfl rfl, goE_app]
  · rfl
  · intro k t x hx ht
    have hlt := (List.getElem?_eq_some_iff.1 hx).1
    have hm := h2 x (List.mem_of_getElem? hx)
    dsimp only at h1 hm ht
    refine .inl ⟨t ++ [x], rfl, ?_, by simp [ht]⟩
    simp only [lt_dec hlt, cond_true, idx_nat, hx, Option.bind_some, appP_ok (a := ([] : List Int)) (b := x.2.1) (by simp; omega), List.nil_append, wrap_succ (show k < 9223372036854775807 by omega)]
    rw [appP_ok (by simp; omega)]; rfl
  · intro t ht
    simp
theorem upsOk_facts {d : D_Ups} (h : upsOkB d = true) : (0 ≤ d.1 ∧ d.1 ≤ 1000) ∧ d.2.length ≤ 20 ∧ (∀ x, x ∈ d.2 → x.1.size = 8 ∧ x.2.1.length ≠ 0 ∧ (0 ≤ x.2.2 ∧ x.2.2 ≤ d.1) ∧ nodesOk x.2.1 = true) ∧ d.2.Pairwise (fun a b => sLt a.1 b.1 = true) := by
  unfold upsOkB at h
  simp only [Bool.and_eq_true, decide_eq_true_eq, List.all_eq_true, List.mem_range] at h
  refine ⟨h.1.1, h.1.2, fun x hx => ?_, pairwise_of_step (R := fun a b : D_Up => sLt a.1 b.1 = true) (fun a b c => sLt_trans) d.2 fun k hk => ?_⟩
  · obtain ⟨k, hk⟩ := List.getElem?_of_mem hx
    have := h.2 k (List.getElem?_eq_some_iff.1 hk).1
    unfold upOk at this
    rw [hk] at this
    simp only [Bool.and_eq_true, decide_eq_true_eq, Bool.not_eq_true', decide_eq_false_iff_not] at this
    exact ⟨by omega, by omega, this.1.2, this.2⟩
  · have := h.2 (k + 1) hk
    unfold upOk at this
    rw [List.getElem?_eq_getElem hk] at this
    simp only [Bool.and_eq_true, decide_eq_true_eq, Bool.or_eq_true, Nat.add_sub_cancel, List.getElem?_eq_getElem (show k < d.2.length by omega), Option.all_some] at this
    rcases this.1.1.1.2 with h2 | h2
    · omega
    · exact h2
end Go.Proofs.SL
/- from PL2.lean -/
namespace Go.Proofs.SL
open Go
theorem take_succ' {α : Type} {l : List α} {k : Nat} {x : α} (h : l[k]? = some x) : l.take (k + 1) = l.take k ++ [x] := by
  rw [List.take_add_one, h]; rfl
theorem deleteFunc_eq {l : List Int} {a : Int → Option Bool} (p : Int → Bool) (ha : ∀ x, a x = some (p x)) (h : l.length ≤ 4294967296) : sl_DeleteFunc_intint l a = some (l.filter fun x => !p x) := by
  have hi : sl_IndexFunc_intint l a = some (firstI p l) := by
    unfold sl_IndexFunc_intint
    rw [whileP_find (l := l) p some (by omega)]
    · intro k x hx
      simp only [lt_dec (List.getElem?_eq_some_iff.1 hx).1, cond_true, idx_nat, hx, Option.bind_some, ha]
      cases p x <;> rfl
    · simp only [ge_dec]; rfl
  unfold sl_DeleteFunc_intint
  rw [hi, Option.bind_some]
  cases hf : l.findIdx? p with
  | none =>
    rw [firstI_none hf]
    have hn := List.findIdx?_eq_none_iff.1 hf
    show some l = _
    rw [List.filter_eq_self.2 (fun x hx => by rw [hn x hx]; rfl)]
  | some i =>
    obtain ⟨hil, hpi, hlt⟩ := List.findIdx?_eq_some_iff_getElem.1 hf
    rw [firstI_some hf]
    simp only [show decide ((i : Int) = -1) = false by simp, cond_false, wrap_succ (show i < 9223372036854775807 by omega)]
    obtain ⟨r, hr, hq⟩ := whileP_rule (α := List Int) (σ := List Int × Int × Int)
      (f := fun s3 => cond (decide (s3.2.2 < (s3.1.length : Int))) (Option.bind (idx s3.1 s3.2.2) (fun y5 => Option.bind (a y5) (fun y6 => cond (!y6) (Option.bind (idx s3.1 s3.2.1) (fun y8 => Option.bind (some (s3.1.set (s3.2.1.toNat) y5)) (fun y9 => some (.inl ((y9, IntKind.wrap .i64 (s3.2.1 + 1), IntKind.wrap .i64 (s3.2.2 + 1))))))) (some (.inl ((s3.1, s3.2.1, IntKind.wrap .i64 (s3.2.2 + 1)))))))) (Option.map .inr (Option.bind (slcP s3.1 s3.2.1 (s3.1.length : Int)) (fun y12 => Option.bind (chkP (decide (s3.2.1 < (s3.1.length : Int)))) (fun y14 => Option.bind (some (clrD s3.1 s3.2.1 (s3.1.length : Int) 0)) (fun y15 => Option.bind (slcP y15 0 s3.2.1) (fun y17 => some y17)))))))
      (fun s => ∃ m j : Nat, s = (s.1, (m : Int), (j : Int)) ∧ s.1.length = l.length ∧ m < j ∧ j ≤ l.length ∧ s.1.take m = (l.take j).filter (fun x => !p x) ∧ s.1.drop j = l.drop j)
      (fun s => l.length - s.2.2.toNat) (fun r => r = l.filter fun x => !p x) (by
        rintro ⟨s, _, _⟩ ⟨m, j, hs, hlen, hmj, hjl, ht, hd⟩
        dsimp only at hs hlen ht hd
        obtain ⟨rfl, rfl⟩ : _ ∧ _ := ⟨congrArg (fun z => z.2.1) hs, congrArg (fun z => z.2.2) hs⟩
        clear hs
        dsimp only
        rcases Nat.lt_or_ge j l.length with hj | hj
        · have hx : s[j]? = some l[j] := by
            have := congrArg (fun q => q[0]?) hd
            simpa [List.getElem?_drop, List.getElem?_eq_getElem hj] using this
          have hlx : l[j]? = some l[j] := List.getElem?_eq_getElem hj
          generalize l[j] = x at hx hlx
          have hd' : s.drop (j + 1) = l.drop (j + 1) := by
            have := congrArg List.tail hd
            simpa [List.tail_drop] using this
          left
          simp only [hlen, lt_dec hj, cond_true, idx_nat, hx, ha, Option.bind_some, wrap_succ (show j < 9223372036854775807 by omega)]
          cases hpx : p x with
          | true =>
            refine ⟨_, rfl, ⟨m, j + 1, rfl, hlen, by omega, by omega, ?_, hd'⟩, by dsimp only; simp only [Int.toNat_natCast]; omega⟩
            dsimp only
            rw [take_succ' hlx, List.filter_append, ht]; simp [hpx]
          | false =>
            have hm : s[m]? = some s[m] := List.getElem?_eq_getElem (by omega)
            simp only [Bool.not_false, cond_true, hm, Option.bind_some, Int.toNat_natCast, wrap_succ (show m < 9223372036854775807 by omega)]
            refine ⟨_, rfl, ⟨m + 1, j + 1, rfl, by simp [hlen], by omega, by omega, ?_, ?_⟩, by dsimp only; simp only [Int.toNat_natCast]; omega⟩
            · dsimp only
              rw [take_succ' hlx, List.filter_append, ← ht, take_succ' (x := x) (by rw [List.getElem?_set_self (by omega)]), List.take_set_of_le (Nat.le_refl _)]
              simp [hpx]
            · dsimp only
              rw [List.drop_set_of_lt (by omega), hd']
        · right
          have hj' : j = l.length := by omega
          subst hj'
          have hml : m < s.length := by omega
          have e1 : slcP s (m : Int) (l.length : Int) = some ((s.drop m).take (l.length - m)) := by
            unfold slcP; rw [if_pos ⟨by omega, by omega, by omega⟩]; simp
          simp only [hlen, ge_dec, cond_false, e1, Option.bind_some]
          have e2 : chkP (decide ((m : Int) < (l.length : Int))) = some () := by unfold chkP; rw [if_pos (by simp; omega)]
          have e3 : slcP (clrD s (m : Int) (l.length : Int) 0) 0 (m : Int) = some (s.take m) := by
            have hc : (clrD s (m : Int) (l.length : Int) 0).length = l.length := by
              unfold clrD; simp; omega
            unfold slcP; rw [if_pos ⟨by omega, by omega, by omega⟩]
            unfold clrD
            simp [List.take_append_of_le_length, hlen, Nat.min_eq_left (Nat.le_of_lt hmj)]
          rw [e2, Option.bind_some, e3]
          exact ⟨_, rfl, by rw [ht, List.take_length]⟩)
      (l, (i : Int), ((i + 1 : Nat) : Int)) (by
        refine ⟨i, i + 1, rfl, rfl, by omega, by omega, ?_, rfl⟩
        dsimp only
        rw [take_succ' (List.getElem?_eq_getElem hil), List.filter_append, List.filter_eq_self.2]
        · simp [hpi]
        · intro x hx
          obtain ⟨q, hq⟩ := List.getElem?_of_mem hx
          have hql := (List.getElem?_eq_some_iff.1 hq).1
          rw [List.length_take] at hql
          rw [List.getElem?_take_of_lt (by omega)] at hq
          have := hlt q (by omega)
          obtain ⟨h1, h2⟩ := List.getElem?_eq_some_iff.1 hq
          rw [h2] at this
          simp [this])
    rw [hr, hq]
/-- Setting the upload of a chunk. -/
def setU (x : D_Up) : List D_Up → List D_Up
  | [] => [x]
  | y :: ys => if sLt y.1 x.1 then y :: setU x ys else x :: (y :: ys).filter fun z => !decide (z.1 = x.1)
def setStep (x : D_Up) (t : Bool × List D_Up) (y : D_Up) : Bool × List D_Up :=
  let t1 := if !t.1 && !sLt y.1 x.1 then (true, t.2 ++ [x]) else t
  if decide (y.1 = x.1) then t1 else (t1.1, t1.2 ++ [y])
theorem setStep_put (x : D_Up) : ∀ (ys acc : List D_Up), ys.foldl (setStep x) (true, acc) = (true, acc ++ ys.filter fun z => !decide (z.1 = x.1))
  | [], acc => by simp
  | y :: ys, acc => by
    rw [List.foldl_cons]
    unfold setStep
    simp only [Bool.not_true, Bool.false_and, Bool.false_eq_true, if_false]
    cases h : decide (y.1 = x.1) with
    | true => simp only [if_true]; rw [show (true, acc) = ((true, acc) : Bool × List D_Up) from rfl]; have := setStep_put x ys acc; unfold setStep at this; simp only at this ⊢; rw [this]; simp [h]
    | false => have := setStep_put x ys (acc ++ [y]); unfold setStep at this; simp only [Bool.false_eq_true, if_false] at this ⊢; rw [this]; simp [h]
theorem setStep_false (x : D_Up) : ∀ (ys acc : List D_Up), (let t := ys.foldl (setStep x) (false, acc); if !t.1 then t.2 ++ [x] else t.2) = acc ++ setU x ys
  | [], acc => by simp [setU]
  | y :: ys, acc => by
    rw [List.foldl_cons]
    cases h : sLt y.1 x.1 with
    | true =>
      have h1 : decide (y.1 = x.1) = false := decide_eq_false (sLt_ne h)
      have : setStep x (false, acc) y = (false, acc ++ [y]) := by unfold setStep; simp [h, h1]
      rw [this, setStep_false x ys (acc ++ [y])]
      simp [setU, h]
    | false =>
      have : setStep x (false, acc) y = setStep x (true, acc ++ [x]) y := by unfold setStep; simp [h]
      rw [this, ← List.foldl_cons, setStep_put]
      simp [setU, h]
theorem l18Set_eq {d : D_Ups} {x : D_Up} (h : d.2.length ≤ 1000) : s_l18Set d x = some (d.1, if x.2.1.length = 0 then d.2.filter (fun z => !decide (z.1 = x.1)) else setU x d.2) := by
  obtain ⟨e, l⟩ := d
  unfold s_l18Set
  rw [whileP_for (l := l) (fun k (t : Bool × List D_Up) => (t.1, (k : Int), t.2)) (fun t y => .inl (setStep x t y)) (fun t => some (e, if !t.1 then t.2 ++ [x] else t.2)) (fun k t => t.2.length ≤ 2 * k) (decide ((x.2.1.length : Int) = 0), []) (s0 := (decide ((x.2.1.length : Int) = 0), 0, [])) rfl (Nat.le_refl _), goE_fold]
  · by_cases h0 : x.2.1.length = 0
    · rw [if_pos h0, show decide ((x.2.1.length : Int) = 0) = true by simp [h0], setStep_put]; simp
    · rw [if_neg h0, show decide ((x.2.1.length : Int) = 0) = false by simp [h0]]
      have := setStep_false x l []
      rw [List.nil_append] at this
      exact congrArg (fun q => some (e, q)) this
  · intro k t y hy hI
    have hlt := (List.getElem?_eq_some_iff.1 hy).1
    dsimp only at h hI
    refine .inl ⟨_, rfl, ?_, ?_⟩
    · simp only [lt_dec hlt, cond_true, idx_nat, hy, Option.bind_some, wrap_succ (show k < 9223372036854775807 by omega), appP_ok (a := t.2) (b := [(x.1, x.2.1, x.2.2)]) (by simp; omega), gbs]
      unfold setStep
      obtain ⟨b, acc⟩ := t
      dsimp only at hI ⊢
      cases b <;> cases hs : sLt y.1 x.1 <;> cases hd : decide (y.1 = x.1) <;> (simp [jbind, gb, hs]; try rw [appP_ok (by simp; omega)]; try simp)
    · unfold setStep
      dsimp only
      split <;> split <;> (try simp) <;> omega
  · intro t ht
    dsimp only at h ht
    simp only [ge_dec, cond_false]
    obtain ⟨b, acc⟩ := t
    dsimp only at ht ⊢
    cases b
    · simp only [Bool.not_false, cond_true, if_true]
      rw [appP_ok (by simp; omega)]; rfl
    · rfl
end Go.Proofs.SL
/- from PL3.lean -/
namespace Go.Proofs.SL
open Go
theorem sorted_ext : ∀ {l m : List Int}, l.Pairwise (· < ·) → m.Pairwise (· < ·) → (∀ x, x ∈ l ↔ x ∈ m) → l = m
  | [], [], _, _, _ => rfl
  | [], b :: m, _, _, h => absurd ((h b).2 (List.mem_cons_self ..)) (by simp)
  | a :: l, [], _, _, h => absurd ((h a).1 (List.mem_cons_self ..)) (by simp)
  | a :: l, b :: m, h1, h2, h => by
    obtain ⟨h3, h4⟩ := List.pairwise_cons.1 h1
    obtain ⟨h5, h6⟩ := List.pairwise_cons.1 h2
    have hab : a = b := by
      rcases List.mem_cons.1 ((h a).1 (List.mem_cons_self ..)) with e | e
      · exact e
      · rcases List.mem_cons.1 ((h b).2 (List.mem_cons_self ..)) with e2 | e2
        · exact e2.symm
        · have := h5 a e; have := h3 b e2; omega
    subst hab
    rw [sorted_ext h4 h6 fun x => ⟨fun hx => ?_, fun hx => ?_⟩]
    · rcases List.mem_cons.1 ((h x).1 (List.mem_cons_of_mem _ hx)) with e | e
      · have := h3 x hx; omega
      · exact e
    · rcases List.mem_cons.1 ((h x).2 (List.mem_cons_of_mem _ hx)) with e | e
      · have := h5 x hx; omega
      · exact e
theorem any_mem {l : List Int} {n : Int} : (l.any fun x => decide (x = n)) = true ↔ n ∈ l := by
  simp [List.any_eq_true]
theorem withL_sorted (l : List Int) (n : Int) (b : Bool) : (withL l n b).Pairwise (· < ·) := by
  unfold withL
  refine List.Pairwise.filter _ ?_
  simp
theorem mem_withL {l : List Int} {n x : Int} {b : Bool} : x ∈ withL l n b ↔ (0 ≤ x ∧ x < 3) ∧ ((x = n ∧ b = true) ∨ (x ≠ n ∧ x ∈ l)) := by
  unfold withL
  rw [List.mem_filter]
  have h3 : x ∈ ([0, 1, 2] : List Int) ↔ (0 ≤ x ∧ x < 3) := by simp; omega
  rw [h3]
  simp only [Bool.or_eq_true, Bool.and_eq_true, decide_eq_true_eq, Bool.not_eq_true', decide_eq_false_iff_not, any_mem]
theorem withL_out {l : List Int} {n : Int} (h1 : ∀ x, x ∈ l → 0 ≤ x ∧ x < 3) (h2 : l.Pairwise (· < ·)) : withL l n false = l.filter fun x => !decide (x = n) := by
  refine sorted_ext (withL_sorted ..) (List.Pairwise.filter _ h2) fun x => ?_
  rw [mem_withL, List.mem_filter]
  simp only [Bool.false_eq_true, and_false, false_or, Bool.not_eq_true', decide_eq_false_iff_not]
  constructor
  · rintro ⟨_, h4, h5⟩; exact ⟨h5, h4⟩
  · rintro ⟨h5, h4⟩; exact ⟨h1 x h5, h4, h5⟩
theorem filter_ne {l : List D_Up} {k : Nat} {y : D_Up} (hs : l.Pairwise (fun a b => sLt a.1 b.1 = true)) (hk : l[k]? = some y) : l.filter (fun z => !decide (z.1 = y.1)) = l.eraseIdx k := by
  induction l generalizing k with
  | nil => cases hk
  | cons a l ih =>
    obtain ⟨h1, h2⟩ := List.pairwise_cons.1 hs
    cases k with
    | zero =>
      cases hk
      rw [List.filter_cons, if_neg (by simp), List.eraseIdx_cons_zero, List.filter_eq_self.2 fun z hz => ?_]
      have := sLt_ne (h1 z hz)
      simp [Ne.symm this]
    | succ k =>
      have hk' : l[k]? = some y := hk
      have := sLt_ne (h1 y (List.mem_of_getElem? hk'))
      rw [List.filter_cons, if_pos (by simp [this]), List.eraseIdx_cons_succ, ih h2 hk']
theorem setU_at {l : List D_Up} {k : Nat} {x y : D_Up} (hs : l.Pairwise (fun a b => sLt a.1 b.1 = true)) (hk : l[k]? = some y) (hc : x.1 = y.1) : setU x l = l.set k x := by
  induction l generalizing k with
  | nil => cases hk
  | cons a l ih =>
    obtain ⟨h1, h2⟩ := List.pairwise_cons.1 hs
    cases k with
    | zero =>
      cases hk
      rw [setU, hc, sLt_irrefl, List.set_cons_zero]
      have := filter_ne (k := 0) (y := y) hs rfl
      simp only [Bool.false_eq_true, if_false, this, List.eraseIdx_cons_zero]
    | succ k =>
      have hk' : l[k]? = some y := hk
      have := h1 y (List.mem_of_getElem? hk')
      rw [setU, hc, this, if_pos rfl, List.set_cons_succ, ih h2 hk']
noncomputable def upLostD (d : D_Ups) (c : ByteArray) (n : Int) : D_Ups × Bool :=
  if upsOkB d then
    match d.2.findIdx? (fun s => decide (s.1 = c)) with
    | none => (d, false)
    | some k => match d.2[k]? with
      | none => (d, false)
      | some x => if x.2.1.any (fun y => decide (y = n)) then
          let ns := x.2.1.filter fun y => !decide (y = n)
          ((d.1, if ns.length = 0 then d.2.eraseIdx k else d.2.set k (x.1, ns, x.2.2)), true)
        else (d, false)
  else ((0, []), false)
theorem ups_copy {d : D_Ups} (h : upsOkB d = true) : s_l18Copy d = some d ∧ i_copyUps d = some d := by
  obtain ⟨_, h1, h2, _⟩ := upsOk_facts h
  have h3 : ∀ s, s ∈ d.2 → s.2.1.length ≤ 1000 := fun s hs => by
    obtain ⟨h4, h5⟩ := nodesOk_facts (h2 s hs).2.2.2
    have := nodes_le h4 h5
    omega
  exact ⟨s_l18Copy_eq (by omega) h3, i_copyUps_eq (by omega) h3⟩
theorem s_UpLost_eq {d : D_Ups} {c : ByteArray} {n : Int} (ho : Ok.ok d) : s_UpLost d c n = some (upLostD d c n) := by
  unfold s_UpLost upLostD
  have hl : d.2.length ≤ 9223372036854775807 := ho.2.1
  simp only [Prod.eta, s_UpsOk_eq ho, Option.bind_some]
  cases hk : upsOkB d with
  | false => rfl
  | true =>
    obtain ⟨h1, h2, h3, h4⟩ := upsOk_facts hk
    simp only [Bool.not_true, cond_false, (ups_copy hk).1, Option.bind_some, s_l18At_eq hl, if_true]
    cases hf : d.2.findIdx? (fun s : D_Up => decide (s.1 = c)) with
    | none => rw [firstI_none hf]; rfl
    | some k =>
      obtain ⟨hlt, hc, _⟩ := List.findIdx?_eq_some_iff_getElem.1 hf
      rw [firstI_some hf]
      have hx : d.2[k]? = some d.2[k] := List.getElem?_eq_getElem hlt
      generalize d.2[k] = x at hx hc
      have hn := (h3 x (List.mem_of_getElem? hx)).2.2.2
      obtain ⟨hn1, hn2⟩ := nodesOk_facts hn
      have hnl := nodes_le hn1 hn2
      simp only [show decide ((k : Int) < 0) = false by simp, idx_nat, hx, Option.bind_some, gb, Bool.not_false, Bool.false_or, l18Has_eq (l := x.2.1) (n := n) (by omega)]
      cases hh : x.2.1.any fun y => decide (y = n) with
      | false => rfl
      | true =>
        simp only [Bool.not_true, cond_false, if_true, l18With_eq (l := x.2.1) (n := n) (b := false) (by omega), Option.bind_some, l18Set_eq (show d.2.length ≤ 1000 by omega), withL_out hn1 hn2]
        by_cases h0 : (x.2.1.filter fun y => !decide (y = n)).length = 0
        · rw [if_pos h0, if_pos h0, filter_ne h4 hx]
        · rw [if_neg h0, if_neg h0, setU_at (x := (x.1, x.2.1.filter (fun y => !decide (y = n)), x.2.2)) h4 hx rfl]
theorem delP_one {α : Type} {l : List α} {k : Nat} {v : α} (h : k < l.length) : delP (l.set k v) (k : Int) ((k + 1 : Nat) : Int) = some (l.eraseIdx k) := by
  unfold delP
  rw [if_pos ⟨by omega, by omega, by simp; omega⟩]
  simp only [Int.toNat_natCast]
  rw [List.take_set_of_le (Nat.le_refl _), List.drop_set_of_lt (by omega), List.eraseIdx_eq_take_drop_succ]
theorem i_UpLost_eq {d : D_Ups} {c : ByteArray} {n : Int} (ho : Ok.ok d) : i_UpLost d c n = some (upLostD d c n) := by
  unfold i_UpLost upLostD
  have hl : d.2.length ≤ 9223372036854775807 := ho.2.1
  simp only [Prod.eta, i_UpsOk_eq ho, Option.bind_some]
  cases hk : upsOkB d with
  | false => rfl
  | true =>
    obtain ⟨h1, h2, h3, h4⟩ := upsOk_facts hk
    simp only [Bool.not_true, cond_false, (ups_copy hk).2, Option.bind_some, i_Ups_at_eq hl, if_true]
    cases hf : d.2.findIdx? (fun s : D_Up => decide (s.1 = c)) with
    | none => rw [firstI_none hf]; rfl
    | some k =>
      obtain ⟨hlt, hc, _⟩ := List.findIdx?_eq_some_iff_getElem.1 hf
      rw [firstI_some hf]
      have hx : d.2[k]? = some d.2[k] := List.getElem?_eq_getElem hlt
      generalize d.2[k] = x at hx hc
      have hn := (h3 x (List.mem_of_getElem? hx)).2.2.2
      obtain ⟨hn1, hn2⟩ := nodesOk_facts hn
      have hnl := nodes_le hn1 hn2
      simp only [show decide ((k : Int) < 0) = false by simp, idx_nat, hx, Option.bind_some, gb, Bool.not_false, Bool.false_or, contains_eq (l := x.2.1) (n := n) (by omega)]
      cases hh : x.2.1.any fun y => decide (y = n) with
      | false => rfl
      | true =>
        simp only [Bool.not_true, cond_false, if_true, deleteFunc_eq (l := x.2.1) (a := fun z0 => i_UpLost_c1 z0 n) (fun y => decide (y = n)) (fun _ => rfl) (by omega), Option.bind_some, Int.toNat_natCast, List.getElem?_set_self hlt, wrap_succ (show k < 9223372036854775807 by omega), delP_one hlt]
        by_cases h0 : (x.2.1.filter fun y => !decide (y = n)).length = 0
        · rw [if_pos h0, show decide (((x.2.1.filter fun y => !decide (y = n)).length : Int) = 0) = true by simp [h0]]; rfl
        · rw [if_neg h0, show decide (((x.2.1.filter fun y => !decide (y = n)).length : Int) = 0) = false by simp only [decide_eq_false_iff_not]; omega]; rfl
end Go.Proofs.SL
/- from PWi.lean -/
namespace Go.Proofs.SL
open Go
theorem sortI_with {l : List Int} {n : Int} (h1 : ∀ x, x ∈ l → 0 ≤ x ∧ x < 3) (h2 : l.Pairwise (· < ·)) (hn : 0 ≤ n ∧ n < 3) : ((if l.any (fun x => decide (x = n)) then l else l ++ [n]).mergeSort fun x y => decide (x ≤ y)) = withL l n true := by
  generalize hm : (if l.any (fun x => decide (x = n)) then l else l ++ [n]) = m
  have hmem : ∀ x, x ∈ m ↔ x = n ∨ x ∈ l := by
    intro x
    subst hm
    split
    · rename_i h
      constructor
      · exact .inr
      · rintro (h3 | h3)
        · subst h3; exact any_mem.1 h
        · exact h3
    · rw [List.mem_append, List.mem_singleton]; exact Or.comm
  have hnd : m.Nodup := by
    have hl : l.Nodup := h2.imp fun h => by omega
    subst hm
    split
    · exact hl
    · rename_i h
      rw [List.nodup_append]
      refine ⟨hl, by simp, fun a ha b hb => ?_⟩
      obtain rfl := List.mem_singleton.1 hb
      intro e; subst e
      exact h (any_mem.2 ha)
  refine sorted_ext ?_ (withL_sorted ..) fun x => ?_
  · have hp : (m.mergeSort fun x y => decide (x ≤ y)).Pairwise fun a b => decide (a ≤ b) = true := List.pairwise_mergeSort (by
      intro a b c h3 h4
      simp only [decide_eq_true_eq] at *
      omega) (by
      intro a b
      simp only [Bool.or_eq_true, decide_eq_true_eq]
      omega) m
    have hnd2 : (m.mergeSort fun x y => decide (x ≤ y)).Nodup := (List.mergeSort_perm m _).nodup_iff.2 hnd
    refine (hp.and hnd2).imp fun {a b} ⟨h3, h4⟩ => ?_
    simp only [decide_eq_true_eq] at h3
    omega
  · rw [List.mem_mergeSort, hmem, mem_withL]
    constructor
    · rintro (h | h)
      · subst h; exact ⟨hn, .inl ⟨rfl, rfl⟩⟩
      · by_cases e : x = n
        · subst e; exact ⟨hn, .inl ⟨rfl, rfl⟩⟩
        · exact ⟨h1 x h, .inr ⟨e, h⟩⟩
    · rintro ⟨_, ⟨h, _⟩ | ⟨_, h⟩⟩
      · exact .inl h
      · exact .inr h
theorem i_with_eq {l : List Int} {n : Int} (h1 : ∀ x, x ∈ l → 0 ≤ x ∧ x < 3) (h2 : l.Pairwise (· < ·)) (hn : 0 ≤ n ∧ n < 3) : i_with l n = some (withL l n true) := by
  have hl := nodes_le h1 h2
  unfold i_with
  rw [appP_ok (by simp; omega)]
  simp only [List.nil_append, Option.bind_some]
  rw [contains_eq (by omega), Option.bind_some, ← sortI_with h1 h2 hn]
  cases h : l.any fun x => decide (x = n) with
  | true =>
    simp only [Bool.not_true, cond_false, if_true]
    unfold sortIP
    rw [if_pos (by omega)]; rfl
  | false =>
    simp only [Bool.not_false, cond_true, Bool.false_eq_true, if_false]
    rw [appP_ok (by simp; omega), Option.bind_some]
    unfold sortIP
    rw [if_pos (by simp; omega)]; rfl
theorem i_with_any {l : List Int} {n : Int} (hl : l.length ≤ 1000) : ∃ m, i_with l n = some m ∧ (∀ x, x ∈ m ↔ x = n ∨ x ∈ l) ∧ m.length ≤ l.length + 1 := by
  unfold i_with
  rw [appP_ok (by simp; omega)]
  simp only [List.nil_append, Option.bind_some]
  rw [contains_eq (by omega), Option.bind_some]
  cases h : l.any fun x => decide (x = n) with
  | true =>
    simp only [Bool.not_true, cond_false]
    unfold sortIP
    rw [if_pos (by omega)]
    refine ⟨_, rfl, fun x => ?_, by rw [List.length_mergeSort]; omega⟩
    rw [List.mem_mergeSort]
    constructor
    · exact .inr
    · rintro (rfl | h1)
      · exact any_mem.1 h
      · exact h1
  | false =>
    simp only [Bool.not_false, cond_true]
    rw [appP_ok (by simp; omega), Option.bind_some]
    unfold sortIP
    rw [if_pos (by simp; omega)]
    refine ⟨_, rfl, fun x => ?_, by rw [List.length_mergeSort, List.length_append]; simp⟩
    rw [List.mem_mergeSort, List.mem_append, List.mem_singleton]
    constructor
    · rintro (h1 | h1)
      · exact .inr h1
      · exact .inl h1
    · rintro (h1 | h1)
      · exact .inr h1
      · exact .inl h1
end Go.Proofs.SL
/- from PUk.lean -/
namespace Go.Proofs.SL
open Go
noncomputable def ackSet (d : D_Ups) (c : ByteArray) (n : Int) : D_Ups := (d.1, setU (c, withL (upNodes d c) n true, d.1) d.2)
noncomputable def upAckD (d : D_Ups) (c : ByteArray) (n : Int) : D_Ups × Bool :=
  if upsOkB d then (if decide (0 ≤ n ∧ n < 3) && upsOkB (ackSet d c n) then (ackSet d c n, true) else (d, false)) else ((0, []), false)
theorem setU_mem {x z : D_Up} : ∀ {l : List D_Up}, z ∈ setU x l → z = x ∨ z ∈ l
  | [], h => .inl (by simpa [setU] using h)
  | y :: ys, h => by
    unfold setU at h
    split at h
    · rcases List.mem_cons.1 h with h | h
      · exact .inr (by rw [h]; exact List.mem_cons_self ..)
      · rcases setU_mem h with h | h
        · exact .inl h
        · exact .inr (List.mem_cons_of_mem _ h)
    · rcases List.mem_cons.1 h with h | h
      · exact .inl h
      · exact .inr (List.mem_filter.1 h).1
theorem setU_len (x : D_Up) : ∀ l : List D_Up, (setU x l).length ≤ l.length + 1
  | [] => by simp [setU]
  | y :: ys => by
    unfold setU
    split
    · have := setU_len x ys; simp only [List.length_cons]; omega
    · have := List.length_filter_le (fun z => !decide (z.1 = x.1)) (y :: ys); simp only [List.length_cons] at this ⊢; omega
theorem withL_len (l : List Int) (n : Int) (b : Bool) : (withL l n b).length ≤ 3 := by
  unfold withL
  have := List.length_filter_le (fun k : Int => (decide (k = n) && b) || (!decide (k = n) && l.any fun x => decide (x = k))) [0, 1, 2]
  simpa using this
theorem withL_range {l : List Int} {n x : Int} {b : Bool} (h : x ∈ withL l n b) : 0 ≤ x ∧ x < 3 := (mem_withL.1 h).1
theorem ackSet_ok {d : D_Ups} {c : ByteArray} {n : Int} (ho : Ok.ok d) (hl : d.2.length ≤ 1000) (hc : c.size ≤ 9223372036854775807) : Ok.ok (ackSet d c n) := by
  refine ⟨ho.1, by have := setU_len (c, withL (upNodes d c) n true, d.1) d.2; show (setU _ d.2).length ≤ _; omega, fun z hz => ?_⟩
  rcases setU_mem hz with rfl | hz
  · refine ⟨hc, ⟨by have := withL_len (upNodes d c) n true; show (withL _ _ _).length ≤ _; omega, fun x hx => ?_⟩, ho.1⟩
    have := withL_range hx
    show inR x
    unfold inR; omega
  · exact ho.2.2 z hz
theorem upNodes_small {d : D_Ups} {c : ByteArray} (h : upsOkB d = true) : (∀ n, n ∈ upNodes d c → 0 ≤ n ∧ n < 3) ∧ (upNodes d c).Pairwise (· < ·) := by
  obtain ⟨_, _, h2, _⟩ := upsOk_facts h
  unfold upNodes upFind
  cases hf : d.2.find? (fun x : D_Up => decide (x.1 = c)) with
  | none => exact ⟨fun n hn => (by cases hn), List.Pairwise.nil⟩
  | some x => exact nodesOk_facts (h2 x (List.mem_of_find?_eq_some hf)).2.2.2
theorem s_ack_tail {d : D_Ups} {c : ByteArray} {n : Int} (ho : Ok.ok d) (hc : c.size ≤ 9223372036854775807) (h : upsOkB d = true) :
    (Option.bind (s_l18With (upNodes d c) n true) (fun y8 => Option.bind (s_l18Copy (d.1, d.2)) (fun y9 => Option.bind (s_l18Set (y9.1, y9.2) (c, y8, d.1)) (fun y10 => Option.bind (s_l9Node n) (fun y11 => gb (!(!y11)) (s_UpsOk (y10.1, y10.2)) (fun y12 => cond ((!y11) || (!y12)) (Option.bind (s_l18Copy (d.1, d.2)) (fun y14 => some ((y14.1, y14.2), false))) (some ((y10.1, y10.2), true)))))))) =
      some (if decide (0 ≤ n ∧ n < 3) && upsOkB (ackSet d c n) then (ackSet d c n, true) else (d, false)) := by
  have hl := (upsOk_facts h).2.1
  have hu := upNodes_small (c := c) h
  have hn3 := nodes_le hu.1 hu.2
  rw [l18With_eq (by omega), Option.bind_some, (ups_copy h).1, Option.bind_some, l18Set_eq (by show d.2.length ≤ 1000; omega), Option.bind_some, l9Node_eq, Option.bind_some]
  cases hn : decide (0 ≤ n ∧ n < 3) with
  | false =>
    rw [gb_none (!(!false)) _ _ rfl]
    simp only [Bool.not_false, Bool.true_or, cond_true, Bool.false_and, Bool.false_eq_true, if_false, Option.bind_some]
  | true =>
    have hv : 0 ≤ n ∧ n < 3 := of_decide_eq_true hn
    have hmem : n ∈ withL (upNodes d c) n true := mem_withL.2 ⟨hv, .inl ⟨rfl, rfl⟩⟩
    have hne : (withL (upNodes d c) n true).length ≠ 0 := fun e => by rw [List.eq_nil_of_length_eq_zero e] at hmem; cases hmem
    have hne' : ((c, withL (upNodes d c) n true, d.1) : D_Up).2.1.length ≠ 0 := hne
    rw [gb_yes (!(!true)) _ _ rfl, if_neg hne']
    rw [show s_UpsOk (((d.1, d.2) : D_Ups).1, setU (c, withL (upNodes d c) n true, d.1) ((d.1, d.2) : D_Ups).2) = some (upsOkB (ackSet d c n)) from s_UpsOk_eq (ackSet_ok ho (by show d.2.length ≤ 1000; omega) hc), Option.bind_some]
    cases hb : upsOkB (ackSet d c n) with
    | true => rfl
    | false => rfl
theorem s_UpAck_eq {d : D_Ups} {c : ByteArray} {n : Int} (ho : Ok.ok d) (hc : Ok.ok c) : s_UpAck d c n = some (upAckD d c n) := by
  have hc' : c.size ≤ 9223372036854775807 := hc
  unfold s_UpAck upAckD
  rw [show s_UpsOk (d.1, d.2) = some (upsOkB d) from s_UpsOk_eq ho, Option.bind_some]
  cases h : upsOkB d with
  | false => rfl
  | true =>
    have hl := (upsOk_facts h).2.1
    simp only [Bool.not_true, cond_false, if_true]
    rw [show s_l18At (d.1, d.2) c = _ from s_l18At_eq (u := d) (by omega), Option.bind_some, Option.bind_some]
    rcases firstI_find (fun x : D_Up => decide (x.1 = c)) d.2 with ⟨h1, h2⟩ | ⟨k, u, h1, h2, h3⟩
    · have hu : upNodes d c = [] := by unfold upNodes upFind; rw [h2]
      rw [h1]
      simp only [show decide ((0 : Int) ≤ -1) = false from rfl, cond_false]
      have := s_ack_tail (n := n) ho hc' h
      rw [hu] at this
      exact this
    · have hu : upNodes d c = u.2.1 := by unfold upNodes upFind; rw [h3.1]
      rw [h1, show decide ((0 : Int) ≤ (k : Int)) = true from decide_eq_true (by omega)]
      simp only [cond_true]
      rw [idx_nat, h2, Option.bind_some]
      have := s_ack_tail (n := n) ho hc' h
      rw [hu] at this
      exact this
/-! The program's -/
theorem filter_all_ne {l : List D_Up} {c : ByteArray} (h : ∀ y, y ∈ l → y.1 ≠ c) : l.filter (fun z => !decide (z.1 = c)) = l :=
  List.filter_eq_self.2 fun y hy => by simp [h y hy]
theorem setU_new {x : D_Up} : ∀ {l : List D_Up}, (∀ y, y ∈ l → y.1 ≠ x.1) → setU x l = l.take (l.findIdx fun y => !sLt y.1 x.1) ++ [x] ++ l.drop (l.findIdx fun y => !sLt y.1 x.1)
  | [], _ => rfl
  | y :: ys, h => by
    unfold setU
    cases hs : sLt y.1 x.1 with
    | true =>
      rw [if_pos rfl, setU_new fun z hz => h z (List.mem_cons_of_mem _ hz), List.findIdx_cons, hs]
      simp
    | false =>
      rw [if_neg (by simp), filter_all_ne h, List.findIdx_cons, hs]
      simp
theorem firstI_idx {α : Type} (p : α → Bool) (l : List α) : (if firstI p l = -1 then (l.length : Int) else firstI p l) = (l.findIdx p : Nat) := by
  unfold firstI
  rcases hf : l.findIdx? p with _ | k
  · simp only [if_true]
    rw [List.findIdx?_eq_none_iff] at hf
    rw [List.findIdx_eq_length_of_false hf]
  · simp only
    rw [if_neg (by omega)]
    have := List.findIdx?_eq_some_iff_findIdx_eq.1 hf
    rw [this.2]
theorem ok_ins {d : D_Ups} {x : D_Up} {i : Nat} (h1 : Ok.ok d) (hx : Ok.ok x) (hl : d.2.length ≤ 1000) : Ok.ok ((d.1, d.2.take i ++ [x] ++ d.2.drop i) : D_Ups) := by
  refine ⟨h1.1, by show (d.2.take i ++ [x] ++ d.2.drop i).length ≤ _; simp only [List.length_append, List.length_take, List.length_drop, List.length_cons, List.length_nil]; omega, fun z hz => ?_⟩
  rcases List.mem_append.1 hz with hz | hz
  · rcases List.mem_append.1 hz with hz | hz
    · exact h1.2.2 z (List.mem_of_mem_take hz)
    · rw [List.mem_singleton.1 hz]; exact hx
  · exact h1.2.2 z (List.mem_of_mem_drop hz)
theorem ok_setk {d : D_Ups} {x : D_Up} {i : Nat} (h1 : Ok.ok d) (hx : Ok.ok x) : Ok.ok ((d.1, d.2.set i x) : D_Ups) := by
  refine ⟨h1.1, by show (d.2.set i x).length ≤ _; rw [List.length_set]; exact h1.2.1, fun z hz => ?_⟩
  rcases List.mem_or_eq_of_mem_set hz with hz | hz
  · exact h1.2.2 z hz
  · rw [hz]; exact hx
theorem ups_bad {e : Int} {l : List D_Up} {x : D_Up} {n : Int} (hx : x ∈ l) (hn : n ∈ x.2.1) (hv : ¬ (0 ≤ n ∧ n < 3)) : upsOkB (e, l) = false := by
  cases h : upsOkB (e, l) with
  | false => rfl
  | true =>
    obtain ⟨_, _, h2, _⟩ := upsOk_facts h
    exact (hv ((nodesOk_facts (h2 x hx).2.2.2).1 n hn)).elim
theorem i_ack_end {d y : D_Ups} (h : upsOkB d = true) (hy : Ok.ok y) :
    (Option.bind (i_UpsOk (y.1, y.2)) (fun y14 => cond (!y14) (Option.bind (some d) (fun y16 => some (((y16.1, y16.2) : D_Ups), false))) (some ((y.1, y.2), true)))) = some (if upsOkB y then (y, true) else (d, false)) := by
  rw [show i_UpsOk (y.1, y.2) = some (upsOkB y) from i_UpsOk_eq hy, Option.bind_some]
  cases upsOkB y with
  | true => rfl
  | false =>
    simp only [Bool.not_false, cond_true, Bool.false_eq_true, if_false]; rfl
theorem i_UpAck_eq {d : D_Ups} {c : ByteArray} {n : Int} (ho : Ok.ok d) (hc : Ok.ok c) (hn : inR n) : i_UpAck d c n = some (upAckD d c n) := by
  have hc' : c.size ≤ 9223372036854775807 := hc
  unfold i_UpAck upAckD
  rw [show i_UpsOk (d.1, d.2) = some (upsOkB d) from i_UpsOk_eq ho, Option.bind_some]
  cases h : upsOkB d with
  | false => rfl
  | true =>
    obtain ⟨_, hl, hfs, hsrt⟩ := upsOk_facts h
    have hun := upNodes_small (c := c) h
    have hn3 := nodes_le hun.1 hun.2
    simp only [Bool.not_true, cond_false, if_true]
    rw [show i_copyUps (d.1, d.2) = some d from (ups_copy h).2, Option.bind_some, show i_Ups_nodes (d.1, d.2) c = _ from i_Ups_nodes_eq (u := d) (by omega), Option.bind_some]
    obtain ⟨m, hm, hmm, hml⟩ := i_with_any (n := n) (show (upNodes d c).length ≤ 1000 by omega)
    have hmv : 0 ≤ n ∧ n < 3 → m = withL (upNodes d c) n true := fun hv => by
      have := i_with_eq hun.1 hun.2 hv
      rw [hm] at this; exact Option.some.inj this
    have hxo : Ok.ok ((c, m, d.1) : D_Up) := ⟨hc', ⟨by show m.length ≤ _; omega, fun x hx => by
      rcases (hmm x).1 hx with rfl | hx
      · exact hn
      · have := hun.1 x hx; show inR x; unfold inR; omega⟩, ho.1⟩
    rw [hm, Option.bind_some, show i_Ups_at (d.1, d.2) c = _ from i_Ups_at_eq (u := d) (by omega), Option.bind_some]
    rcases firstI_find (fun x : D_Up => decide (x.1 = c)) d.2 with ⟨h1, h2⟩ | ⟨k, u, h1, h2, h3⟩
    · have hno : ∀ y, y ∈ d.2 → y.1 ≠ c := fun y hy e => by have := List.find?_eq_none.1 h2 y hy; simp [e] at this
      rw [h1]
      simp only [show decide ((0 : Int) ≤ -1) = false from rfl, cond_false]
      let q : Int → Option (D_Ups × Bool) := fun i => Option.bind (insP d.2 (if i = -1 then (d.2.length : Int) else i) (c, m, d.1)) (fun y21 => Option.bind (i_UpsOk (d.1, y21)) (fun y23 => cond (!y23) (Option.bind (some d) (fun y25 => some ((y25.1, y25.2), false))) (some ((d.1, y21), true))))
      rw [whileP_find (l := d.2) (fun y : D_Up => !sLt y.1 c) q (by omega)]
      · show Option.bind (insP d.2 (if firstI (fun y : D_Up => !sLt y.1 c) d.2 = -1 then (d.2.length : Int) else firstI (fun y : D_Up => !sLt y.1 c) d.2) (c, m, d.1)) _ = _
        rw [firstI_idx]
        have hle : d.2.findIdx (fun y : D_Up => !sLt y.1 c) ≤ d.2.length := List.findIdx_le_length
        rw [show insP d.2 ((d.2.findIdx (fun y : D_Up => !sLt y.1 c) : Nat) : Int) (c, m, d.1) = some _ from if_pos ⟨by omega, by omega, by omega⟩, Option.bind_some]
        rw [Int.toNat_natCast]
        rw [show ((fun y : D_Up => !sLt y.1 c) : D_Up → Bool) = fun y => !sLt y.1 ((c, m, d.1) : D_Up).1 from rfl, ← setU_new (x := (c, m, d.1)) hno]
        have hok : Ok.ok ((d.1, setU (c, m, d.1) d.2) : D_Ups) := by
          rw [setU_new (x := (c, m, d.1)) hno]; exact ok_ins ho hxo (by omega)
        have he := i_ack_end (y := (d.1, setU (c, m, d.1) d.2)) h hok
        refine he.trans ?_
        cases hv : decide (0 ≤ n ∧ n < 3) with
        | true =>
          rw [hmv (of_decide_eq_true hv)]
          simp only [Bool.true_and]; rfl
        | false =>
          have : upsOkB (d.1, setU (c, m, d.1) d.2) = false := ups_bad (x := (c, m, d.1)) (n := n) (by rw [setU_new (x := (c, m, d.1)) hno]; simp) ((hmm n).2 (.inl rfl)) (of_decide_eq_false hv)
          rw [this]; rfl
      · intro k x hx
        have hk := (List.getElem?_eq_some_iff.1 hx).1
        simp only [lt_dec hk, idx_nat, hx, Bool.true_and, gb_true, Option.bind_some]
        cases hs : sLt x.1 c with
        | true => simp only [cond_true, Bool.not_true, Bool.false_eq_true, if_false]
        | false =>
          simp only [cond_false, Bool.not_false, if_true]
          show _ = Option.map Sum.inr (Option.bind (insP d.2 (if (k : Int) = -1 then (d.2.length : Int) else (k : Int)) (c, m, d.1)) _)
          rw [if_neg (by omega)]; rfl
      · simp only [ge_dec, gb_false, Bool.false_and, cond_false]
        show _ = Option.map Sum.inr (Option.bind (insP d.2 (if (-1 : Int) = -1 then (d.2.length : Int) else -1) (c, m, d.1)) _)
        rw [if_pos rfl]
    · rw [h1, show decide ((0 : Int) ≤ (k : Int)) = true from decide_eq_true (by omega)]
      simp only [cond_true]
      rw [idx_nat, h2, Option.bind_some, Option.bind_some, Int.toNat_natCast]
      have huc : u.1 = c := by have := List.find?_some h3.1; simpa using this
      have hset : ∀ ns, setU (c, ns, d.1) d.2 = d.2.set k (c, ns, d.1) := fun ns => setU_at (x := (c, ns, d.1)) hsrt h2 huc.symm
      refine (i_ack_end (y := (d.1, d.2.set k (c, m, d.1))) h (ok_setk ho hxo)).trans ?_
      cases hv : decide (0 ≤ n ∧ n < 3) with
      | true =>
        rw [hmv (of_decide_eq_true hv)]
        unfold ackSet
        rw [hset]
        simp only [Bool.true_and]
      | false =>
        have hk := (List.getElem?_eq_some_iff.1 h2).1
        have : upsOkB (d.1, d.2.set k (c, m, d.1)) = false := ups_bad (x := (c, m, d.1)) (n := n) (List.mem_iff_getElem?.2 ⟨k, by rw [List.getElem?_set_self hk]⟩) ((hmm n).2 (.inl rfl)) (of_decide_eq_false hv)
        rw [this]; rfl
end Go.Proofs.SL
/- from PW.lean -/
namespace Go.Proofs.SL
open Go
/-- Byte k of a text is a small letter. -/
def letter (s : ByteArray) (k : Nat) : Bool := match sidx s (k : Int) with
  | some n => !(decide (n < 97) || decide (122 < n))
  | none => false
def isWordB (s : ByteArray) : Bool := decide (1 ≤ (s.size : Int) ∧ (s.size : Int) ≤ 8) && (List.range s.size).all (letter s)
theorem word_loop {β : Type} {s : ByteArray} {no yes : Option β} {f : Int → Option (Int ⊕ β)} (hl : s.size ≤ 9223372036854775807)
    (hf : ∀ (k : Nat) (n : Int), k < s.size → sidx s (k : Int) = some n → f (k : Int) = if !(decide (n < 97) || decide (122 < n)) then some (.inl (IntKind.wrap .i64 ((k : Int) + 1))) else no.map .inr) (hn : f (s.size : Int) = yes.map .inr) :
    whileP f 0 = if (List.range s.size).all (letter s) then yes else no := by
  refine whileP_all (letter s) no yes (fun k hk => ?_) hn
  obtain ⟨n, hs, _, _⟩ := sidx_lt hk
  rw [hf k n hk hs, wrap_succ (by omega)]
  unfold letter
  rw [hs]
theorem s_l4Word_eq {s : ByteArray} (hl : s.size ≤ 9223372036854775807) : s_l4Word s = some (isWordB s) := by
  unfold s_l4Word isWordB
  rw [l1In_eq]
  cases h : decide (1 ≤ (s.size : Int) ∧ (s.size : Int) ≤ 8) with
  | false => rfl
  | true =>
    simp only [Option.bind_some, Bool.not_true, cond_false, Bool.true_and]
    rw [word_loop (no := some false) (yes := some true) hl]
    · cases (List.range s.size).all (letter s) <;> rfl
    · intro k n hk hs
      simp only [lt_dec hk, cond_true, hs, Option.bind_some]
      rw [show ∀ (g : Bool) (q : Int → Option (Int ⊕ Bool)), gb g (some n) q = if g then q n else q default from fun g q => by cases g <;> rfl]
      cases decide (n < 97) <;> cases decide (122 < n) <;> rfl
    · simp only [ge_dec]; rfl
theorem i_isWord_eq {s : ByteArray} (hl : s.size ≤ 9223372036854775807) : i_isWord s = some (isWordB s) := by
  unfold i_isWord isWordB
  simp only [within_eq, Option.bind_some]
  rw [word_loop (no := some false) (yes := some (decide (1 ≤ (s.size : Int) ∧ (s.size : Int) ≤ 8))) hl]
  · cases (List.range s.size).all (letter s) <;> simp
  · intro k n hk hs
    simp only [lt_dec hk, cond_true, hs, Option.bind_some]
    rw [show ∀ (g : Bool) (q : Int → Option (Int ⊕ Bool)), gb g (some n) q = if g then q n else q default from fun g q => by cases g <;> rfl]
    cases decide (n < 97) <;> cases decide (122 < n) <;> rfl
  · simp only [ge_dec]; rfl
def areChunksB (l : List ByteArray) : Bool := l.all fun c => decide ((c.size : Int) = 8)
theorem i_areChunks_eq {l : List ByteArray} (hl : l.length ≤ 9223372036854775807) : i_areChunks l = some (areChunksB l) := by
  unfold i_areChunks areChunksB
  rw [each_loop (p := fun c => decide ((c.size : Int) = 8)) (no := some false) (yes := some true) hl]
  · cases l.all _ <;> rfl
  · intro k x hx
    simp only [lt_dec (List.getElem?_eq_some_iff.1 hx).1, cond_true, idx_nat, hx, Option.bind_some]
    cases decide ((x.size : Int) = 8) <;> rfl
  · simp only [ge_dec]; rfl
end Go.Proofs.SL
/- from PU.lean -/
namespace Go.Proofs.SL
open Go
def wordIfB (s : ByteArray) (is : Bool) : Bool := if is then isWordB s else decide (s = ByteArray.empty)
theorem s_l4May_eq {s : ByteArray} {b : Bool} (hl : s.size ≤ 9223372036854775807) : s_l4May s b = some (wordIfB s b) := by
  unfold s_l4May wordIfB
  rw [s_l4Word_eq hl]
  cases b <;> rfl
theorem i_wordIf_eq {s : ByteArray} {b : Bool} (hl : s.size ≤ 9223372036854775807) : i_wordIf s b = some (wordIfB s b) := by
  unfold i_wordIf wordIfB
  rw [i_isWord_eq hl]
  cases b <;> rfl
theorem s_l4Texts_eq {a b : List ByteArray} (hl : a.length ≤ 9223372036854775807) : s_l4Texts a b = some (decide (a = b)) := by
  unfold s_l4Texts
  by_cases h : a.length = b.length
  · rw [show decide ((a.length : Int) = (b.length : Int)) = true by simp; omega]
    simp only [Bool.not_true, cond_false]
    rw [whileP_all (n := a.length) (fun k => decide (a[k]? = b[k]?)) (some false) (some true)]
    · by_cases e : a = b
      · subst e; simp
      · rw [decide_eq_false e]
        have : (List.range a.length).all (fun k => decide (a[k]? = b[k]?)) = false := by
          rw [Bool.eq_false_iff]
          intro hh
          refine e (List.ext_getElem? fun i => ?_)
          by_cases hi : i < a.length
          · simpa using List.all_eq_true.1 hh i (List.mem_range.2 hi)
          · rw [List.getElem?_eq_none (by omega), List.getElem?_eq_none (by omega)]
        rw [this]; rfl
    · intro k hk
      have h1 : a[k]? = some a[k] := List.getElem?_eq_getElem hk
      have h2 : b[k]? = some (b[k]'(by omega)) := List.getElem?_eq_getElem (by omega)
      simp only [lt_dec hk, cond_true, idx_nat, h1, h2, Option.bind_some, wrap_succ (show k < 9223372036854775807 by omega), Option.some.injEq]
      cases decide (a[k] = b[k]'(by omega)) <;> rfl
    · simp only [ge_dec]; rfl
  · rw [show decide ((a.length : Int) = (b.length : Int)) = false by simp; omega, decide_eq_false (fun e => h (by rw [e]))]; rfl
theorem s_SameCmd_eq {a b : D_Cmd} (ho : Ok.ok a) : s_SameCmd a b = some (pB (a = b)) := by
  obtain ⟨a1, a2, a3, a4, a5, a6, a7, a8⟩ := a
  obtain ⟨b1, b2, b3, b4, b5, b6, b7, b8⟩ := b
  have hl : a8.length ≤ 9223372036854775807 := ho.2.2.2.2.2.2.2.1
  unfold s_SameCmd
  rw [s_l4Texts_eq hl, gb_some (fun h => by rw [h]; simp)]
  congr 1
  rw [Bool.eq_iff_iff, pB_iff]
  simp [and_assoc]
theorem i_SameCmd_eq {a b : D_Cmd} (ho : Ok.ok a) : i_SameCmd a b = some (pB (a = b)) := s_SameCmd_eq ho
def noCmd : D_Cmd := (0, 0, 0, ByteArray.empty, ByteArray.empty, ByteArray.empty, 0, [])
noncomputable def cmdOkB (c : D_Cmd) : Bool :=
  if c.1 = 0 then pB (c = noCmd) else
    decide (1 ≤ c.1 ∧ c.1 ≤ 7) && decide (1 ≤ c.2.1 ∧ c.2.1 ≤ 9) && decide (1 ≤ c.2.2.1 ∧ c.2.2.1 ≤ 1000) && wordIfB c.2.2.2.1 (!decide (c.1 = 7)) && wordIfB c.2.2.2.2.1 (decide (c.1 = 3) || decide (c.1 = 4)) && wordIfB c.2.2.2.2.2.1 (decide (c.1 = 4)) &&
    (decide (c.2.2.2.2.2.2.1 = 0) || (decide (c.1 = 5) && decide (0 ≤ c.2.2.2.2.2.2.1 ∧ c.2.2.2.2.2.2.1 ≤ 9))) && (if c.1 = 3 then decide (1 ≤ (c.2.2.2.2.2.2.2.length : Int) ∧ (c.2.2.2.2.2.2.2.length : Int) ≤ 4) && areChunksB c.2.2.2.2.2.2.2 else decide ((c.2.2.2.2.2.2.2.length : Int) = 0))
set_option maxHeartbeats 1000000 in
theorem i_CmdOk_eq {c : D_Cmd} (ho : Ok.ok c) : i_CmdOk c = some (cmdOkB c) := by
  have hl : c.2.2.2.2.2.2.2.length ≤ 9223372036854775807 := ho.2.2.2.2.2.2.2.1
  have h4 : c.2.2.2.1.size ≤ 9223372036854775807 := ho.2.2.2.1
  have h5 : c.2.2.2.2.1.size ≤ 9223372036854775807 := ho.2.2.2.2.1
  have h6 : c.2.2.2.2.2.1.size ≤ 9223372036854775807 := ho.2.2.2.2.2.1
  unfold i_CmdOk cmdOkB
  simp only [i_SameCmd_eq ho, within_eq, i_wordIf_eq h4, i_wordIf_eq h5, i_wordIf_eq h6, i_areChunks_eq hl, Option.bind_some, gbs]
  by_cases h0 : c.1 = 0
  · rw [if_pos h0, decide_eq_true h0]; rfl
  · rw [if_neg h0, decide_eq_false h0]
    generalize wordIfB c.2.2.2.1 _ = W1
    generalize wordIfB c.2.2.2.2.1 _ = W2
    generalize wordIfB c.2.2.2.2.2.1 _ = W3
    generalize areChunksB c.2.2.2.2.2.2.2 = W4
    by_cases h5 : c.1 = 5
    · simp only [h5]
      cases decide (1 ≤ c.2.1 ∧ c.2.1 ≤ 9) <;> cases decide (1 ≤ c.2.2.1 ∧ c.2.2.1 ≤ 1000) <;> cases W1 <;> cases W2 <;> cases W3 <;> cases decide (c.2.2.2.2.2.2.1 = 0) <;> cases decide (0 ≤ c.2.2.2.2.2.2.1 ∧ c.2.2.2.2.2.2.1 ≤ 9) <;> simp
    · by_cases h3 : c.1 = 3
      · simp only [h3]
        cases decide (1 ≤ c.2.1 ∧ c.2.1 ≤ 9) <;> cases decide (1 ≤ c.2.2.1 ∧ c.2.2.1 ≤ 1000) <;> cases W1 <;> cases W2 <;> cases W3 <;> cases decide (c.2.2.2.2.2.2.1 = 0) <;> cases decide (1 ≤ (c.2.2.2.2.2.2.2.length : Int) ∧ (c.2.2.2.2.2.2.2.length : Int) ≤ 4) <;> simp
      · rw [decide_eq_false h5, decide_eq_false h3, if_neg h3]
        cases decide (1 ≤ c.1 ∧ c.1 ≤ 7) <;> cases decide (1 ≤ c.2.1 ∧ c.2.1 ≤ 9) <;> cases decide (1 ≤ c.2.2.1 ∧ c.2.2.1 ≤ 1000) <;> cases W1 <;> cases W2 <;> cases W3 <;> cases decide (c.2.2.2.2.2.2.1 = 0) <;> simp
set_option maxHeartbeats 1000000 in
theorem s_CmdOk_eq {c : D_Cmd} (ho : Ok.ok c) : s_CmdOk c = some (cmdOkB c) := by
  have hl : c.2.2.2.2.2.2.2.length ≤ 9223372036854775807 := ho.2.2.2.2.2.2.2.1
  have h4 : c.2.2.2.1.size ≤ 9223372036854775807 := ho.2.2.2.1
  have h5 : c.2.2.2.2.1.size ≤ 9223372036854775807 := ho.2.2.2.2.1
  have h6 : c.2.2.2.2.2.1.size ≤ 9223372036854775807 := ho.2.2.2.2.2.1
  unfold s_CmdOk cmdOkB
  simp only [s_SameCmd_eq ho, l1In_eq, s_l4May_eq h4, s_l4May_eq h5, s_l4May_eq h6, Option.bind_some, gbs]
  rw [each_loop (p := fun c => decide ((c.size : Int) = 8)) (no := some false) (yes := some true) hl]
  rotate_left
  · intro k x hx
    simp only [lt_dec (List.getElem?_eq_some_iff.1 hx).1, cond_true, idx_nat, hx, Option.bind_some]
    cases decide ((x.size : Int) = 8) <;> rfl
  · simp only [ge_dec]; rfl
  by_cases h0 : c.1 = 0
  · rw [if_pos h0, decide_eq_true h0, decide_eq_true (show 0 ≤ c.1 ∧ c.1 ≤ 7 by omega)]; rfl
  · rw [if_neg h0, decide_eq_false h0]
    have e7 : decide (0 ≤ c.1 ∧ c.1 ≤ 7) = decide (1 ≤ c.1 ∧ c.1 ≤ 7) := by rw [Bool.eq_iff_iff]; simp; omega
    rw [e7]
    show _ = some (_ && (if c.1 = 3 then _ && c.2.2.2.2.2.2.2.all (fun c => decide ((c.size : Int) = 8)) else _))
    generalize wordIfB c.2.2.2.1 _ = W1
    generalize wordIfB c.2.2.2.2.1 _ = W2
    generalize wordIfB c.2.2.2.2.2.1 _ = W3
    generalize c.2.2.2.2.2.2.2.all _ = W4
    by_cases h5 : c.1 = 5
    · simp only [h5]
      cases decide (1 ≤ c.2.1 ∧ c.2.1 ≤ 9) <;> cases decide (1 ≤ c.2.2.1 ∧ c.2.2.1 ≤ 1000) <;> cases W1 <;> cases W2 <;> cases W3 <;> cases decide (c.2.2.2.2.2.2.1 = 0) <;> cases decide (0 ≤ c.2.2.2.2.2.2.1 ∧ c.2.2.2.2.2.2.1 ≤ 9) <;> simp
    · by_cases h3 : c.1 = 3
      · simp only [h3]
        cases decide (1 ≤ c.2.1 ∧ c.2.1 ≤ 9) <;> cases decide (1 ≤ c.2.2.1 ∧ c.2.2.1 ≤ 1000) <;> cases W1 <;> cases W2 <;> cases W3 <;> cases decide (c.2.2.2.2.2.2.1 = 0) <;> cases decide (1 ≤ (c.2.2.2.2.2.2.2.length : Int) ∧ (c.2.2.2.2.2.2.2.length : Int) ≤ 4) <;> cases W4 <;> simp
      · rw [decide_eq_false h5, decide_eq_false h3, if_neg h3]
        cases decide (1 ≤ c.1 ∧ c.1 ≤ 7) <;> cases decide (1 ≤ c.2.1 ∧ c.2.1 ≤ 9) <;> cases decide (1 ≤ c.2.2.1 ∧ c.2.2.1 ≤ 1000) <;> cases W1 <;> cases W2 <;> cases W3 <;> cases decide (c.2.2.2.2.2.2.1 = 0) <;> simp
end Go.Proofs.SL
/- from PU2.lean -/
namespace Go.Proofs.SL
open Go
noncomputable def upGateB (u : D_Ups) (m : D_Cmd) : Bool := m.2.2.2.2.2.2.2.all (fun c => !decide (upHasB u c < 2)) && upsOkB u && cmdOkB m
theorem i_UpGate_eq {u : D_Ups} {m : D_Cmd} (ho : Ok.ok u) (hm : Ok.ok m) : i_UpGate u m = some (upGateB u m) := by
  have hl : m.2.2.2.2.2.2.2.length ≤ 9223372036854775807 := hm.2.2.2.2.2.2.2.1
  unfold i_UpGate upGateB
  simp only [Prod.eta, i_UpsOk_eq ho, i_CmdOk_eq hm, Option.bind_some, gbs, i_UpHas_eq ho]
  rw [each_loop (p := fun c => !decide (upHasB u c < 2)) (no := some false) (yes := some (upsOkB u && cmdOkB m)) hl]
  · cases m.2.2.2.2.2.2.2.all _ <;> simp
  · intro k x hx
    simp only [lt_dec (List.getElem?_eq_some_iff.1 hx).1, cond_true, idx_nat, hx, Option.bind_some]
    cases decide (upHasB u x < 2) <;> rfl
  · simp only [ge_dec]
    cases upsOkB u <;> cases cmdOkB m <;> rfl
end Go.Proofs.SL
/- from PD1.lean -/
namespace Go.Proofs.SL
open Go
def CurOk (d : D_l1Cur) : Prop := 0 ≤ d.2.1 ∧ d.2.1 ≤ (d.1.length : Int) ∧ d.1.length ≤ 4611686018427387904
theorem and255i (x : Int) : 0 ≤ bits .and .i64 x 255 ∧ bits .and .i64 x 255 ≤ 255 := and_mask x 255 (by omega)
theorem byte_ok {d : D_l1Cur} (h : CurOk d) : ∃ n d', s_l1Byte d = some (n, d') ∧ (0 ≤ n ∧ n ≤ 255) ∧ CurOk d' ∧ d'.1 = d.1 := by
  obtain ⟨b, i, q⟩ := d
  obtain ⟨h1, h2, h3⟩ := h
  dsimp only at h1 h2 h3
  unfold s_l1Byte
  dsimp only
  by_cases hi : i < (b.length : Int)
  · obtain ⟨k, rfl⟩ := Int.eq_ofNat_of_zero_le h1
    have hk : b[k]? = some (b[k]'(by omega)) := List.getElem?_eq_getElem _
    rw [decide_eq_true hi, cond_true, idx_nat, hk]
    refine ⟨_, _, rfl, and255i _, ⟨?_, ?_, h3⟩, rfl⟩
    · dsimp only; rw [wrap_succ (by omega)]; omega
    · dsimp only; rw [wrap_succ (by omega)]; omega
  · rw [decide_eq_false hi, cond_false]
    exact ⟨_, _, rfl, and255i _, ⟨h1, h2, h3⟩, rfl⟩
theorem tmod_lt {a n : Int} (h : 0 ≤ a) (hn : 0 < n) : 0 ≤ a.tmod n ∧ a.tmod n < n := by
  rw [Int.tmod_eq_emod_of_nonneg h]
  exact ⟨Int.emod_nonneg _ (by omega), Int.emod_lt_of_pos _ hn⟩
theorem below_ok {d : D_l1Cur} (h : CurOk d) (n : Int) : ∃ x d', s_l1Below d n = some (x, d') ∧ (0 ≤ x ∧ (0 < n → x < n) ∧ (n ≤ 0 → x = 0)) ∧ CurOk d' := by
  unfold s_l1Below
  simp only [Prod.eta]
  by_cases h0 : n ≤ 0
  · rw [decide_eq_true h0, cond_true]
    exact ⟨_, _, rfl, ⟨Int.le_refl _, fun h => by omega, fun _ => rfl⟩, h⟩
  · rw [decide_eq_false h0, cond_false]
    have hr : ∀ a, 0 ≤ a → ∃ x, remP a n = some x ∧ (0 ≤ x ∧ (0 < n → x < n) ∧ (n ≤ 0 → x = 0)) := fun a ha => by
      have := tmod_lt ha (show 0 < n by omega)
      exact ⟨_, by unfold remP; rw [if_neg (by omega)], this.1, fun _ => this.2, fun h => by omega⟩
    by_cases h1 : n ≤ 256
    · rw [decide_eq_true h1, cond_true]
      obtain ⟨y, d1, e1, g1, c1, _⟩ := byte_ok h
      obtain ⟨x, ex, gx⟩ := hr y g1.1
      rw [e1, Option.bind_some]
      dsimp only
      rw [ex]
      exact ⟨x, d1, rfl, gx, c1⟩
    · rw [decide_eq_false h1, cond_false]
      obtain ⟨y1, d1, e1, g1, c1, _⟩ := byte_ok h
      obtain ⟨y2, d2, e2, g2, c2, _⟩ := byte_ok c1
      obtain ⟨y3, d3, e3, g3, c3, _⟩ := byte_ok c2
      obtain ⟨y4, d4, e4, g4, c4, _⟩ := byte_ok c3
      simp only [e1, e2, e3, e4, Option.bind_some]
      obtain ⟨x, ex, gx⟩ := hr (IntKind.wrap .i64 (IntKind.wrap .i64 (IntKind.wrap .i64 (IntKind.wrap .i64 (y1 * 16777216) + IntKind.wrap .i64 (y2 * 65536)) + IntKind.wrap .i64 (y3 * 256)) + y4)) (by
        rw [wrap64_in (n := y1 * 16777216) (by unfold inR; omega), wrap64_in (n := y2 * 65536) (by unfold inR; omega), wrap64_in (n := y3 * 256) (by unfold inR; omega), wrap64_in (n := y1 * 16777216 + y2 * 65536) (by unfold inR; omega), wrap64_in (n := y1 * 16777216 + y2 * 65536 + y3 * 256) (by unfold inR; omega), wrap64_in (by unfold inR; omega)]
        omega)
      rw [ex]
      exact ⟨x, d4, rfl, gx, c4⟩
theorem below_ok' {d : D_l1Cur} (h : CurOk d) (n : Int) : ∃ x d', s_l1Below d n = some (x, d') ∧ (0 ≤ x ∧ (0 < n → x < n) ∧ (n ≤ 0 → x = 0)) ∧ CurOk d' ∧ d'.1 = d.1 := by
  unfold s_l1Below
  simp only [Prod.eta]
  by_cases h0 : n ≤ 0
  · rw [decide_eq_true h0, cond_true]
    exact ⟨_, _, rfl, ⟨Int.le_refl _, fun h => by omega, fun _ => rfl⟩, h, rfl⟩
  · rw [decide_eq_false h0, cond_false]
    have hr : ∀ a, 0 ≤ a → ∃ x, remP a n = some x ∧ (0 ≤ x ∧ (0 < n → x < n) ∧ (n ≤ 0 → x = 0)) := fun a ha => by
      have := tmod_lt ha (show 0 < n by omega)
      exact ⟨_, by unfold remP; rw [if_neg (by omega)], this.1, fun _ => this.2, fun h => by omega⟩
    by_cases h1 : n ≤ 256
    · rw [decide_eq_true h1, cond_true]
      obtain ⟨y, d1, e1, g1, c1, f1⟩ := byte_ok h
      obtain ⟨x, ex, gx⟩ := hr y g1.1
      rw [e1, Option.bind_some]
      dsimp only
      rw [ex]
      exact ⟨x, d1, rfl, gx, c1, f1⟩
    · rw [decide_eq_false h1, cond_false]
      obtain ⟨y1, d1, e1, g1, c1, f1⟩ := byte_ok h
      obtain ⟨y2, d2, e2, g2, c2, f2⟩ := byte_ok c1
      obtain ⟨y3, d3, e3, g3, c3, f3⟩ := byte_ok c2
      obtain ⟨y4, d4, e4, g4, c4, f4⟩ := byte_ok c3
      simp only [e1, e2, e3, e4, Option.bind_some]
      obtain ⟨x, ex, gx⟩ := hr (IntKind.wrap .i64 (IntKind.wrap .i64 (IntKind.wrap .i64 (IntKind.wrap .i64 (y1 * 16777216) + IntKind.wrap .i64 (y2 * 65536)) + IntKind.wrap .i64 (y3 * 256)) + y4)) (by
        rw [wrap64_in (n := y1 * 16777216) (by unfold inR; omega), wrap64_in (n := y2 * 65536) (by unfold inR; omega), wrap64_in (n := y3 * 256) (by unfold inR; omega), wrap64_in (n := y1 * 16777216 + y2 * 65536) (by unfold inR; omega), wrap64_in (n := y1 * 16777216 + y2 * 65536 + y3 * 256) (by unfold inR; omega), wrap64_in (by unfold inR; omega)]
        omega)
      rw [ex]
      exact ⟨x, d4, rfl, gx, c4, by rw [f4, f3, f2, f1]⟩
theorem once_ok {d : D_l1Cur} (h : CurOk d) (n : Int) : ∃ x d', s_l1Once d n = some (x, d') ∧ CurOk d' := by
  unfold s_l1Once
  simp only [Prod.eta]
  obtain ⟨x, d', e, _, c⟩ := below_ok h n
  rw [e]
  exact ⟨_, d', rfl, c⟩
theorem u8P_wrap (z : Int) : ∃ b, u8P (IntKind.wrap .u8 z) = some b := by
  rw [IntKind.wrap_u8]
  exact ⟨_, if_pos ⟨Int.emod_nonneg _ (by omega), Int.emod_lt_of_pos _ (by omega)⟩⟩
theorem text_ok' {d : D_l1Cur} (h : CurOk d) {n : Int} (h0 : 0 ≤ n) (hn : n ≤ 1000000) : ∃ s d', s_l1Text d n = some (s, d') ∧ (s.size : Int) ≤ n ∧ CurOk d' ∧ d'.1 = d.1 := by
  unfold s_l1Text
  simp only [Prod.eta, Option.bind_some]
  obtain ⟨y3, d3, e3, _, c3, f3⟩ := below_ok' h 4
  rw [e3, Option.bind_some]
  dsimp only
  rw [wrap64_in (by unfold inR; omega)]
  obtain ⟨y4, d4, e4, g4, c4, f4⟩ := below_ok' c3 (n + 1)
  rw [e4, Option.bind_some]
  dsimp only
  have hy := g4.2.1 (by omega)
  refine (fun ⟨r, hr, hq⟩ => ⟨r.1, r.2, hr, hq⟩ : (∃ r : ByteArray × D_l1Cur, _ = some r ∧ ((r.1.size : Int) ≤ n ∧ CurOk r.2 ∧ r.2.1 = d.1)) → _) (whileP_rule (fun s : List UInt8 × Int × Int × Int => 0 ≤ s.2.1 ∧ (s.1.length : Int) + s.2.1 ≤ n ∧ CurOk (d4.1, s.2.2.1, s.2.2.2)) (fun s => s.2.1.toNat) _ ?_ ([], y4, d4.2.1, d4.2.2) ⟨g4.1, by simp; omega, c4⟩)
  · rintro ⟨out, k, i, q⟩ ⟨h1, h2, h3⟩
    dsimp only at h1 h2 h3 ⊢
    by_cases hk : 0 < k
    · left
      obtain ⟨y7, d7, e7, g7, c7, e71⟩ := byte_ok h3
      simp only [decide_eq_true hk, cond_true, e7, Option.bind_some]
      have ho : ∀ b : UInt8, appP out [b] = some (out ++ [b]) := fun b => appP_ok (by simp; omega)
      have hfin : ∀ b : UInt8, 0 ≤ IntKind.wrap .i64 (k - 1) ∧ (((out ++ [b]).length : Nat) : Int) + IntKind.wrap .i64 (k - 1) ≤ n ∧ CurOk (d4.1, d7.2.1, d7.2.2) := fun b => by
        rw [wrap64_in (by unfold inR; omega), List.length_append]
        refine ⟨by omega, by simp; omega, ?_⟩
        have := c7
        unfold CurOk at this ⊢
        dsimp only at e71 ⊢
        rw [e71] at this
        exact this
      have hm : (IntKind.wrap .i64 (k - 1)).toNat < k.toNat := by rw [wrap64_in (by unfold inR; omega)]; omega
      have fin : ∀ z : Int, ∃ s', (Option.bind (u8P (IntKind.wrap .u8 z)) fun y => Option.bind (appP out [y]) fun y' => some (Sum.inl (β := ByteArray × D_l1Cur) (y', IntKind.wrap .i64 (k - 1), d7.2.1, d7.2.2))) = some (.inl s') ∧ (0 ≤ s'.2.1 ∧ (s'.1.length : Int) + s'.2.1 ≤ n ∧ CurOk (d4.1, s'.2.2.1, s'.2.2.2)) ∧ s'.2.1.toNat < k.toNat := fun z => by
        obtain ⟨b, hb⟩ := u8P_wrap z
        rw [hb, Option.bind_some, ho, Option.bind_some]
        exact ⟨_, rfl, hfin b, hm⟩
      cases decide (y3 = 1) <;> cases decide (y3 = 2) <;> exact fin _
    · right
      simp only [decide_eq_false hk, cond_false]
      refine ⟨_, rfl, ?_, h3, by dsimp only; rw [f4, f3]⟩
      dsimp only
      show ((out.length : Nat) : Int) ≤ n
      omega
theorem new_ok {l : List UInt8} (h : l.length ≤ 1048576) : ∃ d, s_l1New l = some d ∧ CurOk d := by
  unfold s_l1New
  refine whileP_rule (fun s : Int × Int => 0 ≤ s.2 ∧ s.2 ≤ (l.length : Int)) (fun s => (l.length - s.2.toNat)) (fun d : D_l1Cur => CurOk d) ?_ (IntKind.wrap .i64 (10101 + (l.length : Int)), 0) ⟨by simp, by simp⟩
  · rintro ⟨q, i⟩ ⟨h1, h2⟩
    dsimp only at h1 h2 ⊢
    by_cases hi : i < (l.length : Int)
    · rw [decide_eq_true hi, Bool.true_and]
      by_cases h4 : i < 4000
      · left
        obtain ⟨k, rfl⟩ := Int.eq_ofNat_of_zero_le h1
        have hk : l[k]? = some (l[k]'(by omega)) := List.getElem?_eq_getElem _
        rw [decide_eq_true h4, cond_true, idx_nat, hk]
        refine ⟨_, rfl, ?_, ?_⟩
        · dsimp only; rw [wrap_succ (by omega)]; omega
        · dsimp only; rw [wrap_succ (by omega)]; omega
      · right
        rw [decide_eq_false h4, cond_false]
        exact ⟨_, rfl, by dsimp only; simp, by dsimp only; simp, by dsimp only; omega⟩
    · right
      rw [decide_eq_false hi, Bool.false_and, cond_false]
      exact ⟨_, rfl, by dsimp only; simp, by dsimp only; simp, by dsimp only; omega⟩
end Go.Proofs.SL
/- from PDk.lean -/
namespace Go.Proofs.SL
open Go
theorem whileP_is {σ α : Type} {f : σ → Option (σ ⊕ α)} {r : α} {s : σ} (I : σ → Prop) (μ : σ → Nat) (h : ∀ s, I s → (∃ s', f s = some (.inl s') ∧ I s' ∧ μ s' < μ s) ∨ f s = some (.inr r)) (hs : I s) : whileP f s = some r := by
  obtain ⟨a, ha, rfl⟩ := whileP_rule I μ (· = r) (fun s hs => (h s hs).imp id fun h => ⟨r, h, rfl⟩) s hs
  exact ha
theorem once_ok' {d : D_l1Cur} (h : CurOk d) (n : Int) : ∃ x d', s_l1Once d n = some (x, d') ∧ CurOk d' ∧ d'.1 = d.1 := by
  unfold s_l1Once
  simp only [Prod.eta]
  obtain ⟨x, d', e, _, c, f⟩ := below_ok' h n
  rw [e]
  exact ⟨_, d', rfl, c, f⟩
theorem pickint_ok' {d : D_l1Cur} (h : CurOk d) {l : List Int} (hl : 0 < l.length) : ∃ x d', s_l1PickInt d l = some (x, d') ∧ x ∈ l ∧ CurOk d' ∧ d'.1 = d.1 := by
  unfold s_l1PickInt
  simp only [Prod.eta]
  obtain ⟨y, d1, e1, g1, c1, f1⟩ := below_ok' h (l.length : Int)
  rw [e1, Option.bind_some]
  dsimp only
  obtain ⟨k, rfl⟩ := Int.eq_ofNat_of_zero_le g1.1
  have hk : k < l.length := by have := g1.2.1 (by omega); omega
  rw [idx_nat, List.getElem?_eq_getElem hk, Option.bind_some]
  exact ⟨_, _, rfl, List.getElem_mem hk, c1, f1⟩
theorem pick_ok' {d : D_l1Cur} (h : CurOk d) {l : List ByteArray} (hl : 0 < l.length) : ∃ x d', s_l1Pick d l = some (x, d') ∧ x ∈ l ∧ CurOk d' ∧ d'.1 = d.1 := by
  unfold s_l1Pick
  simp only [Prod.eta]
  obtain ⟨y, d1, e1, g1, c1, f1⟩ := below_ok' h (l.length : Int)
  rw [e1, Option.bind_some]
  dsimp only
  obtain ⟨k, rfl⟩ := Int.eq_ofNat_of_zero_le g1.1
  have hk : k < l.length := by have := g1.2.1 (by omega); omega
  rw [idx_nat, List.getElem?_eq_getElem hk, Option.bind_some]
  exact ⟨_, _, rfl, List.getElem_mem hk, c1, f1⟩
end Go.Proofs.SL
/- from PH1.lean -/
namespace Go.Proofs.SL
open Go
abbrev Wd := BitVec 32
def iv (w : Wd) : Int := (w.toNat : Int)
def t32 (n : Int) : Wd := BitVec.ofInt 32 n
theorem iv_ge (w : Wd) : 0 ≤ iv w := by unfold iv; omega
theorem iv_lt (w : Wd) : iv w < 4294967296 := by unfold iv; have := w.isLt; omega
theorem t32_nat (n : Int) : ((t32 n).toNat : Int) = n % 4294967296 := by
  unfold t32; rw [BitVec.toNat_ofInt]; omega
theorem t32_of {a b : Int} (h : a % 4294967296 = b % 4294967296) : t32 a = t32 b := by
  apply BitVec.eq_of_toNat_eq
  have h1 := t32_nat a; have h2 := t32_nat b; omega
theorem iv_inj {a b : Wd} (h : iv a = iv b) : a = b := by
  apply BitVec.eq_of_toNat_eq; unfold iv at h; omega
theorem iv_t32 (n : Int) : iv (t32 n) = n % 4294967296 := t32_nat n
theorem t32_iv (w : Wd) : t32 (iv w) = w := by
  apply iv_inj; rw [iv_t32]; have := iv_ge w; have := iv_lt w; omega
theorem t32_wrap (n : Int) : t32 (IntKind.wrap .i64 n) = t32 n := t32_of (by rw [IntKind.wrap_i64]; omega)
theorem t32_add (a b : Int) : t32 (a + b) = t32 a + t32 b := by unfold t32; rw [BitVec.ofInt_add]
theorem t32_64 (n : Int) : (BitVec.ofInt 64 n).setWidth 32 = t32 n := by
  apply BitVec.eq_of_toNat_eq
  rw [BitVec.toNat_setWidth, BitVec.toNat_ofInt]
  have := t32_nat n
  omega
theorem t32_nat64 (x : BitVec 64) : t32 (x.toNat : Int) = x.setWidth 32 := by
  unfold t32; rw [BitVec.ofInt_natCast]; apply BitVec.eq_of_toNat_eq; rw [BitVec.toNat_ofNat, BitVec.toNat_setWidth]
theorem t32_xor (a b : Int) : t32 (bits .xor .i64 a b) = t32 a ^^^ t32 b := by
  show t32 (IntKind.wrap .i64 (((BitVec.ofInt 64 a) ^^^ (BitVec.ofInt 64 b)).toNat : Int)) = _
  rw [t32_wrap, t32_nat64, BitVec.setWidth_xor, t32_64, t32_64]
theorem t32_and (a b : Int) : t32 (bits .and .i64 a b) = t32 a &&& t32 b := by
  show t32 (IntKind.wrap .i64 (((BitVec.ofInt 64 a) &&& (BitVec.ofInt 64 b)).toNat : Int)) = _
  rw [t32_wrap, t32_nat64, BitVec.setWidth_and, t32_64, t32_64]
theorem t32_or (a b : Int) : t32 (bits .or .i64 a b) = t32 a ||| t32 b := by
  show t32 (IntKind.wrap .i64 (((BitVec.ofInt 64 a) ||| (BitVec.ofInt 64 b)).toNat : Int)) = _
  rw [t32_wrap, t32_nat64, BitVec.setWidth_or, t32_64, t32_64]
theorem oM64 : t32 (if IntKind.signed .i64 then (-1 : Int) else IntKind.max .i64) = BitVec.allOnes 32 := by decide
theorem shr_iv (a : Wd) (n : Nat) : iv a / 2 ^ n = iv (a >>> n) := by
  unfold iv
  rw [BitVec.toNat_ushiftRight, Nat.shiftRight_eq_div_pow]
  simp
theorem t32_shl (a : Int) (n : Nat) : t32 (a * 2 ^ n) = t32 a <<< n := by
  apply iv_inj
  rw [iv_t32]; unfold iv
  rw [BitVec.toNat_shiftLeft, Nat.shiftLeft_eq]
  have h := t32_nat a
  have : ((((t32 a).toNat * 2 ^ n) % 2 ^ 32 : Nat) : Int) = ((((t32 a).toNat : Int) * 2 ^ n) % 4294967296) := by
    rw [Int.natCast_emod, Int.natCast_mul]; simp
  rw [this, h, Int.mul_emod a (2 ^ n), Int.mul_emod (a % 4294967296) (2 ^ n), Int.emod_emod_of_dvd a (Int.dvd_refl _)]
/-- An unsigned word that a wider number holds. -/
theorem or64_iv (a b : Wd) : bits .or .i64 (iv a) (iv b) = iv (a ||| b) := by
  show IntKind.wrap .i64 (((BitVec.ofInt 64 (iv a)) ||| (BitVec.ofInt 64 (iv b))).toNat : Int) = _
  have h : ∀ w : Wd, BitVec.ofInt 64 (iv w) = w.setWidth 64 := fun w => by
    apply BitVec.eq_of_toNat_eq
    rw [BitVec.toNat_ofInt, BitVec.toNat_setWidth]
    unfold iv
    omega
  rw [h, h, ← BitVec.setWidth_or]
  have h2 : (((a ||| b).setWidth 64).toNat : Int) = iv (a ||| b) := by
    rw [BitVec.toNat_setWidth]; unfold iv; have := (a ||| b).isLt; omega
  rw [h2, wrap64_in]
  unfold inR; have := iv_ge (a ||| b); have := iv_lt (a ||| b); omega
/-- Turning to the right. -/
def ror (a : Wd) (n : Nat) : Wd := a >>> n ||| a <<< (32 - n)
section
variable {σ τ α : Type}
def it (step : Nat → τ → τ) : Nat → τ → τ
  | 0, t => t
  | n + 1, t => step n (it step n t)
theorem whileP_n {F : σ → Option (σ ⊕ α)} (mk : Nat → τ → σ) (step : Nat → τ → τ) {n : Nat} {t0 : τ} {s0 : σ} (h0 : s0 = mk 0 t0)
    (hs : ∀ i t, i < n → F (mk i t) = some (.inl (mk (i + 1) (step i t)))) {o : Option α} (he : F (mk n (it step n t0)) = o.map .inr) : whileP F s0 = o := by
  have key : ∀ m, m ≤ n → whileP F (mk 0 t0) = whileP F (mk m (it step m t0)) := by
    intro m hm
    induction m with
    | zero => rfl
    | succ m ih =>
      rw [ih (by omega), whileP_eq, hs m _ (by omega)]
      rfl
  rw [h0, key n (Nat.le_refl _), whileP_eq, he]
  cases o <;> rfl
end
def arr (n : Nat) (f : Nat → Wd) : List Int := (List.range n).map fun j => iv (f j)
theorem arr_len (n : Nat) (f : Nat → Wd) : (arr n f).length = n := by unfold arr; simp
theorem arr_get {n j : Nat} (f : Nat → Wd) (h : j < n) : (arr n f)[j]? = some (iv (f j)) := by
  unfold arr; rw [List.getElem?_map, List.getElem?_range h]; rfl
theorem arr_idx {n j : Nat} (f : Nat → Wd) (h : j < n) : idx (arr n f) (j : Int) = some (iv (f j)) := by rw [idx_nat, arr_get f h]
def upd (f : Nat → Wd) (j : Nat) (v : Wd) : Nat → Wd := fun k => if k = j then v else f k
theorem arr_set (n j : Nat) (f : Nat → Wd) (v : Wd) : (arr n f).set j (iv v) = arr n (upd f j v) := by
  apply List.ext_getElem?
  intro k
  rw [List.getElem?_set]
  by_cases hk : k < n
  · rw [arr_get _ hk, arr_get _ hk, arr_len]
    unfold upd
    by_cases h : j = k
    · subst h; simp [hk]
    · rw [if_neg h, if_neg (fun h' => h h'.symm)]
  · have h1 : ∀ g, (arr n g)[k]? = none := fun g => List.getElem?_eq_none (by rw [arr_len]; omega)
    rw [h1, h1, arr_len]
    by_cases h : j = k
    · subst h; simp; omega
    · rw [if_neg h]
/-- The bytes of a text. -/
def byt (s : ByteArray) (i : Nat) : UInt8 := if h : i < s.size then s[i] else 0
theorem sidx_byt {s : ByteArray} {i : Nat} (h : i < s.size) : sidx s (i : Int) = some ((byt s i).toNat : Int) := by
  unfold sidx byt; rw [dif_pos ⟨by omega, by simpa using h⟩, dif_pos h]; simp
def bw (b : UInt8) : Wd := BitVec.ofNat 32 b.toNat
theorem bw_iv (b : UInt8) : (b.toNat : Int) = iv (bw b) := by
  unfold iv bw; rw [BitVec.toNat_ofNat]; have := b.toNat_lt; omega
def wrd (s : ByteArray) (i : Nat) : Wd := bw (byt s i) <<< 24 ||| bw (byt s (i + 1)) <<< 16 ||| bw (byt s (i + 2)) <<< 8 ||| bw (byt s (i + 3))
theorem wrap64_iv (a : Wd) : IntKind.wrap .i64 (iv a) = iv a := wrap64_in (by unfold inR; have := iv_ge a; have := iv_lt a; omega)
theorem shl64_byte (b : UInt8) (n : Nat) (hn : n ≤ 24) : IntKind.wrap .i64 (iv (bw b) * 2 ^ n) = iv (bw b <<< n) := by
  have h1 : iv (bw b) < 256 := by rw [← bw_iv]; have := b.toNat_lt; omega
  have h0 := iv_ge (bw b)
  have h2 : (2 : Int) ^ n ≤ 2 ^ 24 := by
    have : (2 : Nat) ^ n ≤ 2 ^ 24 := Nat.pow_le_pow_right (by omega) hn
    exact_mod_cast this
  have h3 : (0 : Int) < 2 ^ n := Int.pow_pos (by omega)
  have h4 : iv (bw b) * 2 ^ n < 4294967296 := by
    calc iv (bw b) * 2 ^ n ≤ 255 * 2 ^ n := Int.mul_le_mul_of_nonneg_right (by omega) (by omega)
      _ ≤ 255 * 2 ^ 24 := Int.mul_le_mul_of_nonneg_left h2 (by omega)
      _ < 4294967296 := by decide
  have h5 : 0 ≤ iv (bw b) * 2 ^ n := Int.mul_nonneg h0 (by omega)
  rw [wrap64_in (by unfold inR; omega)]
  have h6 := t32_shl (iv (bw b)) n
  rw [t32_iv] at h6
  rw [← h6, iv_t32, Int.emod_eq_of_lt h5 h4]
end Go.Proofs.SL
/- from PH2.lean -/
namespace Go.Proofs.SL
open Go
def kW (j : Nat) : Wd := t32 (gA0.getD j 0)
theorem gA0_arr : gA0 = arr 64 kW := by kernel_rfl
def sg0 (a : Wd) : Wd := ror a 7 ^^^ ror a 18 ^^^ a >>> 3
def sg1 (b : Wd) : Wd := ror b 17 ^^^ ror b 19 ^^^ b >>> 10
def sch1 (s : ByteArray) (i : Nat) (f : Nat → Wd) : Nat → Wd := upd f i (wrd s (4 * i))
def sch2 (i : Nat) (f : Nat → Wd) : Nat → Wd := upd f (i + 16) (f i + sg0 (f (i + 1)) + f (i + 9) + sg1 (f (i + 14)))
def bg1 (e : Wd) : Wd := ror e 6 ^^^ ror e 11 ^^^ ror e 25
def bg0 (e : Wd) : Wd := ror e 2 ^^^ ror e 13 ^^^ ror e 22
def chs (e f g : Wd) : Wd := (e &&& f) ^^^ ((BitVec.allOnes 32 ^^^ e) &&& g)
def mst (a b c : Wd) : Wd := (a &&& b) ^^^ (a &&& c) ^^^ (b &&& c)
def tmp (w : Nat → Wd) (i : Nat) (v : Nat → Wd) : Wd := v 7 + bg1 (v 4) + chs (v 4) (v 5) (v 6) + kW i + w i
def rnd (w : Nat → Wd) (i : Nat) (v : Nat → Wd) : Nat → Wd
  | 0 => tmp w i v + bg0 (v 0) + mst (v 0) (v 1) (v 2)
  | 1 => v 0
  | 2 => v 1
  | 3 => v 2
  | 4 => v 3 + tmp w i v
  | 5 => v 4
  | 6 => v 5
  | _ => v 6
def wAll (s : ByteArray) : Nat → Wd := it sch2 48 (it (sch1 s) 16 fun _ => 0)
def shaB (h : Nat → Wd) (s : ByteArray) : Nat → Wd := fun j => h j + it (rnd (wAll s)) 64 h j
theorem arr_zero (n : Nat) : List.replicate n (0 : Int) = arr n fun _ => 0 := by
  unfold arr
  apply List.ext_getElem?
  intro k
  by_cases h : k < n
  · rw [List.getElem?_replicate, if_pos h, List.getElem?_map, List.getElem?_range h]; rfl
  · rw [List.getElem?_replicate, if_neg h, List.getElem?_eq_none (by simp; omega)]
theorem arr8 (f : Nat → Wd) : arr 8 f = [iv (f 0), iv (f 1), iv (f 2), iv (f 3), iv (f 4), iv (f 5), iv (f 6), iv (f 7)] := rfl
section
variable {α β : Type}
theorem bnd {o : Option α} {a : α} {f : α → Option β} {r : Option β} (h : o = some a) (k : f a = r) : Option.bind o f = r := by rw [h]; exact k
theorem condT {b : Bool} {x y r : α} (h : b = true) (k : x = r) : cond b x y = r := by rw [h]; exact k
theorem condF {b : Bool} {x y r : α} (h : b = false) (k : y = r) : cond b x y = r := by rw [h]; exact k
end
theorem i8 (f : Nat → Wd) (j : Nat) (h : j < 8) {i : Int} (hi : i = (j : Int)) : idx (arr 8 f) i = some (iv (f j)) := by subst hi; exact arr_idx f h
theorem i3 : (3 : Int).toNat = 3 := rfl
theorem i8' : (8 : Int).toNat = 8 := rfl
theorem i10 : (10 : Int).toNat = 10 := rfl
theorem i16 : (16 : Int).toNat = 16 := rfl
theorem i24 : (24 : Int).toNat = 24 := rfl
end Go.Proofs.SL
/- from PH3.lean -/
namespace Go.Proofs.SL
open Go
theorem sidx_lit {s : ByteArray} (i : Nat) {n : Int} (hn : n = (i : Int)) (h : i < s.size) : sidx s n = some ((byt s i).toNat : Int) := by subst hn; exact sidx_byt h
theorem rnd_0 (w v : Nat → Wd) (i : Nat) : rnd w i v 0 = v 7 + (ror (v 4) 6 ^^^ ror (v 4) 11 ^^^ ror (v 4) 25) + ((v 4 &&& v 5) ^^^ ((BitVec.allOnes 32 ^^^ v 4) &&& v 6)) + kW i + w i + (ror (v 0) 2 ^^^ ror (v 0) 13 ^^^ ror (v 0) 22) + ((v 0 &&& v 1) ^^^ (v 0 &&& v 2) ^^^ (v 1 &&& v 2)) := rfl
theorem rnd_4 (w v : Nat → Wd) (i : Nat) : rnd w i v 4 = v 3 + (v 7 + (ror (v 4) 6 ^^^ ror (v 4) 11 ^^^ ror (v 4) 25) + ((v 4 &&& v 5) ^^^ ((BitVec.allOnes 32 ^^^ v 4) &&& v 6)) + kW i + w i) := rfl
theorem rnd_1 (w v : Nat → Wd) (i : Nat) : rnd w i v 1 = v 0 := rfl
theorem rnd_2 (w v : Nat → Wd) (i : Nat) : rnd w i v 2 = v 1 := rfl
theorem rnd_3 (w v : Nat → Wd) (i : Nat) : rnd w i v 3 = v 2 := rfl
theorem rnd_5 (w v : Nat → Wd) (i : Nat) : rnd w i v 5 = v 4 := rfl
theorem rnd_6 (w v : Nat → Wd) (i : Nat) : rnd w i v 6 = v 5 := rfl
theorem rnd_7 (w v : Nat → Wd) (i : Nat) : rnd w i v 7 = v 6 := rfl
end Go.Proofs.SL
/- from PH4.lean -/
namespace Go.Proofs.SL
open Go
noncomputable def s_lb1 {α : Type} (a1 : ByteArray) (s3 : (List Int) × Int) (kk : Option α) : Option (((List Int) × Int) ⊕ α) :=
  cond (decide (s3.2 < 16)) (Option.bind (sidx a1 (IntKind.wrap .i64 (4 * s3.2))) (fun y5 => Option.bind (sidx a1 (IntKind.wrap .i64 (IntKind.wrap .i64 (4 * s3.2) + 1))) (fun y6 => Option.bind (sidx a1 (IntKind.wrap .i64 (IntKind.wrap .i64 (4 * s3.2) + 2))) (fun y7 => Option.bind (sidx a1 (IntKind.wrap .i64 (IntKind.wrap .i64 (4 * s3.2) + 3))) (fun y8 => Option.bind (idx s3.1 s3.2) (fun y9 => Option.bind (some (s3.1.set (s3.2.toNat) (bits .or .i64 (bits .or .i64 (bits .or .i64 (IntKind.wrap .i64 (IntKind.wrap .i64 y5 * 2 ^ (24 : Int).toNat)) (IntKind.wrap .i64 (IntKind.wrap .i64 y6 * 2 ^ (16 : Int).toNat))) (IntKind.wrap .i64 (IntKind.wrap .i64 y7 * 2 ^ (8 : Int).toNat))) (IntKind.wrap .i64 y8)))) (fun y10 => some (.inl ((y10, IntKind.wrap .i64 (s3.2 + 1))))))))))) (Option.map .inr kk)
noncomputable def s_lb2 {α : Type}  (s13 : (List Int) × Int) (kk : Option α) : Option (((List Int) × Int) ⊕ α) :=
  cond (decide (s13.2 < 64)) (Option.bind (idx s13.1 (IntKind.wrap .i64 (s13.2 - 15))) (fun y15 => Option.bind (s_l3Right y15 7) (fun y16 => Option.bind (idx s13.1 (IntKind.wrap .i64 (s13.2 - 15))) (fun y17 => Option.bind (s_l3Right y17 18) (fun y18 => Option.bind (idx s13.1 (IntKind.wrap .i64 (s13.2 - 15))) (fun y19 => Option.bind (idx s13.1 (IntKind.wrap .i64 (s13.2 - 2))) (fun y20 => Option.bind (s_l3Right y20 17) (fun y21 => Option.bind (idx s13.1 (IntKind.wrap .i64 (s13.2 - 2))) (fun y22 => Option.bind (s_l3Right y22 19) (fun y23 => Option.bind (idx s13.1 (IntKind.wrap .i64 (s13.2 - 2))) (fun y24 => Option.bind (idx s13.1 (IntKind.wrap .i64 (s13.2 - 16))) (fun y25 => Option.bind (idx s13.1 (IntKind.wrap .i64 (s13.2 - 7))) (fun y26 => Option.bind (s_l3Word (IntKind.wrap .i64 (IntKind.wrap .i64 (IntKind.wrap .i64 (y25 + bits .xor .i64 (bits .xor .i64 y16 y18) (y19 / 2 ^ (3 : Int).toNat)) + y26) + bits .xor .i64 (bits .xor .i64 y21 y23) (y24 / 2 ^ (10 : Int).toNat)))) (fun y27 => Option.bind (idx s13.1 s13.2) (fun y28 => Option.bind (some (s13.1.set (s13.2.toNat) y27)) (fun y29 => some (.inl ((y29, IntKind.wrap .i64 (s13.2 + 1)))))))))))))))))))) (Option.map .inr kk)
noncomputable def s_lb3 {α : Type} (a2 : List Int) (s13 : (List Int) × Int) (s36 : (List Int) × Int) (kk : Option α) : Option (((List Int) × Int) ⊕ α) :=
  cond (decide (s36.2 < 64)) (Option.bind (idx s36.1 4) (fun y38 => Option.bind (idx s36.1 0) (fun y39 => Option.bind (idx s36.1 7) (fun y40 => Option.bind (s_l3Right y38 6) (fun y41 => Option.bind (s_l3Right y38 11) (fun y42 => Option.bind (s_l3Right y38 25) (fun y43 => Option.bind (idx s36.1 5) (fun y44 => Option.bind (s_l3Word (bits .xor .i64 (if IntKind.signed .i64 then -1 else IntKind.max .i64) y38)) (fun y45 => Option.bind (idx s36.1 6) (fun y46 => Option.bind (idx a2 s36.2) (fun y47 => Option.bind (idx s13.1 s36.2) (fun y48 => Option.bind (s_l3Right y39 2) (fun y49 => Option.bind (s_l3Right y39 13) (fun y50 => Option.bind (s_l3Right y39 22) (fun y51 => Option.bind (idx s36.1 1) (fun y52 => Option.bind (idx s36.1 2) (fun y53 => Option.bind (idx s36.1 1) (fun y54 => Option.bind (idx s36.1 2) (fun y55 => Option.bind (s_l3Word (IntKind.wrap .i64 (IntKind.wrap .i64 (IntKind.wrap .i64 (IntKind.wrap .i64 (IntKind.wrap .i64 (y40 + bits .xor .i64 (bits .xor .i64 y41 y42) y43) + bits .xor .i64 (bits .and .i64 y38 y44) (bits .and .i64 y45 y46)) + y47) + y48) + IntKind.wrap .i64 (bits .xor .i64 (bits .xor .i64 y49 y50) y51 + bits .xor .i64 (bits .xor .i64 (bits .and .i64 y39 y52) (bits .and .i64 y39 y53)) (bits .and .i64 y54 y55))))) (fun y56 => Option.bind (idx s36.1 0) (fun y57 => Option.bind (idx s36.1 1) (fun y58 => Option.bind (idx s36.1 2) (fun y59 => Option.bind (idx s36.1 3) (fun y60 => Option.bind (s_l3Word (IntKind.wrap .i64 (y60 + IntKind.wrap .i64 (IntKind.wrap .i64 (IntKind.wrap .i64 (IntKind.wrap .i64 (y40 + bits .xor .i64 (bits .xor .i64 y41 y42) y43) + bits .xor .i64 (bits .and .i64 y38 y44) (bits .and .i64 y45 y46)) + y47) + y48)))) (fun y61 => Option.bind (idx s36.1 4) (fun y62 => Option.bind (idx s36.1 5) (fun y63 => Option.bind (idx s36.1 6) (fun y64 => Option.bind (some ([y56, y57, y58, y59, y61, y62, y63, y64] : List Int)) (fun y65 => some (.inl ((y65, IntKind.wrap .i64 (s36.2 + 1))))))))))))))))))))))))))))))))) (Option.map .inr kk)
noncomputable def s_lb4 {α : Type} (a0 : List Int) (s36 : (List Int) × Int) (s70 : (List Int) × Int) (kk : Option α) : Option (((List Int) × Int) ⊕ α) :=
  cond (decide (s70.2 < 8)) (Option.bind (idx a0 s70.2) (fun y72 => Option.bind (idx s36.1 s70.2) (fun y73 => Option.bind (s_l3Word (IntKind.wrap .i64 (y72 + y73))) (fun y74 => Option.bind (appP s70.1 [y74]) (fun y76 => some (.inl ((y76, IntKind.wrap .i64 (s70.2 + 1))))))))) (Option.map .inr kk)
theorem s_l3Block_open (a0 : List Int) (a1 : ByteArray) (a2 : List Int) : s_l3Block a0 a1 a2 =
  Option.bind (mkP 8 64 (0 : Int)) (fun y1 => whileP (fun s3 : (List Int) × Int => s_lb1 a1 s3 (whileP (fun s13 : (List Int) × Int => s_lb2  s13 (Option.bind (some ([] : List Int)) (fun y33 => Option.bind (appP y33 a0) (fun y35 => whileP (fun s36 : (List Int) × Int => s_lb3 a2 s13 s36 (Option.bind (some ([] : List Int)) (fun y69 => whileP (fun s70 : (List Int) × Int => s_lb4 a0 s36 s70 (some s70.1)) (y69, 0)))) (y35, 0))))) (s3.1, 16))) (y1, 0)) := rfl
theorem l3Word_eq (n : Int) : s_l3Word n = some (iv (t32 n)) := by
  unfold s_l3Word
  show some (IntKind.wrap .i64 (((BitVec.ofInt 64 n) &&& (BitVec.ofInt 64 4294967295)).toNat : Int)) = _
  have h : ((BitVec.ofInt 64 n) &&& (BitVec.ofInt 64 4294967295)).toNat = (t32 n).toNat := by
    rw [← t32_64, BitVec.toNat_setWidth, BitVec.toNat_and, show (BitVec.ofInt 64 4294967295).toNat = 2 ^ 32 - 1 by decide, Nat.and_two_pow_sub_one_eq_mod]
  rw [h]
  exact congrArg some (wrap64_iv (t32 n))
theorem l3Right_eq (a : Wd) (n : Nat) (h0 : 0 < n) (hn : n < 32) {c : Int} (hc : c = (n : Int)) : s_l3Right (iv a) c = some (iv (ror a n)) := by
  subst hc
  unfold s_l3Right
  refine bnd (a := iv (a >>> n)) ?_ (bnd (a := IntKind.wrap .i64 (iv a * 2 ^ (32 - n))) ?_ (bnd (l3Word_eq _) ?_))
  · unfold shrP
    rw [if_pos ⟨by omega, by show (n : Int) ≤ 64; omega⟩, show (n : Int).toNat = n by omega, shr_iv]
  · unfold shlP
    rw [IntKind.wrap_u64, show (32 - (n : Int)) % 18446744073709551616 = ((32 - n : Nat) : Int) by omega, if_pos ⟨by omega, by show ((32 - n : Nat) : Int) ≤ 64; omega⟩, show ((32 - n : Nat) : Int).toNat = 32 - n by omega]
  · rw [t32_or, t32_wrap, t32_shl, t32_iv, t32_iv]; rfl
theorem s_l3Keys_eq : s_l3Keys = some (arr 64 kW) := by rw [← gA0_arr]; rfl
theorem rnd_0s (w v : Nat → Wd) (i : Nat) : rnd w i v 0 = v 7 + (ror (v 4) 6 ^^^ ror (v 4) 11 ^^^ ror (v 4) 25) + ((v 4 &&& v 5) ^^^ ((BitVec.allOnes 32 ^^^ v 4) &&& v 6)) + kW i + w i + ((ror (v 0) 2 ^^^ ror (v 0) 13 ^^^ ror (v 0) 22) + ((v 0 &&& v 1) ^^^ (v 0 &&& v 2) ^^^ (v 1 &&& v 2))) := by rw [rnd_0, BitVec.add_assoc]
theorem s_lb1_step {α : Type} {s : ByteArray} (hs : s.size = 64) {i : Nat} (hi : i < 16) (f : Nat → Wd) (k : Option α) : s_lb1 s (arr 64 f, (i : Int)) k = some (.inl (arr 64 (sch1 s i f), ((i + 1 : Nat) : Int))) := by
  unfold s_lb1
  refine condT (decide_eq_true (by show (i : Int) < 16; omega)) ?_
  have h0 : IntKind.wrap .i64 (4 * (i : Int)) = ((4 * i : Nat) : Int) := by rw [wrap64_in (by unfold inR; omega)]; omega
  have h1 : ∀ d : Nat, d < 4 → IntKind.wrap .i64 (((4 * i : Nat) : Int) + (d : Int)) = ((4 * i + d : Nat) : Int) := fun d hd => by rw [wrap64_in (by unfold inR; omega)]; omega
  refine bnd (sidx_lit (4 * i) h0 (by omega)) ?_
  refine bnd (sidx_lit (4 * i + 1) ((congrArg (fun q => IntKind.wrap .i64 (q + 1)) h0).trans (h1 1 (by omega))) (by omega)) ?_
  refine bnd (sidx_lit (4 * i + 2) ((congrArg (fun q => IntKind.wrap .i64 (q + 2)) h0).trans (h1 2 (by omega))) (by omega)) ?_
  refine bnd (sidx_lit (4 * i + 3) ((congrArg (fun q => IntKind.wrap .i64 (q + 3)) h0).trans (h1 3 (by omega))) (by omega)) ?_
  refine bnd (arr_idx f (by omega)) ?_
  refine bnd (a := arr 64 (sch1 s i f)) ?_ ?_
  · simp only [bw_iv, wrap64_iv, i24, i16, i8']
    rw [shl64_byte _ 24 (by omega), shl64_byte _ 16 (by omega), shl64_byte _ 8 (by omega)]
    simp only [or64_iv]
    rw [show ((i : Int)).toNat = i by omega, arr_set]
    rfl
  show some (Sum.inl (_, IntKind.wrap .i64 ((i : Int) + 1))) = _
  rw [wrap_succ (by omega)]
theorem s_lb1_end {α : Type} (s : ByteArray) (l : List Int) (k : Option α) : s_lb1 s (l, ((16 : Nat) : Int)) k = k.map .inr := by
  unfold s_lb1
  exact condF (decide_eq_false (by show ¬ ((16 : Nat) : Int) < 16; omega)) rfl
theorem s_lb2_step {α : Type} {i : Nat} (hi : i < 48) (f : Nat → Wd) (k : Option α) : s_lb2 (arr 64 f, ((i + 16 : Nat) : Int)) k = some (.inl (arr 64 (sch2 i f), ((i + 1 + 16 : Nat) : Int))) := by
  unfold s_lb2
  refine condT (decide_eq_true (by show ((i + 16 : Nat) : Int) < 64; omega)) ?_
  refine bnd (a := iv (f (i + 1))) (by show idx (arr 64 f) (IntKind.wrap .i64 (((i + 16 : Nat) : Int) - 15)) = _; rw [wrap64_in (by unfold inR; omega), show ((i + 16 : Nat) : Int) - 15 = ((i + 1 : Nat) : Int) by omega]; exact arr_idx f (by omega)) ?_
  refine bnd (l3Right_eq _ 7 (by omega) (by omega) rfl) ?_
  refine bnd (a := iv (f (i + 1))) (by show idx (arr 64 f) (IntKind.wrap .i64 (((i + 16 : Nat) : Int) - 15)) = _; rw [wrap64_in (by unfold inR; omega), show ((i + 16 : Nat) : Int) - 15 = ((i + 1 : Nat) : Int) by omega]; exact arr_idx f (by omega)) ?_
  refine bnd (l3Right_eq _ 18 (by omega) (by omega) rfl) ?_
  refine bnd (a := iv (f (i + 1))) (by show idx (arr 64 f) (IntKind.wrap .i64 (((i + 16 : Nat) : Int) - 15)) = _; rw [wrap64_in (by unfold inR; omega), show ((i + 16 : Nat) : Int) - 15 = ((i + 1 : Nat) : Int) by omega]; exact arr_idx f (by omega)) ?_
  refine bnd (a := iv (f (i + 14))) (by show idx (arr 64 f) (IntKind.wrap .i64 (((i + 16 : Nat) : Int) - 2)) = _; rw [wrap64_in (by unfold inR; omega), show ((i + 16 : Nat) : Int) - 2 = ((i + 14 : Nat) : Int) by omega]; exact arr_idx f (by omega)) ?_
  refine bnd (l3Right_eq _ 17 (by omega) (by omega) rfl) ?_
  refine bnd (a := iv (f (i + 14))) (by show idx (arr 64 f) (IntKind.wrap .i64 (((i + 16 : Nat) : Int) - 2)) = _; rw [wrap64_in (by unfold inR; omega), show ((i + 16 : Nat) : Int) - 2 = ((i + 14 : Nat) : Int) by omega]; exact arr_idx f (by omega)) ?_
  refine bnd (l3Right_eq _ 19 (by omega) (by omega) rfl) ?_
  refine bnd (a := iv (f (i + 14))) (by show idx (arr 64 f) (IntKind.wrap .i64 (((i + 16 : Nat) : Int) - 2)) = _; rw [wrap64_in (by unfold inR; omega), show ((i + 16 : Nat) : Int) - 2 = ((i + 14 : Nat) : Int) by omega]; exact arr_idx f (by omega)) ?_
  refine bnd (a := iv (f (i + 0))) (by show idx (arr 64 f) (IntKind.wrap .i64 (((i + 16 : Nat) : Int) - 16)) = _; rw [wrap64_in (by unfold inR; omega), show ((i + 16 : Nat) : Int) - 16 = ((i + 0 : Nat) : Int) by omega]; exact arr_idx f (by omega)) ?_
  refine bnd (a := iv (f (i + 9))) (by show idx (arr 64 f) (IntKind.wrap .i64 (((i + 16 : Nat) : Int) - 7)) = _; rw [wrap64_in (by unfold inR; omega), show ((i + 16 : Nat) : Int) - 7 = ((i + 9 : Nat) : Int) by omega]; exact arr_idx f (by omega)) ?_
  refine bnd (l3Word_eq _) ?_
  refine bnd (arr_idx f (by omega)) ?_
  simp only [i3, i10, shr_iv, t32_wrap, t32_add, t32_xor, t32_iv]
  refine bnd (a := arr 64 (sch2 i f)) (by rw [show (((i + 16 : Nat) : Int)).toNat = i + 16 by omega, arr_set]; rfl) ?_
  show some (Sum.inl (_, IntKind.wrap .i64 (((i + 16 : Nat) : Int) + 1))) = _
  rw [wrap_succ (by omega)]
theorem s_lb2_end {α : Type} (l : List Int) (k : Option α) : s_lb2 (l, ((48 + 16 : Nat) : Int)) k = k.map .inr := by
  unfold s_lb2
  exact condF (decide_eq_false (by show ¬ ((48 + 16 : Nat) : Int) < 64; omega)) rfl
theorem s_lb3_step {α : Type} (w v : Nat → Wd) {i : Nat} (hi : i < 64) (c : Int) (k : Option α) : s_lb3 (arr 64 kW) (arr 64 w, c) (arr 8 v, (i : Int)) k = some (.inl (arr 8 (rnd w i v), ((i + 1 : Nat) : Int))) := by
  unfold s_lb3
  refine condT (decide_eq_true (by show (i : Int) < 64; omega)) ?_
  refine bnd (i8 v 4 (by omega) rfl) ?_
  refine bnd (i8 v 0 (by omega) rfl) ?_
  refine bnd (i8 v 7 (by omega) rfl) ?_
  refine bnd (l3Right_eq _ 6 (by omega) (by omega) rfl) ?_
  refine bnd (l3Right_eq _ 11 (by omega) (by omega) rfl) ?_
  refine bnd (l3Right_eq _ 25 (by omega) (by omega) rfl) ?_
  refine bnd (i8 v 5 (by omega) rfl) ?_
  refine bnd (l3Word_eq _) ?_
  refine bnd (i8 v 6 (by omega) rfl) ?_
  refine bnd (arr_idx kW hi) ?_
  refine bnd (arr_idx w hi) ?_
  refine bnd (l3Right_eq _ 2 (by omega) (by omega) rfl) ?_
  refine bnd (l3Right_eq _ 13 (by omega) (by omega) rfl) ?_
  refine bnd (l3Right_eq _ 22 (by omega) (by omega) rfl) ?_
  refine bnd (i8 v 1 (by omega) rfl) ?_
  refine bnd (i8 v 2 (by omega) rfl) ?_
  refine bnd (i8 v 1 (by omega) rfl) ?_
  refine bnd (i8 v 2 (by omega) rfl) ?_
  refine bnd (l3Word_eq _) ?_
  refine bnd (i8 v 0 (by omega) rfl) ?_
  refine bnd (i8 v 1 (by omega) rfl) ?_
  refine bnd (i8 v 2 (by omega) rfl) ?_
  refine bnd (i8 v 3 (by omega) rfl) ?_
  refine bnd (l3Word_eq _) ?_
  refine bnd (i8 v 4 (by omega) rfl) ?_
  refine bnd (i8 v 5 (by omega) rfl) ?_
  refine bnd (i8 v 6 (by omega) rfl) ?_
  refine bnd rfl ?_
  show some (Sum.inl (_, IntKind.wrap .i64 ((i : Int) + 1))) = _
  rw [wrap_succ (by omega), arr8, rnd_0s, rnd_1, rnd_2, rnd_3, rnd_4, rnd_5, rnd_6, rnd_7]
  simp only [t32_wrap, t32_add, t32_xor, t32_and, t32_iv, oM64]
theorem s_lb3_end {α : Type} (q : List Int) (x : List Int × Int) (l : List Int) (k : Option α) : s_lb3 q x (l, ((64 : Nat) : Int)) k = k.map .inr := by
  unfold s_lb3
  exact condF (decide_eq_false (by show ¬ ((64 : Nat) : Int) < 64; omega)) rfl
theorem arr_succ (n : Nat) (f : Nat → Wd) : arr (n + 1) f = arr n f ++ [iv (f n)] := by unfold arr; rw [List.range_succ, List.map_append]; rfl
theorem s_lb4_step {α : Type} (v h : Nat → Wd) {i : Nat} (hi : i < 8) (c : Int) (k : Option α) : s_lb4 (arr 8 h) (arr 8 v, c) (arr i (fun j => h j + v j), (i : Int)) k = some (.inl (arr (i + 1) (fun j => h j + v j), ((i + 1 : Nat) : Int))) := by
  unfold s_lb4
  refine condT (decide_eq_true (by show (i : Int) < 8; omega)) ?_
  refine bnd (arr_idx h hi) ?_
  refine bnd (arr_idx v hi) ?_
  refine bnd (l3Word_eq _) ?_
  simp only [t32_wrap, t32_add, t32_iv]
  refine bnd (appP_ok (by show (arr i _).length + 1 ≤ _; rw [arr_len]; omega)) ?_
  show some (Sum.inl (_, IntKind.wrap .i64 ((i : Int) + 1))) = _
  rw [wrap_succ (by omega), arr_succ]
theorem s_lb4_end {α : Type} (q : List Int) (x : List Int × Int) (l : List Int) (k : Option α) : s_lb4 q x (l, ((8 : Nat) : Int)) k = k.map .inr := by
  unfold s_lb4
  exact condF (decide_eq_false (by show ¬ ((8 : Nat) : Int) < 8; omega)) rfl
theorem s_l3Block_eq {s : ByteArray} (hs : s.size = 64) (h : Nat → Wd) : s_l3Block (arr 8 h) s (arr 64 kW) = some (arr 8 (shaB h s)) := by
  rw [s_l3Block_open]
  refine bnd (a := arr 64 fun _ => 0) (by unfold mkP; rw [if_pos (by decide), ← arr_zero]; rfl) ?_
  refine whileP_n (fun (i : Nat) f => (arr 64 f, (i : Int))) (sch1 s) (n := 16) (t0 := fun _ => 0) rfl (fun i t hi => s_lb1_step hs hi t _) ?_
  refine (s_lb1_end _ _ _).trans (congrArg (Option.map Sum.inr) ?_)
  refine whileP_n (fun (i : Nat) f => (arr 64 f, ((i + 16 : Nat) : Int))) sch2 (n := 48) (t0 := it (sch1 s) 16 fun _ => 0) rfl (fun i t hi => s_lb2_step hi t _) ?_
  refine (s_lb2_end _ _).trans (congrArg (Option.map Sum.inr) ?_)
  refine bnd rfl (bnd (a := arr 8 h) (by rw [appP_ok (by rw [arr_len]; decide)]; rfl) ?_)
  refine whileP_n (fun (i : Nat) f => (arr 8 f, (i : Int))) (rnd (wAll s)) (n := 64) (t0 := h) rfl (fun i t hi => s_lb3_step _ t hi _ _) ?_
  refine (s_lb3_end _ _ _ _).trans (congrArg (Option.map Sum.inr) ?_)
  refine bnd rfl ?_
  refine whileP_n (fun (i : Nat) (_ : Unit) => (arr i (fun j => h j + it (rnd (wAll s)) 64 h j), (i : Int))) (fun _ _ => ()) (n := 8) (t0 := ()) rfl (fun i t hi => s_lb4_step _ h hi _ _) ?_
  refine (s_lb4_end _ _ _ _).trans (congrArg (Option.map Sum.inr) ?_)
  rfl
end Go.Proofs.SL
/- from PH5.lean -/
namespace Go.Proofs.SL
open Go
def be (k n : Nat) : List UInt8 := (List.range k).map fun j => UInt8.ofNat (n / 256 ^ (k - 1 - j))
theorem be_len (k n : Nat) : (be k n).length = k := by unfold be; simp
theorem and255 {m : Nat} (h : m < 9223372036854775808) : bits .and .i64 (m : Int) 255 = ((m % 256 : Nat) : Int) := by
  show IntKind.wrap .i64 (((BitVec.ofInt 64 (m : Int)) &&& (BitVec.ofInt 64 255)).toNat : Int) = _
  rw [BitVec.toNat_and, show (BitVec.ofInt 64 255).toNat = 2 ^ 8 - 1 by decide, Nat.and_two_pow_sub_one_eq_mod, BitVec.toNat_ofInt]
  rw [wrap64_in (by unfold inR; omega)]
  omega
theorem u8_mod (m : Nat) : u8P (IntKind.wrap .u8 ((m % 256 : Nat) : Int)) = some (UInt8.ofNat m) := by
  rw [IntKind.wrap_u8, show ((m % 256 : Nat) : Int) % 256 = ((m % 256 : Nat) : Int) by omega]
  unfold u8P
  rw [if_pos (by omega), show (((m % 256 : Nat) : Int)).toNat = m % 256 by omega]
  congr 1
  apply UInt8.toNat_inj.1
  simp
theorem u8_and {m : Nat} (h : m < 9223372036854775808) : u8P (IntKind.wrap .u8 (bits .and .i64 (m : Int) 255)) = some (UInt8.ofNat m) := by rw [and255 h, u8_mod]
end Go.Proofs.SL
/- from PH6.lean -/
namespace Go.Proofs.SL
open Go
noncomputable def s_sh1 {α : Type} (a0 : ByteArray) (s3 : (List UInt8)) (kk : Option α) : Option (((List UInt8)) ⊕ α) :=
  cond (!decide ((IntKind.wrap .i64 ((a0.size : Int) + (s3.length : Int))).tmod 64 = 56)) (Option.bind (appP s3 [(0 : UInt8)]) (fun y6 => some (.inl (y6)))) (Option.map .inr kk)
noncomputable def s_sh2 {α : Type} (a0 : ByteArray) (s8 : (List UInt8) × Int) (kk : Option α) : Option (((List UInt8) × Int) ⊕ α) :=
  cond (decide (s8.2 < 8)) (Option.bind (shrP .i64 (IntKind.wrap .i64 ((a0.size : Int) * 8)) (IntKind.wrap .u64 (IntKind.wrap .i64 (56 - IntKind.wrap .i64 (8 * s8.2))))) (fun y10 => Option.bind (u8P (IntKind.wrap .u8 (bits .and .i64 y10 255))) (fun y11 => Option.bind (appP s8.1 [y11]) (fun y13 => some (.inl ((y13, IntKind.wrap .i64 (s8.2 + 1)))))))) (Option.map .inr kk)
noncomputable def s_sh3 {α : Type} (y15 : ByteArray) (y18 : List Int) (s19 : (List Int) × Int) (kk : Option α) : Option (((List Int) × Int) ⊕ α) :=
  cond (decide (s19.2 < (y15.size : Int))) (Option.bind (sslP y15 s19.2 (IntKind.wrap .i64 (s19.2 + 64))) (fun y21 => Option.bind (s_l3Block s19.1 y21 y18) (fun y22 => some (.inl ((y22, IntKind.wrap .i64 (s19.2 + 64))))))) (Option.map .inr kk)
noncomputable def s_sh4 {α : Type} (s19 : (List Int) × Int) (s26 : (List UInt8) × Int) (kk : Option α) : Option (((List UInt8) × Int) ⊕ α) :=
  cond (decide (s26.2 < 8)) (Option.bind (idx s19.1 s26.2) (fun y28 => Option.bind (idx s19.1 s26.2) (fun y29 => Option.bind (idx s19.1 s26.2) (fun y30 => Option.bind (idx s19.1 s26.2) (fun y31 => Option.bind (u8P (IntKind.wrap .u8 (y28 / 2 ^ (24 : Int).toNat))) (fun y32 => Option.bind (u8P (IntKind.wrap .u8 (bits .and .i64 (y29 / 2 ^ (16 : Int).toNat) 255))) (fun y33 => Option.bind (u8P (IntKind.wrap .u8 (bits .and .i64 (y30 / 2 ^ (8 : Int).toNat) 255))) (fun y34 => Option.bind (u8P (IntKind.wrap .u8 (bits .and .i64 y31 255))) (fun y35 => Option.bind (some ([y32, y33, y34, y35] : List UInt8)) (fun y36 => Option.bind (appP s26.1 y36) (fun y39 => some (.inl ((y39, IntKind.wrap .i64 (s26.2 + 1))))))))))))))) (Option.map .inr kk)
theorem s_Sha_open (a0 : ByteArray) : s_Sha a0 =
  Option.bind (some ([(128 : UInt8)] : List UInt8)) (fun y1 => whileP (fun s3 : (List UInt8) => s_sh1 a0 s3 (whileP (fun s8 : (List UInt8) × Int => s_sh2 a0 s8 (Option.bind (catP a0 (strP s8.1)) (fun y15 => Option.bind (some ([1779033703, 3144134277, 1013904242, 2773480762, 1359893119, 2600822924, 528734635, 1541459225] : List Int)) (fun y16 => Option.bind (s_l3Keys ) (fun y18 => whileP (fun s19 : (List Int) × Int => s_sh3 y15 y18 s19 (Option.bind (some ([] : List UInt8)) (fun y25 => whileP (fun s26 : (List UInt8) × Int => s_sh4 s19 s26 (some (strP s26.1))) (y25, 0)))) (y16, 0)))))) (s3, 0))) y1) := rfl
theorem strP_size (a : List UInt8) : (strP a).size = a.length := rfl
def h0l : List Int := [1779033703, 3144134277, 1013904242, 2773480762, 1359893119, 2600822924, 528734635, 1541459225]
def h0 (j : Nat) : Wd := t32 (h0l.getD j 0)
theorem h0_arr : h0l = arr 8 h0 := by kernel_rfl
def outN (f : Nat → Wd) (i : Nat) : List UInt8 := (List.range i).flatMap fun j => be 4 (f j).toNat
theorem outN_succ (f : Nat → Wd) (i : Nat) : outN f (i + 1) = outN f i ++ be 4 (f i).toNat := by unfold outN; rw [List.range_succ, List.flatMap_append]; simp
theorem outN_len (f : Nat → Wd) : ∀ i, (outN f i).length = 4 * i
  | 0 => rfl
  | i + 1 => by rw [outN_succ, List.length_append, outN_len f i, be_len]; omega
def padL (n : Nat) : List UInt8 := 128 :: List.replicate (55 - n) 0 ++ be 8 (8 * n)
def pad (s : ByteArray) : ByteArray := s ++ strP (padL s.size)
theorem pad_size {s : ByteArray} (h : s.size ≤ 55) : (pad s).size = 64 := by
  unfold pad padL
  rw [ByteArray.size_append, strP_size, List.length_append, List.length_cons, List.length_replicate, be_len]; omega
def sha (s : ByteArray) : ByteArray := strP (outN (shaB h0 (pad s)) 8)
theorem sha_size (s : ByteArray) : (sha s).size = 32 := by unfold sha; rw [strP_size, outN_len]
theorem ssl_all {t : ByteArray} (h : t.size = 64) : sslP t 0 64 = some t := by
  unfold sslP
  rw [if_pos (by omega)]
  congr 1
  apply ByteArray.ext
  rw [ByteArray.data_extract]
  show t.data.extract 0 64 = t.data
  have : t.data.size = 64 := h
  rw [← this, Array.extract_size]
/- the reference -/
theorem s_sh1_step {α : Type} {s : ByteArray} {i : Nat} (hs : s.size ≤ 55) (hi : i < 55 - s.size) (kk : Option α) : s_sh1 s (128 :: List.replicate i 0) kk = some (.inl (128 :: List.replicate (i + 1) 0)) := by
  unfold s_sh1
  refine condT ?_ ?_
  · rw [wrap64_in (by unfold inR; simp; omega), Int.tmod_eq_emod_of_nonneg (by omega), decide_eq_false (by simp; omega)]; rfl
  · refine bnd (appP_ok (by simp; omega)) ?_
    show some (Sum.inl (128 :: List.replicate i 0 ++ [0])) = _
    rw [List.cons_append, ← List.replicate_succ']
theorem s_sh1_end {α : Type} {s : ByteArray} (hs : s.size ≤ 55) (kk : Option α) : s_sh1 s (128 :: List.replicate (55 - s.size) 0) kk = kk.map .inr := by
  unfold s_sh1
  refine condF ?_ rfl
  rw [wrap64_in (by unfold inR; simp; omega), Int.tmod_eq_emod_of_nonneg (by omega), decide_eq_true (by simp; omega)]; rfl
def be8 (n i : Nat) : List UInt8 := (List.range i).map fun j => UInt8.ofNat (n / 256 ^ (8 - 1 - j))
theorem s_sh2_step {α : Type} {s : ByteArray} {i : Nat} (x : List UInt8) (hx : x.length ≤ 100) (hs : s.size ≤ 55) (hi : i < 8) (kk : Option α) : s_sh2 s (x ++ be8 (8 * s.size) i, (i : Int)) kk = some (.inl (x ++ be8 (8 * s.size) (i + 1), ((i + 1 : Nat) : Int))) := by
  unfold s_sh2
  refine condT (decide_eq_true (by show (i : Int) < 8; omega)) ?_
  refine bnd (a := ((8 * s.size / 256 ^ (7 - i) : Nat) : Int)) ?_ ?_
  · show shrP .i64 (IntKind.wrap .i64 ((s.size : Int) * 8)) (IntKind.wrap .u64 (IntKind.wrap .i64 (56 - IntKind.wrap .i64 (8 * (i : Int))))) = _
    rw [wrap64_in (n := (s.size : Int) * 8) (by unfold inR; omega), wrap64_in (n := 8 * (i : Int)) (by unfold inR; omega), wrap64_in (by unfold inR; omega), IntKind.wrap_u64, show (56 - 8 * (i : Int)) % 18446744073709551616 = ((8 * (7 - i) : Nat) : Int) by omega]
    unfold shrP
    rw [if_pos ⟨by omega, by show ((8 * (7 - i) : Nat) : Int) ≤ 64; omega⟩, show (((8 * (7 - i) : Nat) : Int)).toNat = 8 * (7 - i) by omega,
      show (s.size : Int) * 8 = ((8 * s.size : Nat) : Int) by omega, show (256 : Nat) ^ (7 - i) = 2 ^ (8 * (7 - i)) by rw [Nat.pow_mul]]
    simp
  refine bnd (u8_and (Nat.lt_of_le_of_lt (Nat.div_le_self _ _) (by omega))) ?_
  refine bnd (appP_ok (by simp [be8]; omega)) ?_
  show some (Sum.inl (_, IntKind.wrap .i64 ((i : Int) + 1))) = _
  rw [wrap_succ (by omega), List.append_assoc]
  unfold be8
  rw [List.range_succ, List.map_append]
  rfl
theorem s_sh2_end {α : Type} (s : ByteArray) (x : List UInt8) (kk : Option α) : s_sh2 s (x, ((8 : Nat) : Int)) kk = kk.map .inr := by
  unfold s_sh2
  exact condF (decide_eq_false (by show ¬ ((8 : Nat) : Int) < 8; omega)) rfl
theorem s_sh3_step {α : Type} {t : ByteArray} (ht : t.size = 64) (h : Nat → Wd) (kk : Option α) : s_sh3 t (arr 64 kW) (arr 8 h, 0) kk = some (.inl (arr 8 (shaB h t), 64)) := by
  unfold s_sh3
  refine condT (decide_eq_true (by show (0 : Int) < (t.size : Int); omega)) ?_
  refine bnd (ssl_all ht) ?_
  exact bnd (s_l3Block_eq ht h) rfl
theorem s_sh3_end {α : Type} {t : ByteArray} (ht : t.size = 64) (q : List Int) (l : List Int) (kk : Option α) : s_sh3 t q (l, 64) kk = kk.map .inr := by
  unfold s_sh3
  exact condF (decide_eq_false (by show ¬ (64 : Int) < (t.size : Int); omega)) rfl
theorem u8_24 (w : Wd) : u8P (IntKind.wrap .u8 (iv w / 2 ^ 24)) = some (UInt8.ofNat (w.toNat / 16777216)) := by
  have h := w.isLt
  rw [show iv w / 2 ^ 24 = ((w.toNat / 16777216 % 256 : Nat) : Int) by unfold iv; omega, u8_mod]
theorem be4 (n : Nat) : be 4 n = [UInt8.ofNat (n / 16777216), UInt8.ofNat (n / 65536), UInt8.ofNat (n / 256), UInt8.ofNat n] := by
  show [UInt8.ofNat (n / 256 ^ 3), UInt8.ofNat (n / 256 ^ 2), UInt8.ofNat (n / 256 ^ 1), UInt8.ofNat (n / 256 ^ 0)] = _
  rw [Nat.pow_zero, Nat.div_one]
theorem s_sh4_step {α : Type} (f : Nat → Wd) {i : Nat} (hi : i < 8) (c : Int) (kk : Option α) : s_sh4 (arr 8 f, c) (outN f i, (i : Int)) kk = some (.inl (outN f (i + 1), ((i + 1 : Nat) : Int))) := by
  have hw : ∀ d, (f i).toNat / d < 9223372036854775808 := fun d => Nat.lt_of_le_of_lt (Nat.div_le_self _ _) (by have := (f i).isLt; omega)
  unfold s_sh4
  refine condT (decide_eq_true (by show (i : Int) < 8; omega)) ?_
  refine bnd (arr_idx f hi) (bnd (arr_idx f hi) (bnd (arr_idx f hi) (bnd (arr_idx f hi) ?_)))
  refine bnd (u8_24 _) ?_
  refine bnd (a := UInt8.ofNat ((f i).toNat / 65536)) (by rw [show iv (f i) / 2 ^ (16 : Int).toNat = (((f i).toNat / 65536 : Nat) : Int) by unfold iv; rw [i16]; omega]; exact u8_and (hw _)) ?_
  refine bnd (a := UInt8.ofNat ((f i).toNat / 256)) (by rw [show iv (f i) / 2 ^ (8 : Int).toNat = (((f i).toNat / 256 : Nat) : Int) by unfold iv; rw [i8']; omega]; exact u8_and (hw _)) ?_
  refine bnd (a := UInt8.ofNat (f i).toNat) (by have := hw 1; rw [Nat.div_one] at this; exact u8_and this) ?_
  refine bnd rfl ?_
  refine bnd (appP_ok (by rw [outN_len]; show 4 * i + 4 ≤ _; omega)) ?_
  show some (Sum.inl (_, IntKind.wrap .i64 ((i : Int) + 1))) = _
  rw [wrap_succ (by omega), outN_succ, be4]
theorem s_sh4_end {α : Type} (q : List Int × Int) (l : List UInt8) (kk : Option α) : s_sh4 q (l, ((8 : Nat) : Int)) kk = kk.map .inr := by
  unfold s_sh4
  exact condF (decide_eq_false (by show ¬ ((8 : Nat) : Int) < 8; omega)) rfl
theorem s_Sha_eq {s : ByteArray} (hs : s.size ≤ 55) : s_Sha s = some (sha s) := by
  rw [s_Sha_open]
  refine bnd rfl ?_
  refine whileP_n (fun (i : Nat) (_ : Unit) => 128 :: List.replicate i 0) (fun _ _ => ()) (n := 55 - s.size) (t0 := ()) rfl (fun i t hi => s_sh1_step hs hi _) ?_
  refine (s_sh1_end hs _).trans (congrArg (Option.map Sum.inr) ?_)
  refine whileP_n (fun (i : Nat) (_ : Unit) => (128 :: List.replicate (55 - s.size) 0 ++ be8 (8 * s.size) i, (i : Int))) (fun _ _ => ()) (n := 8) (t0 := ()) ?_ (fun i t hi => s_sh2_step _ (by simp; omega) hs hi _) ?_
  · show _ = (128 :: List.replicate (55 - s.size) 0 ++ [], ((0 : Nat) : Int))
    rw [List.append_nil]; rfl
  refine (s_sh2_end _ _ _).trans (congrArg (Option.map Sum.inr) ?_)
  refine bnd (a := pad s) (by rw [catP_ok (by rw [strP_size]; simp [be8]; omega)]; rfl) ?_
  refine bnd rfl (bnd s_l3Keys_eq ?_)
  refine whileP_n (fun (i : Nat) (h : Nat → Wd) => (arr 8 h, ((64 * i : Nat) : Int))) (fun _ h => shaB h (pad s)) (n := 1) (t0 := h0) ?_ (fun i t hi => ?_) ?_
  · exact congrArg (fun q => (q, (0 : Int))) h0_arr
  · obtain rfl : i = 0 := by omega
    exact s_sh3_step (pad_size hs) t _
  refine (s_sh3_end (pad_size hs) _ _ _).trans (congrArg (Option.map Sum.inr) ?_)
  refine bnd rfl ?_
  refine whileP_n (fun (i : Nat) (_ : Unit) => (outN (shaB h0 (pad s)) i, (i : Int))) (fun _ _ => ()) (n := 8) (t0 := ()) rfl (fun i t hi => s_sh4_step _ hi _ _) ?_
  exact s_sh4_end _ _ _
def short (s : ByteArray) : ByteArray := (sha s).extract 0 8
theorem short_size (s : ByteArray) : (short s).size = 8 := by unfold short; rw [ByteArray.size_extract, sha_size]; rfl
theorem ssl_8 (s : ByteArray) : sslP (sha s) 0 8 = some (short s) := by
  unfold sslP; rw [if_pos (by rw [sha_size]; omega)]; rfl
theorem s_Short_eq {s : ByteArray} (hs : s.size ≤ 55) : s_Short s = some (short s) := by
  unfold s_Short; exact bnd (s_Sha_eq hs) (bnd (ssl_8 s) rfl)
end Go.Proofs.SL
/- from PMs.lean -/
namespace Go.Proofs.SL
open Go
end Go.Proofs.SL
/- from PRa.lean -/
namespace Go.Proofs.SL
open Go
theorem jbind_rule {σ α : Type} {o : Option (σ ⊕ α)} {k : σ → Option α} {Q : Option α → Prop} (P : σ → Prop) (h : ∃ s, o = some (.inl s) ∧ P s) (hk : ∀ s, P s → Q (k s)) : Q (jbind o k) := by
  obtain ⟨s, rfl, hs⟩ := h
  exact hk s hs
structure MB (m : D_Cmd) : Prop where
  k : inR m.1
  cl : inR m.2.1
  no : inR m.2.2.1
  s1 : m.2.2.2.1.size ≤ 9
  s2 : m.2.2.2.2.1.size ≤ 9
  s3 : m.2.2.2.2.2.1.size ≤ 9
  n : inR m.2.2.2.2.2.2.1
  len : m.2.2.2.2.2.2.2.length ≤ 5
  ch : ∀ x, x ∈ m.2.2.2.2.2.2.2 → x.size ≤ 9
theorem MB.ok {m : D_Cmd} (h : MB m) : Ok.ok m :=
  ⟨h.k, h.cl, h.no, by have := h.s1; show _ ≤ _; omega, by have := h.s2; show _ ≤ _; omega, by have := h.s3; show _ ≤ _; omega, h.n, by have := h.len; omega, fun x hx => by have := h.ch x hx; show x.size ≤ _; omega⟩
theorem mb_none : MB noCmd := ⟨by unfold inR noCmd; decide, by unfold inR noCmd; decide, by unfold inR noCmd; decide, by decide, by decide, by decide, by unfold inR noCmd; decide, by decide, fun x hx => by cases hx⟩
theorem small {n : Int} (h : -10000 ≤ n ∧ n ≤ 10000) : inR n := by unfold inR; omega
theorem sz9 {l : List ByteArray} {x : ByteArray} (hx : x ∈ l) (h : l.all (fun s => decide (s.size ≤ 9)) = true) : x.size ≤ 9 := by simpa using List.all_eq_true.1 h x hx
theorem right_ok {d : D_l1Cur} (h : CurOk d) : ∃ m d', s_l4Right d = some (m, d') ∧ MB m ∧ m.2.2.2.2.2.2.2.length ≤ 3 ∧ CurOk d' ∧ d'.1 = d.1 := by
  unfold s_l4Right
  simp only [Prod.eta]
  obtain ⟨y1, d1, e1, g1, c1, f1⟩ := below_ok' h 7
  rw [e1, Option.bind_some]; dsimp only
  obtain ⟨y2, d2, e2, g2, c2, f2⟩ := below_ok' c1 3
  rw [e2, Option.bind_some]; dsimp only
  obtain ⟨y3, d3, e3, g3, c3, f3⟩ := below_ok' c2 6
  rw [e3, Option.bind_some]; dsimp only
  have k1 := g1.2.1 (by omega); have k2 := g2.2.1 (by omega); have k3 := g3.2.1 (by omega)
  have w1 : IntKind.wrap .i64 (1 + y1) = 1 + y1 := wrap64_in (by unfold inR; omega)
  have w2 : IntKind.wrap .i64 (1 + y2) = 1 + y2 := wrap64_in (by unfold inR; omega)
  have w3 : IntKind.wrap .i64 (1 + y3) = 1 + y3 := wrap64_in (by unfold inR; omega)
  rw [w1, w2, w3]
  refine jbind_rule (Q := fun o => ∃ m d', o = some (m, d') ∧ MB m ∧ m.2.2.2.2.2.2.2.length ≤ 3 ∧ CurOk d' ∧ d'.1 = d.1) (fun s : Int × Int × Int => CurOk (d3.1, s.1, s.2.1) ∧ 1 ≤ s.2.2 ∧ s.2.2 ≤ 7) ?_ ?_
  · obtain ⟨b, d5, e5, c5, f5⟩ := once_ok' c3 4
    rw [e5, Option.bind_some]; dsimp only
    rw [f5.symm]
    cases b
    · exact ⟨_, rfl, c5, by dsimp only; omega, by dsimp only; omega⟩
    · exact ⟨_, rfl, c5, by dsimp only; omega, by dsimp only; omega⟩
  rintro ⟨p4, q4, k4⟩ ⟨c4, l4, u4⟩
  dsimp only at c4 l4 u4 ⊢
  refine jbind_rule (Q := fun o => ∃ m d', o = some (m, d') ∧ MB m ∧ m.2.2.2.2.2.2.2.length ≤ 3 ∧ CurOk d' ∧ d'.1 = d.1) (fun s : Int × Int × ByteArray => CurOk (d3.1, s.1, s.2.1) ∧ s.2.2.size ≤ 9) ?_ ?_
  · cases (!decide (k4 = 7))
    · exact ⟨_, rfl, c4, Nat.zero_le _⟩
    · rw [cond_true, Option.bind_some]
      obtain ⟨x, d6, e6, g6, c6, f6⟩ := pick_ok' c4 (l := [(ByteArray.mk #[97]), (ByteArray.mk #[98]), (ByteArray.mk #[97, 98])]) (by decide)
      rw [e6, Option.bind_some]; dsimp only at f6 ⊢
      exact ⟨_, rfl, by dsimp only; rw [← f6]; exact c6, sz9 g6 (by decide)⟩
  rintro ⟨p7, q7, s7⟩ ⟨c7, z7⟩
  dsimp only at c7 z7 ⊢
  refine jbind_rule (Q := fun o => ∃ m d', o = some (m, d') ∧ MB m ∧ m.2.2.2.2.2.2.2.length ≤ 3 ∧ CurOk d' ∧ d'.1 = d.1) (fun s : Int × Int × ByteArray => CurOk (d3.1, s.1, s.2.1) ∧ s.2.2.size ≤ 9) ?_ ?_
  · cases (decide (k4 = 3) || decide (k4 = 4))
    · exact ⟨_, rfl, c7, Nat.zero_le _⟩
    · rw [cond_true, Option.bind_some]
      obtain ⟨x, d6, e6, g6, c6, f6⟩ := pick_ok' c7 (l := [(ByteArray.mk #[120]), (ByteArray.mk #[121]), (ByteArray.mk #[122])]) (by decide)
      rw [e6, Option.bind_some]; dsimp only at f6 ⊢
      exact ⟨_, rfl, by dsimp only; rw [← f6]; exact c6, sz9 g6 (by decide)⟩
  rintro ⟨p8, q8, s8⟩ ⟨c8, z8⟩
  dsimp only at c8 z8 ⊢
  refine jbind_rule (Q := fun o => ∃ m d', o = some (m, d') ∧ MB m ∧ m.2.2.2.2.2.2.2.length ≤ 3 ∧ CurOk d' ∧ d'.1 = d.1) (fun s : Int × Int × ByteArray => CurOk (d3.1, s.1, s.2.1) ∧ s.2.2.size ≤ 9) ?_ ?_
  · cases (decide (k4 = 4))
    · exact ⟨_, rfl, c8, Nat.zero_le _⟩
    · rw [cond_true, Option.bind_some]
      obtain ⟨x, d6, e6, g6, c6, f6⟩ := pick_ok' c8 (l := [(ByteArray.mk #[107, 101, 101, 112]), (ByteArray.mk #[116])]) (by decide)
      rw [e6, Option.bind_some]; dsimp only at f6 ⊢
      exact ⟨_, rfl, by dsimp only; rw [← f6]; exact c6, sz9 g6 (by decide)⟩
  rintro ⟨p9, q9, s9⟩ ⟨c9, z9⟩
  dsimp only at c9 z9 ⊢
  refine jbind_rule (Q := fun o => ∃ m d', o = some (m, d') ∧ MB m ∧ m.2.2.2.2.2.2.2.length ≤ 3 ∧ CurOk d' ∧ d'.1 = d.1) (fun s : Int × Int × Int => CurOk (d3.1, s.1, s.2.1) ∧ 0 ≤ s.2.2 ∧ s.2.2 ≤ 4) ?_ ?_
  · cases (decide (k4 = 5))
    · exact ⟨_, rfl, c9, by dsimp only; omega, by dsimp only; omega⟩
    · rw [cond_true]
      obtain ⟨x, d6, e6, g6, c6, f6⟩ := below_ok' c9 4
      have := g6.2.1 (by omega)
      rw [e6, Option.bind_some]; dsimp only at f6 ⊢
      exact ⟨_, rfl, by dsimp only; rw [← f6]; exact c6, by dsimp only; omega, by dsimp only; omega⟩
  rintro ⟨p10, q10, n10⟩ ⟨c10, l10, u10⟩
  dsimp only at c10 l10 u10 ⊢
  have hf : d3.1 = d.1 := by rw [f3, f2, f1]
  cases (decide (k4 = 3)) with
  | false => exact ⟨_, _, rfl, ⟨small (by dsimp only; omega), small (by dsimp only; omega), small (by dsimp only; omega), z7, z8, z9, small (by dsimp only; omega), Nat.zero_le _, fun x hx => by cases hx⟩, Nat.zero_le _, c10, hf⟩
  | true =>
    rw [cond_true]
    obtain ⟨y26, d26, e26, g26, c26, f26⟩ := below_ok' c10 3
    have k26 := g26.2.1 (by omega)
    rw [e26, Option.bind_some]; dsimp only at f26 ⊢
    rw [wrap64_in (n := 1 + y26) (by unfold inR; omega)]
    refine (fun ⟨r, hr, hq⟩ => ⟨r.1, r.2, hr, hq⟩ : (∃ r : D_Cmd × D_l1Cur, _ = some r ∧ (MB r.1 ∧ r.1.2.2.2.2.2.2.2.length ≤ 3 ∧ CurOk r.2 ∧ r.2.1 = d.1)) → _) (whileP_rule (fun s : Int × Int × Int × (List ByteArray) => 0 ≤ s.1 ∧ s.1 + (s.2.2.2.length : Int) ≤ 3 ∧ CurOk (d26.1, s.2.1, s.2.2.1) ∧ ∀ x, x ∈ s.2.2.2 → x.size ≤ 9) (fun s => s.1.toNat) (fun r : D_Cmd × D_l1Cur => MB r.1 ∧ r.1.2.2.2.2.2.2.2.length ≤ 3 ∧ CurOk r.2 ∧ r.2.1 = d.1) ?_ (1 + y26, d26.2.1, d26.2.2, []) ⟨by dsimp only; omega, by simp; omega, c26, fun x hx => by cases hx⟩)
    rintro ⟨k, p, q, l⟩ ⟨i1, i2, i3, i4⟩
    dsimp only at i1 i2 i3 i4 ⊢
    by_cases hk : 0 < k
    · left
      rw [decide_eq_true hk, cond_true]
      obtain ⟨y29, d29, e29, g29, c29, f29⟩ := below_ok' i3 4
      rw [e29, Option.bind_some]; dsimp only at f29 ⊢
      obtain ⟨b, eb⟩ := u8P_wrap y29
      rw [eb, Option.bind_some, Option.bind_some, s_Short_eq (by rw [strP_size]; simp), Option.bind_some, appP_ok (by simp; omega), Option.bind_some, wrap64_in (n := k - 1) (by unfold inR; omega)]
      refine ⟨_, rfl, ⟨by dsimp only; omega, by simp; omega, by dsimp only; rw [← f29]; exact c29, fun x hx => ?_⟩, by dsimp only; omega⟩
      rcases List.mem_append.1 hx with hx | hx
      · exact i4 x hx
      · rw [List.mem_singleton.1 hx, short_size]; omega
    · right
      rw [decide_eq_false hk, cond_false]
      exact ⟨_, rfl, ⟨small (by dsimp only; omega), small (by dsimp only; omega), small (by dsimp only; omega), z7, z8, z9, small (by dsimp only; omega), by dsimp only; omega, i4⟩, by dsimp only; omega, i3, by dsimp only; rw [f26, hf]⟩
end Go.Proofs.SL
/- from PRb.lean -/
namespace Go.Proofs.SL
open Go
theorem cmd_ok {d : D_l1Cur} (h : CurOk d) : ∃ m d', s_l4Cmd d = some (m, d') ∧ MB m ∧ CurOk d' ∧ d'.1 = d.1 := by
  unfold s_l4Cmd
  simp only [Prod.eta]
  obtain ⟨b, d1, e1, c1, f1⟩ := once_ok' h 12
  rw [e1, Option.bind_some]; dsimp only
  cases b with
  | true => exact ⟨_, _, rfl, mb_none, c1, f1⟩
  | false =>
    rw [cond_false]
    obtain ⟨m, d3, e3, hm, l3, c3, f3⟩ := right_ok c1
    rw [e3, Option.bind_some]; dsimp only
    obtain ⟨b, d4, e4, c4, f4⟩ := once_ok' c3 8
    rw [e4, Option.bind_some]; dsimp only
    have hf4 : d4.1 = d.1 := by rw [f4, f3, f1]
    cases b with
    | false => exact ⟨_, _, rfl, hm, c4, hf4⟩
    | true =>
      rw [cond_true]
      obtain ⟨y6, d6, e6, g6, c6, f6⟩ := below_ok' c4 6
      rw [e6, Option.bind_some]; dsimp only
      have hf6 : d6.1 = d.1 := by rw [f6, hf4]
      have hpi : ∀ l : List Int, 0 < l.length → (∀ x, x ∈ l → -10000 ≤ x ∧ x ≤ 10000) → ∃ x d', s_l1PickInt d6 l = some (x, d') ∧ inR x ∧ CurOk d' ∧ d'.1 = d.1 := fun l h0 hl => by
        obtain ⟨x, d', e, g, c, f⟩ := pickint_ok' c6 h0
        exact ⟨x, d', e, small (hl x g), c, by rw [f, hf6]⟩
      cases decide (y6 = 0) with
      | true =>
        rw [cond_true, Option.bind_some]
        obtain ⟨x, d7, e7, i7, c7, f7⟩ := hpi [(-1), 0, 8, 3] (by decide) (by decide)
        rw [e7, Option.bind_some]
        exact ⟨_, _, rfl, ⟨i7, hm.cl, hm.no, hm.s1, hm.s2, hm.s3, hm.n, hm.len, hm.ch⟩, c7, f7⟩
      | false =>
      rw [cond_false]
      cases decide (y6 = 1) with
      | true =>
        rw [cond_true, Option.bind_some]
        obtain ⟨x, d7, e7, i7, c7, f7⟩ := hpi [0, 9, 10] (by decide) (by decide)
        rw [e7, Option.bind_some]
        exact ⟨_, _, rfl, ⟨hm.k, i7, hm.no, hm.s1, hm.s2, hm.s3, hm.n, hm.len, hm.ch⟩, c7, f7⟩
      | false =>
      rw [cond_false]
      cases decide (y6 = 2) with
      | true =>
        rw [cond_true, Option.bind_some]
        obtain ⟨x, d7, e7, i7, c7, f7⟩ := hpi [0, 1000, 1001] (by decide) (by decide)
        rw [e7, Option.bind_some]
        exact ⟨_, _, rfl, ⟨hm.k, hm.cl, i7, hm.s1, hm.s2, hm.s3, hm.n, hm.len, hm.ch⟩, c7, f7⟩
      | false =>
      rw [cond_false]
      cases decide (y6 = 3) with
      | true =>
        rw [cond_true, Option.bind_some]
        obtain ⟨x, d7, e7, g7, c7, f7⟩ := pick_ok' c6 (l := [ByteArray.empty, (ByteArray.mk #[65]), (ByteArray.mk #[97, 98, 99, 100, 101, 102, 103, 104]), (ByteArray.mk #[97, 98, 99, 100, 101, 102, 103, 104, 105])]) (by decide)
        rw [e7, Option.bind_some]
        exact ⟨_, _, rfl, ⟨hm.k, hm.cl, hm.no, sz9 g7 (by decide), hm.s2, hm.s3, hm.n, hm.len, hm.ch⟩, c7, by rw [f7, hf6]⟩
      | false =>
      rw [cond_false]
      cases decide (y6 = 4) with
      | true =>
        rw [cond_true, Option.bind_some]
        obtain ⟨x, d7, e7, i7, c7, f7⟩ := hpi [(-1), 9, 10] (by decide) (by decide)
        rw [e7, Option.bind_some]
        exact ⟨_, _, rfl, ⟨hm.k, hm.cl, hm.no, hm.s1, hm.s2, hm.s3, i7, hm.len, hm.ch⟩, c7, f7⟩
      | false =>
        rw [cond_false]
        obtain ⟨t, d7, e7, g7, c7, f7⟩ := text_ok' c6 (n := 9) (by omega) (by omega)
        rw [e7, Option.bind_some]; dsimp only
        rw [appP_ok (by simp; omega), Option.bind_some]
        refine ⟨_, _, rfl, ⟨hm.k, hm.cl, hm.no, hm.s1, hm.s2, hm.s3, hm.n, by simp; omega, fun x hx => ?_⟩, c7, by rw [f7, hf6]⟩
        rcases List.mem_append.1 hx with hx | hx
        · exact hm.ch x hx
        · rw [List.mem_singleton.1 hx]; omega
theorem chunk_ok {d : D_l1Cur} (h : CurOk d) : ∃ s d', s_l18Chunk d = some (s, d') ∧ s.size ≤ 9 ∧ CurOk d' ∧ d'.1 = d.1 := by
  unfold s_l18Chunk
  simp only [Prod.eta]
  obtain ⟨b, d1, e1, c1, f1⟩ := once_ok' h 25
  rw [e1, Option.bind_some]; dsimp only
  cases b with
  | true =>
    rw [cond_true]
    obtain ⟨t, d3, e3, g3, c3, f3⟩ := text_ok' c1 (n := 9) (by omega) (by omega)
    rw [e3, Option.bind_some]
    exact ⟨_, _, rfl, by omega, c3, by rw [f3, f1]⟩
  | false =>
    rw [cond_false]
    obtain ⟨y4, d4, e4, _, c4, f4⟩ := below_ok' c1 5
    rw [e4, Option.bind_some]; dsimp only
    obtain ⟨b, eb⟩ := u8P_wrap y4
    rw [eb, Option.bind_some, Option.bind_some, s_Short_eq (by rw [strP_size]; simp), Option.bind_some]
    exact ⟨_, _, rfl, by rw [short_size]; omega, c4, by rw [f4, f1]⟩
end Go.Proofs.SL
namespace Go.Proofs.SL
open Go
theorem whileP_to {σ α : Type} {f : σ → Option (σ ⊕ α)} {s : σ} (G : Option α → Prop) (I : σ → Prop) (μ : σ → Nat) (Q : α → Prop) (hg : ∀ a, Q a → G (some a)) (hs : I s)
    (h : ∀ s, I s → (∃ s', f s = some (.inl s') ∧ I s' ∧ μ s' < μ s) ∨ ∃ a, f s = some (.inr a) ∧ Q a) : G (whileP f s) := by
  obtain ⟨a, ha, hq⟩ := whileP_rule I μ Q h s hs
  rw [ha]; exact hg a hq
/-- What draws hand out of uploads. -/
def UF (u : D_Ups) : Prop := Ok.ok u ∧ u.2.length ≤ 30
theorem uf_nil : UF (0, []) := ⟨⟨by show inR 0; unfold inR; omega, by simp, fun x hx => by cases hx⟩, by simp⟩
def upNextD (d : D_Ups) : D_Ups × Bool := if upsOkB d then (if 1000 ≤ d.1 then (d, false) else ((d.1 + 1, d.2), true)) else ((0, []), false)
theorem s_UpNext_eq {d : D_Ups} (ho : Ok.ok d) : s_UpNext d = some (upNextD d) := by
  unfold s_UpNext upNextD
  rw [show s_UpsOk (d.1, d.2) = some (upsOkB d) from s_UpsOk_eq ho, Option.bind_some]
  cases h : upsOkB d with
  | false => rfl
  | true =>
    have hb := (upsOk_facts h).1
    rw [show s_l18Copy (d.1, d.2) = some d from (ups_copy h).1, Option.bind_some]
    simp only [Bool.not_true, cond_false, if_true]
    by_cases hc : 1000 ≤ d.1
    · rw [decide_eq_true hc, if_pos hc]; rfl
    · rw [decide_eq_false hc, if_neg hc, wrap64_in (n := d.1 + 1) (by unfold inR; omega)]; rfl
theorem next_uf {d : D_Ups} (h : UF d) : UF (upNextD d).1 := by
  unfold upNextD
  split
  · rename_i hk
    have hb := (upsOk_facts hk).1
    split
    · exact h
    · exact ⟨⟨by show inR (d.1 + 1); unfold inR; omega, h.1.2⟩, h.2⟩
  · exact uf_nil
theorem ack_uf {d : D_Ups} {c : ByteArray} {n : Int} (h : UF d) (hc : c.size ≤ 9223372036854775807) : UF (upAckD d c n).1 := by
  unfold upAckD
  split
  · split
    · rename_i hk
      have := (upsOk_facts (Bool.and_eq_true_iff.1 hk).2).2.1
      exact ⟨ackSet_ok h.1 (by have := h.2; omega) hc, by dsimp only; omega⟩
    · exact h
  · exact uf_nil
theorem lost_uf {d : D_Ups} {c : ByteArray} {n : Int} (h : UF d) : UF (upLostD d c n).1 := by
  unfold upLostD
  split
  · split
    · exact h
    · rename_i k hk
      split
      · exact h
      · rename_i x hx
        have hxo := h.1.2.2 x (List.mem_of_getElem? hx)
        split
        · dsimp only
          split
          · refine ⟨⟨h.1.1, by have := List.length_eraseIdx_le d.2 k; have := h.2; show (d.2.eraseIdx k).length ≤ _; omega, fun y hy => h.1.2.2 y (List.mem_of_mem_eraseIdx hy)⟩, by have := List.length_eraseIdx_le d.2 k; have := h.2; show (d.2.eraseIdx k).length ≤ _; omega⟩
          · refine ⟨⟨h.1.1, by have := h.2; show (d.2.set k _).length ≤ _; rw [List.length_set]; omega, fun y hy => ?_⟩, by show (d.2.set k _).length ≤ _; rw [List.length_set]; exact h.2⟩
            rcases List.mem_or_eq_of_mem_set hy with hy | rfl
            · exact h.1.2.2 y hy
            · exact ⟨hxo.1, ⟨Nat.le_trans (List.length_filter_le _ _) hxo.2.1.1, fun z hz => hxo.2.1.2 z (List.mem_filter.1 hz).1⟩, hxo.2.2⟩
        · exact h
  · exact uf_nil
theorem some18_ok {c : D_l1Cur} (hc : CurOk c) : ∃ u c', s_l18Some c = some (u, c') ∧ (Ok.ok u ∧ u.2.length ≤ 31) ∧ CurOk c' := by
  unfold s_l18Some
  simp only [Prod.eta]
  obtain ⟨n, c1, e1, g1, hc1, k1⟩ := below_ok' hc 16
  rw [e1, Option.bind_some]
  dsimp only
  refine whileP_to (fun o => ∃ u c', o = some (u, c') ∧ (Ok.ok u ∧ u.2.length ≤ 31) ∧ CurOk c') (fun s : Int × Int × Int × Int × List D_Up => CurOk (c1.1, s.2.1, s.2.2.1) ∧ UF (s.2.2.2.1, s.2.2.2.2) ∧ s.1 ≤ 16) (fun s => s.1.toNat) (fun r : D_Ups × D_l1Cur => (Ok.ok r.1 ∧ r.1.2.length ≤ 31) ∧ CurOk r.2)
    (fun a ha => ⟨a.1, a.2, rfl, ha.1, ha.2⟩) ?_ ?_
  · have := g1.2.1 (by omega)
    exact ⟨hc1, uf_nil, by dsimp only; omega⟩
  rintro ⟨n, p, q, ep, l⟩ ⟨hcur, hu, hn⟩
  dsimp only at hcur hu hn ⊢
  by_cases h0 : 0 < n
  · left
    simp only [decide_eq_true h0, cond_true]
    have hw : IntKind.wrap .i64 (n - 1) = n - 1 := wrap64_in (by unfold inR; omega)
    have fin : ∀ (c' : D_l1Cur) (u : D_Ups), CurOk c' → c'.1 = c1.1 → UF u → ∃ s' : Int × Int × Int × Int × List D_Up, some (Sum.inl (IntKind.wrap .i64 (n - 1), c'.2.1, c'.2.2, u.1, u.2) : (Int × Int × Int × Int × List D_Up) ⊕ (D_Ups × D_l1Cur)) = some (.inl s') ∧ (CurOk (c1.1, s'.2.1, s'.2.2.1) ∧ UF (s'.2.2.2.1, s'.2.2.2.2) ∧ s'.1 ≤ 16) ∧ s'.1.toNat < n.toNat := by
      intro c' u h1 h2 h3
      refine ⟨_, rfl, ⟨by rw [← h2]; exact h1, h3, ?_⟩, ?_⟩ <;> dsimp only <;> omega
    obtain ⟨x, c2, e2, g2, hc2, k2⟩ := below_ok' hcur 6
    rw [e2, Option.bind_some]
    dsimp only
    cases decide (x = 0) with
    | true =>
      rw [cond_true, s_UpNext_eq hu.1, Option.bind_some]
      exact fin c2 _ hc2 k2 (next_uf hu)
    | false =>
      rw [cond_false]
      obtain ⟨t, c3, e3, g3, hc3, k3⟩ := chunk_ok hc2
      obtain ⟨y, c4, e4, g4, hc4, k4⟩ := below_ok' hc3 3
      cases decide (x = 1) with
      | true =>
        rw [cond_true, e3, Option.bind_some]
        dsimp only
        rw [e4, Option.bind_some]
        dsimp only
        rw [s_UpLost_eq hu.1, Option.bind_some]
        exact fin c4 _ hc4 (by rw [k4, k3, k2]) (lost_uf hu)
      | false =>
        rw [cond_false, e3, Option.bind_some]
        dsimp only
        rw [e4, Option.bind_some]
        dsimp only
        rw [s_UpAck_eq hu.1 (show Ok.ok t from by show t.size ≤ _; omega), Option.bind_some]
        exact fin c4 _ hc4 (by rw [k4, k3, k2]) (ack_uf hu (by omega))
  · right
    simp only [decide_eq_false h0, cond_false]
    have hu2 : (Ok.ok ((ep, l) : D_Ups) ∧ l.length ≤ 31) := ⟨hu.1, by have := hu.2; dsimp only at this; omega⟩
    obtain ⟨b, c2, e2, hc2⟩ := once_ok hcur 10
    rw [e2, Option.bind_some]
    dsimp only
    cases b with
    | false => rw [cond_false]; exact ⟨_, rfl, hu2, hc2⟩
    | true =>
      rw [cond_true]
      obtain ⟨x, c3, e3, g3, hc3, k3⟩ := below_ok' hc2 3
      rw [e3, Option.bind_some]
      dsimp only
      cases decide (x = 0) with
      | true =>
        rw [cond_true, Option.bind_some]
        obtain ⟨y, c4, e4, m4, hc4, k4⟩ := pickint_ok' hc3 (l := [(-1), 0, 1000, 1001]) (by simp)
        rw [e4, Option.bind_some]
        refine ⟨_, rfl, ⟨⟨?_, hu2.1.2⟩, hu2.2⟩, hc4⟩
        simp only [List.mem_cons, List.not_mem_nil, or_false] at m4
        show inR y
        unfold inR; omega
      | false =>
        rw [cond_false]
        cases decide (x = 1) with
        | true =>
          rw [cond_true]
          obtain ⟨t, c4, e4, g4, hc4, k4⟩ := chunk_ok hc3
          rw [e4, Option.bind_some]
          dsimp only
          obtain ⟨y, c5, e5, g5, hc5, k5⟩ := below_ok' hc4 4
          rw [e5, Option.bind_some]
          dsimp only [Option.bind_some]
          have hl := hu.2
          dsimp only at hl
          rw [appP_ok (by simp; omega)]
          refine ⟨_, rfl, ⟨⟨hu2.1.1, by show (l ++ _).length ≤ _; simp; omega, fun z hz => ?_⟩, by show (l ++ _).length ≤ _; simp; omega⟩, hc5⟩
          rcases List.mem_append.1 hz with hz | hz
          · exact hu2.1.2.2 z hz
          · obtain rfl := List.mem_singleton.1 hz
            have := g5.2.1 (by omega)
            refine ⟨by show t.size ≤ _; omega, ⟨by simp, fun w hw => ?_⟩, by show inR 0; unfold inR; omega⟩
            obtain rfl := List.mem_singleton.1 hw
            show inR w
            unfold inR; omega
        | false =>
          rw [cond_false]
          cases l with
          | nil => exact ⟨_, rfl, hu2, hc3⟩
          | cons s l =>
            have hd : decide (0 < ((s :: l).length : Int)) = true := by simp
            have hx : idx (s :: l) 0 = some s := by rw [show (0 : Int) = ((0 : Nat) : Int) from rfl, idx_nat]; rfl
            rw [hd]
            simp only [cond_true, hx, Option.bind_some]
            refine ⟨_, rfl, ⟨⟨hu2.1.1, hu2.1.2.1, fun z hz => ?_⟩, hu2.2⟩, hc3⟩
            rcases List.mem_or_eq_of_mem_set hz with hz | rfl
            · exact hu2.1.2.2 z hz
            · have := hu2.1.2.2 s (List.mem_cons_self)
              exact ⟨this.1, ⟨by simp, fun w hw => by cases hw⟩, this.2.2⟩
end Go.Proofs.SL
namespace Go.Proofs.SL
open Go
theorem upHas_ok {u : D_Ups} {x : ByteArray} (h : upsOkB u = true) : upHasB u x = ((upNodes u x).length : Int) := by unfold upHasB; rw [if_pos h]
theorem upsOk_of {d : D_Ups} (h1 : 0 ≤ d.1 ∧ d.1 ≤ 1000) (h2 : d.2.length ≤ 20) (h3 : ∀ x, x ∈ d.2 → x.1.size = 8 ∧ x.2.1.length ≠ 0 ∧ (0 ≤ x.2.2 ∧ x.2.2 ≤ d.1) ∧ nodesOk x.2.1 = true) (h4 : d.2.Pairwise (fun a b => sLt a.1 b.1 = true)) : upsOkB d = true := by
  unfold upsOkB
  simp only [Bool.and_eq_true, decide_eq_true_eq, List.all_eq_true, List.mem_range]
  refine ⟨⟨h1, h2⟩, fun k hk => ?_⟩
  unfold upOk
  rw [List.getElem?_eq_getElem hk]
  obtain ⟨g1, g2, g3, g4⟩ := h3 _ (List.getElem_mem hk)
  simp only [Bool.and_eq_true, Bool.or_eq_true, decide_eq_true_eq, Bool.not_eq_true', decide_eq_false_iff_not]
  refine ⟨⟨⟨⟨by omega, ?_⟩, by omega⟩, g3⟩, g4⟩
  rcases Nat.eq_zero_or_pos k with h0 | h0
  · exact .inl h0
  · right
    rw [List.getElem?_eq_getElem (by omega)]
    exact List.pairwise_iff_getElem.1 h4 (k - 1) k (by omega) hk (by omega)
theorem nodesOk_of {l : List Int} (h1 : ∀ n, n ∈ l → 0 ≤ n ∧ n < 3) (h2 : l.Pairwise (· < ·)) : nodesOk l = true := by
  unfold nodesOk
  rw [List.all_eq_true]
  intro k hk
  have hk := List.mem_range.1 hk
  unfold nodeOk
  rw [List.getElem?_eq_getElem hk]
  have := h1 _ (List.getElem_mem hk)
  simp only [Bool.and_eq_true, Bool.or_eq_true, decide_eq_true_eq]
  refine ⟨this, ?_⟩
  rcases Nat.eq_zero_or_pos k with h0 | h0
  · exact .inl h0
  · right
    rw [List.getElem?_eq_getElem (by omega)]
    simpa using List.pairwise_iff_getElem.1 h2 (k - 1) k (by omega) hk (by omega)
theorem up_uniq {l : List D_Up} (h : l.Pairwise (fun a b => sLt a.1 b.1 = true)) {a b : D_Up} (ha : a ∈ l) (hb : b ∈ l) (e : a.1 = b.1) : a = b := by
  induction l with
  | nil => cases ha
  | cons x l ih =>
    obtain ⟨h1, h2⟩ := List.pairwise_cons.1 h
    rcases List.mem_cons.1 ha with ea | ha
    · rcases List.mem_cons.1 hb with eb | hb
      · rw [ea, eb]
      · have := h1 b hb; rw [← ea, e] at this; exact absurd this (by rw [sLt_irrefl]; simp)
    · rcases List.mem_cons.1 hb with eb | hb
      · have := h1 a ha; rw [← eb, e] at this; exact absurd this (by rw [sLt_irrefl]; simp)
      · exact ih h2 ha hb
theorem find_of {l : List D_Up} (h : l.Pairwise (fun a b => sLt a.1 b.1 = true)) {x : D_Up} {c : ByteArray} (hx : x ∈ l) (hc : x.1 = c) : l.find? (fun y => decide (y.1 = c)) = some x := by
  cases hf : l.find? (fun y => decide (y.1 = c)) with
  | none => have := List.find?_eq_none.1 hf x hx; simp [hc] at this
  | some y =>
    have h1 := List.mem_of_find?_eq_some hf
    have h2 : y.1 = c := by have := List.find?_some hf; simpa using this
    rw [up_uniq h h1 hx (by rw [h2, hc])]
theorem set_names {l : List D_Up} {k : Nat} {x y : D_Up} (hk : l[k]? = some x) (e : y.1 = x.1) (h : l.Pairwise (fun a b => sLt a.1 b.1 = true)) : (l.set k y).Pairwise (fun a b => sLt a.1 b.1 = true) := by
  have h1 : (l.map (·.1)).Pairwise (fun a b => sLt a b = true) := List.pairwise_map.2 h
  have h2 : (l.set k y).map (·.1) = l.map (·.1) := by
    obtain ⟨hlt, rfl⟩ := List.getElem?_eq_some_iff.1 hk
    apply List.ext_getElem?
    intro i
    rw [List.getElem?_map, List.getElem?_map, List.getElem?_set]
    by_cases hi : k = i
    · subst hi; rw [if_pos rfl, if_pos hlt, List.getElem?_eq_getElem hlt]; simp [e]
    · rw [if_neg hi]
  rw [← h2] at h1
  exact List.pairwise_map.1 h1
theorem filter_ne_len {n : Int} : ∀ {l : List Int}, l.Pairwise (· < ·) → n ∈ l → (l.filter fun y => !decide (y = n)).length + 1 = l.length
  | x :: l, h, hn => by
    obtain ⟨h1, h2⟩ := List.pairwise_cons.1 h
    by_cases e : x = n
    · subst e
      rw [List.filter_cons_of_neg (by simp), List.filter_eq_self.2 fun y hy => by have := h1 y hy; simp; omega]; rfl
    · rw [List.filter_cons_of_pos (by simp [e])]
      have := filter_ne_len h2 (by rcases List.mem_cons.1 hn with rfl | h; exact (e rfl).elim; exact h)
      simp only [List.length_cons]; omega
/-- A loss: what stands then. -/
theorem lost_facts {d : D_Ups} {c : ByteArray} {n : Int} (h : upsOkB d = true) : upsOkB (upLostD d c n).1 = true ∧ ((upLostD d c n).2 = true → (upNodes (upLostD d c n).1 c).length + 1 = (upNodes d c).length) ∧ (n ∈ upNodes d c → (upLostD d c n).2 = true) := by
  obtain ⟨b1, b2, b3, b4⟩ := upsOk_facts h
  unfold upLostD
  rw [if_pos h]
  cases hf : d.2.findIdx? (fun s : D_Up => decide (s.1 = c)) with
  | none =>
    refine ⟨h, fun e => (by cases e), fun hn => ?_⟩
    have : upFind d c = none := List.find?_eq_none.2 fun y hy => by have := List.findIdx?_eq_none_iff.1 hf y hy; simp [this]
    unfold upNodes at hn
    rw [this] at hn; cases hn
  | some k =>
    obtain ⟨hlt, hc, _⟩ := List.findIdx?_eq_some_iff_getElem.1 hf
    have hx : d.2[k]? = some d.2[k] := List.getElem?_eq_getElem hlt
    generalize d.2[k] = x at hx hc
    have hc : x.1 = c := of_decide_eq_true hc
    have hm := List.mem_of_getElem? hx
    have hN : upNodes d c = x.2.1 := by unfold upNodes upFind; rw [find_of b4 hm hc]
    obtain ⟨g1, g2, g3, g4⟩ := b3 x hm
    obtain ⟨n1, n2⟩ := nodesOk_facts g4
    dsimp only
    rw [hx]
    dsimp only
    rw [hN]
    by_cases hn : n ∈ x.2.1
    · have ha : (x.2.1.any fun y => decide (y = n)) = true := List.any_eq_true.2 ⟨n, hn, decide_eq_true rfl⟩
      rw [if_pos ha]
      have hl := filter_ne_len n2 hn
      dsimp only
      refine ⟨?_, fun _ => ?_, fun _ => rfl⟩
      · split
        · exact upsOk_of b1 (by have := List.length_eraseIdx_le d.2 k; dsimp only; omega) (fun y hy => b3 y (List.mem_of_mem_eraseIdx hy)) (b4.sublist (List.eraseIdx_sublist _ _))
        · rename_i hz
          refine upsOk_of b1 (by dsimp only; rw [List.length_set]; exact b2) (fun y hy => ?_) (set_names hx rfl b4)
          rcases List.mem_or_eq_of_mem_set hy with hy | rfl
          · exact b3 y hy
          · exact ⟨g1, hz, g3, nodesOk_of (fun z hz => n1 z (List.mem_filter.1 hz).1) (List.Pairwise.filter _ n2)⟩
      · split
        · rename_i hz
          have : upFind (d.1, d.2.eraseIdx k) c = none := by
            refine List.find?_eq_none.2 fun y hy hd => ?_
            have hd : y.1 = c := of_decide_eq_true hd
            obtain ⟨j, hj, hjk⟩ := List.mem_eraseIdx_iff_getElem?.1 hy
            obtain ⟨hjl, hje⟩ := List.getElem?_eq_some_iff.1 hjk
            obtain ⟨_, hke⟩ := List.getElem?_eq_some_iff.1 hx
            have hyx : y = x := up_uniq b4 (List.mem_of_getElem? hjk) hm (by rw [hd, hc])
            rcases Nat.lt_or_gt_of_ne hj with hlt2 | hlt2
            · have := List.pairwise_iff_getElem.1 b4 j k hjl hlt hlt2
              rw [hje, hke, hyx, sLt_irrefl] at this; cases this
            · have := List.pairwise_iff_getElem.1 b4 k j hlt hjl hlt2
              rw [hje, hke, hyx, sLt_irrefl] at this; cases this
          unfold upNodes
          rw [this]
          simp only [List.length_nil]; omega
        · unfold upNodes upFind
          obtain ⟨Y, hY⟩ : ∃ Y : D_Up, Y = (x.1, x.2.1.filter (fun y => !decide (y = n)), x.2.2) := ⟨_, rfl⟩
          rw [← hY]
          have hm2 : Y ∈ d.2.set k Y := List.mem_iff_getElem?.2 ⟨k, List.getElem?_set_self hlt⟩
          have hYc : Y.1 = c := by rw [hY]; exact hc
          have e := find_of (c := c) (set_names hx (by rw [hYc, hc]) b4) hm2 hYc
          dsimp only
          rw [e, hY]
          exact hl
    · have ha : (x.2.1.any fun y => decide (y = n)) = false := by
        rw [List.any_eq_false]; intro y hy; simp; intro e; subst e; exact hn hy
      rw [if_neg (by rw [ha]; simp)]
      exact ⟨h, fun e => (by cases e), fun e => (hn e).elim⟩
/-- An acknowledgement: what stands then. -/
theorem ack_facts {d : D_Ups} {c : ByteArray} {n : Int} (h : (upAckD d c n).2 = true) : upsOkB (upAckD d c n).1 = true ∧ n ∈ upNodes (upAckD d c n).1 c := by
  unfold upAckD at h ⊢
  by_cases h1 : upsOkB d = true
  · rw [if_pos h1] at h ⊢
    by_cases h2 : (decide (0 ≤ n ∧ n < 3) && upsOkB (ackSet d c n)) = true
    · rw [if_pos h2]
      rw [Bool.and_eq_true, decide_eq_true_eq] at h2
      refine ⟨h2.2, ?_⟩
      obtain ⟨b1, b2, b3, b4⟩ := upsOk_facts h2.2
      have hin : ∀ (x : D_Up) (l : List D_Up), x ∈ setU x l := by
        intro x l
        induction l with
        | nil => simp [setU]
        | cons y ys ih => unfold setU; split; exact List.mem_cons_of_mem _ ih; exact List.mem_cons_self ..
      show n ∈ upNodes (ackSet d c n) c
      unfold upNodes upFind
      rw [find_of (x := (c, withL (upNodes d c) n true, d.1)) b4 (hin _ _) rfl]
      exact mem_withL.2 ⟨h2.1, .inl ⟨rfl, rfl⟩⟩
    · rw [if_neg h2] at h; cases h
  · rw [if_neg h1] at h; cases h
end Go.Proofs.SL
namespace Go.Proofs.SL
open Go
theorem drawAck_ok {l : List UInt8} (h : l.length ≤ 1048576) : ∃ u c n, s_DrawUpAck l = some (u, c, n) ∧ (Ok.ok u ∧ u.2.length ≤ 31) ∧ c.size ≤ 9 ∧ inR n := by
  unfold s_DrawUpAck
  obtain ⟨c0, e0, h0⟩ := new_ok h
  rw [e0, Option.bind_some]
  obtain ⟨u, c2, e2, g2, h2⟩ := some18_ok (c := (c0.1, c0.2.1, c0.2.2)) h0
  rw [e2, Option.bind_some]
  obtain ⟨t, c3, e3, g3, h3, k3⟩ := chunk_ok (d := (c2.1, c2.2.1, c2.2.2)) h2
  dsimp only
  rw [e3, Option.bind_some]
  obtain ⟨x, c4, e4, g4, h4, k4⟩ := below_ok' (d := (c3.1, c3.2.1, c3.2.2)) h3 5
  dsimp only
  rw [e4, Option.bind_some]
  have := g4.2.1 (by omega)
  exact ⟨u, t, _, rfl, g2, g3, by rw [wrap64_in (n := x - 1) (by unfold inR; omega)]; unfold inR; omega⟩
theorem drawLost_ok {l : List UInt8} (h : l.length ≤ 1048576) : ∃ u c n, s_DrawUpLost l = some (u, c, n) ∧ (Ok.ok u ∧ u.2.length ≤ 31) ∧ c.size ≤ 9 ∧ inR n := by
  unfold s_DrawUpLost
  obtain ⟨c0, e0, h0⟩ := new_ok h
  rw [e0, Option.bind_some]
  obtain ⟨u, c2, e2, g2, h2⟩ := some18_ok (c := (c0.1, c0.2.1, c0.2.2)) h0
  rw [e2, Option.bind_some]
  obtain ⟨t, c3, e3, g3, h3, k3⟩ := chunk_ok (d := (c2.1, c2.2.1, c2.2.2)) h2
  dsimp only
  rw [e3, Option.bind_some]
  obtain ⟨x, c4, e4, g4, h4, k4⟩ := below_ok' (d := (c3.1, c3.2.1, c3.2.2)) h3 4
  dsimp only
  rw [e4, Option.bind_some]
  have := g4.2.1 (by omega)
  exact ⟨u, t, _, rfl, g2, g3, by unfold inR; omega⟩
theorem drawGate_ok {l : List UInt8} (h : l.length ≤ 1048576) : ∃ u m, s_DrawUpGate l = some (u, m) ∧ Ok.ok u ∧ Ok.ok m := by
  unfold s_DrawUpGate
  obtain ⟨c0, e0, h0⟩ := new_ok h
  rw [e0, Option.bind_some]
  obtain ⟨u, c2, e2, g2, h2⟩ := some18_ok (c := (c0.1, c0.2.1, c0.2.2)) h0
  rw [e2, Option.bind_some]
  obtain ⟨m, c3, e3, g3, h3, k3⟩ := cmd_ok (d := (c2.1, c2.2.1, c2.2.2)) h2
  dsimp only
  rw [e3, Option.bind_some]
  obtain ⟨b, c4, e4, h4⟩ := once_ok (d := (c3.1, c3.2.1, c3.2.2)) h3 2
  dsimp only
  rw [e4, Option.bind_some]
  dsimp only
  cases b with
  | false => rw [cond_false]; exact ⟨u, m, rfl, g2.1, g3.ok⟩
  | true =>
    rw [cond_true]
    obtain ⟨x, c5, e5, g5, h5, k5⟩ := below_ok' (d := (c4.1, c4.2.1, c4.2.2)) h4 4
    rw [e5, Option.bind_some]
    dsimp only
    obtain ⟨b, hb⟩ := u8P_wrap x
    rw [hb, Option.bind_some, Option.bind_some, s_Short_eq (by show 1 ≤ 55; omega), Option.bind_some, Option.bind_some]
    refine ⟨u, _, rfl, g2.1, by show inR 3; unfold inR; omega, by show inR 1; unfold inR; omega, by show inR 1; unfold inR; omega, by show (1 : Nat) ≤ _; omega, by show (1 : Nat) ≤ _; omega, by show (0 : Nat) ≤ _; omega, by show inR 0; unfold inR; omega, by simp, fun z hz => ?_⟩
    obtain rfl := List.mem_singleton.1 hz
    show ByteArray.size _ ≤ _
    rw [short_size]; omega
theorem lost_ok31 {d : D_Ups} {c : ByteArray} {n : Int} (h : Ok.ok d ∧ d.2.length ≤ 31) : Ok.ok (upLostD d c n).1 ∧ (upLostD d c n).1.2.length ≤ 31 := by
  unfold upLostD
  split
  · split
    · exact h
    · rename_i k hk
      split
      · exact h
      · rename_i x hx
        have hxo := h.1.2.2 x (List.mem_of_getElem? hx)
        split
        · dsimp only
          split
          · refine ⟨⟨h.1.1, by have := List.length_eraseIdx_le d.2 k; have := h.2; show (d.2.eraseIdx k).length ≤ _; omega, fun y hy => h.1.2.2 y (List.mem_of_mem_eraseIdx hy)⟩, by have := List.length_eraseIdx_le d.2 k; have := h.2; show (d.2.eraseIdx k).length ≤ _; omega⟩
          · refine ⟨⟨h.1.1, by have := h.2; show (d.2.set k _).length ≤ _; rw [List.length_set]; omega, fun y hy => ?_⟩, by show (d.2.set k _).length ≤ _; rw [List.length_set]; exact h.2⟩
            rcases List.mem_or_eq_of_mem_set hy with hy | rfl
            · exact h.1.2.2 y hy
            · exact ⟨hxo.1, ⟨Nat.le_trans (List.length_filter_le _ _) hxo.2.1.1, fun z hz => hxo.2.1.2 z (List.mem_filter.1 hz).1⟩, hxo.2.2⟩
        · exact h
  · exact ⟨uf_nil.1, by simp⟩
theorem gate_rest {l : List UInt8} {v Y : D_Ups} (h : l.length ≤ 1048576) (hv : Ok.ok v) (hY : Ok.ok Y) (hk : upsOkB v = true → upsOkB Y = true) : (Option.bind (s_DrawUpGate l) (fun y21 => Option.bind (s_UpsOk (y21.1.1, y21.1.2)) (fun y22 => gb y22 (s_CmdOk (y21.2.1, y21.2.2.1, y21.2.2.2.1, y21.2.2.2.2.1, y21.2.2.2.2.2.1, y21.2.2.2.2.2.2.1, y21.2.2.2.2.2.2.2.1, y21.2.2.2.2.2.2.2.2)) (fun y23 => whileP (fun s24 : Bool × Int => cond (decide (s24.2 < (y21.2.2.2.2.2.2.2.2.length : Int))) (gb s24.1 (idx y21.2.2.2.2.2.2.2.2 s24.2) (fun y26 => gb s24.1 (s_UpHas (y21.1.1, y21.1.2) y26) (fun y27 => some (.inl (((s24.1 && (decide (2 ≤ y27))), IntKind.wrap .i64 (s24.2 + 1))))))) (Option.map .inr (Option.bind (i_UpGate (y21.1.1, y21.1.2) (y21.2.1, y21.2.2.1, y21.2.2.2.1, y21.2.2.2.2.1, y21.2.2.2.2.2.1, y21.2.2.2.2.2.2.1, y21.2.2.2.2.2.2.2.1, y21.2.2.2.2.2.2.2.2)) (fun y29 => gb (y29 == s24.1) (s_UpsOk (v.1, v.2)) (fun y30 => gb ((y29 == s24.1) && (!(!y30))) (s_UpsOk (Y.1, Y.2)) (fun y31 => some ((y29 == s24.1) && ((!y30) || y31)))))))) ((y22 && y23), 0)))) : Option Bool) = some true := by
  obtain ⟨w, cm, e3, hw, hcm⟩ := drawGate_ok h
  have hch : cm.2.2.2.2.2.2.2.length ≤ 9223372036854775807 := hcm.2.2.2.2.2.2.2.1
  rw [e3, Option.bind_some]
  simp only [Prod.eta, s_UpsOk_eq hw, s_CmdOk_eq hcm, Option.bind_some, gbs, i_UpGate_eq hw hcm, s_UpsOk_eq hv, s_UpsOk_eq hY, s_UpHas_eq hw]
  have hb0 : (upsOkB w && (if upsOkB w = true then cmdOkB cm else default)) = (upsOkB w && cmdOkB cm) := by cases upsOkB w <;> rfl
  clear hb0
  split
  all_goals
    refine whileP_is (fun s : Bool × Int => ∃ k : Nat, s.2 = (k : Int) ∧ k ≤ cm.2.2.2.2.2.2.2.length ∧ s.1 = (upsOkB w && cmdOkB cm && (cm.2.2.2.2.2.2.2.take k).all fun x => !decide (upHasB w x < 2))) (fun s => cm.2.2.2.2.2.2.2.length - s.2.toNat) (fun s hs => ?_) ?_
    rotate_left
    · exact ⟨0, rfl, Nat.zero_le _, by simp_all⟩
    obtain ⟨b, kk⟩ := s
    obtain ⟨k, rfl, hk1, hb⟩ := hs
    dsimp only at hb ⊢
    by_cases hlt : k < cm.2.2.2.2.2.2.2.length
    · left
      have hx : cm.2.2.2.2.2.2.2[k]? = some cm.2.2.2.2.2.2.2[k] := List.getElem?_eq_getElem hlt
      generalize cm.2.2.2.2.2.2.2[k] = x at hx
      have ht : (cm.2.2.2.2.2.2.2.take (k + 1)).all (fun x => !decide (upHasB w x < 2)) = ((cm.2.2.2.2.2.2.2.take k).all (fun x => !decide (upHasB w x < 2)) && !decide (upHasB w x < 2)) := by
        rw [List.take_add_one, hx]; simp
      have h2 : decide (2 ≤ upHasB w x) = !decide (upHasB w x < 2) := by rw [Bool.eq_iff_iff]; simp
      rw [lt_dec hlt, cond_true, idx_nat, hx, gbs, wrap_succ (show k < 9223372036854775807 by omega)]
      cases b with
      | true => exact ⟨_, rfl, ⟨k + 1, rfl, hlt, by dsimp only; rw [ht, ← Bool.and_assoc, ← hb, h2]⟩, by dsimp only; omega⟩
      | false => exact ⟨_, rfl, ⟨k + 1, rfl, hlt, by dsimp only; rw [ht, ← Bool.and_assoc, ← hb]; try simp⟩, by dsimp only; omega⟩
    · right
      have hkk : k = cm.2.2.2.2.2.2.2.length := by omega
      rw [hkk, List.take_length] at hb
      have hg : upGateB w cm = b := by
        rw [hb]; unfold upGateB
        cases upsOkB w <;> cases cmdOkB cm <;> simp
      rw [hkk, ge_dec, cond_false, hg]
      simp only [beq_self_eq_true, Bool.true_and, if_true]
      cases hv2 : upsOkB v with
      | false => simp
      | true => simp [hk hv2]
theorem fnUploads_true (l : List UInt8) : w_FnUploads l = some true := by
  unfold w_FnUploads w_big
  rw [Option.bind_some]
  by_cases hl : 1048576 < (l.length : Int)
  · rw [decide_eq_true hl, cond_true]
  rw [decide_eq_false hl, cond_false]
  obtain ⟨u, c, n, e1, hu, hc, hn⟩ := drawAck_ok (l := l) (by omega)
  obtain ⟨v, o, m, e2, hv, ho, hm⟩ := drawLost_ok (l := l) (by omega)
  obtain ⟨w, cm, e3, hw, hcm⟩ := drawGate_ok (l := l) (by omega)
  have hc' : Ok.ok c := by show c.size ≤ _; omega
  have hX : Ok.ok (upAckD u c n).1 := by
    unfold upAckD
    split
    · split
      · exact ackSet_ok hu.1 (by have := hu.2; omega) (by omega)
      · exact hu.1
    · exact uf_nil.1
  have hY : Ok.ok (upLostD v o m).1 := (lost_ok31 hv).1
  rw [e1, Option.bind_some]
  dsimp only
  rw [show i_UpAck (u.1, u.2) c n = some (upAckD u c n) from i_UpAck_eq hu.1 hc' hn, Option.bind_some, show s_UpAck (u.1, u.2) c n = some (upAckD u c n) from s_UpAck_eq hu.1 hc', Option.bind_some, e2, Option.bind_some]
  dsimp only
  rw [show i_UpLost (v.1, v.2) o m = some (upLostD v o m) from i_UpLost_eq hv.1, Option.bind_some, show s_UpLost (v.1, v.2) o m = some (upLostD v o m) from s_UpLost_eq hv.1, Option.bind_some]
  rw [show i_UpHas ((upAckD u c n).1.1, (upAckD u c n).1.2) c = some (upHasB (upAckD u c n).1 c) from i_UpHas_eq hX, show s_UpsOk ((upAckD u c n).1.1, (upAckD u c n).1.2) = some (upsOkB (upAckD u c n).1) from s_UpsOk_eq hX,
    show i_UpHas ((upLostD v o m).1.1, (upLostD v o m).1.2) o = some (upHasB (upLostD v o m).1 o) from i_UpHas_eq hY, show s_UpHas (v.1, v.2) o = some (upHasB v o) from s_UpHas_eq hv.1]
  simp only [gbs, beq_self_eq_true, Bool.not_true, Bool.or_self, Bool.false_or, Bool.not_false, Bool.true_and]
  have hXf : (upAckD u c n).2 = true → 1 ≤ upHasB (upAckD u c n).1 c := fun h => by
    obtain ⟨a1, a2⟩ := ack_facts h
    rw [upHas_ok a1]
    have := List.length_pos_of_mem a2; omega
  have hhas : ∀ {d : D_Ups} {t : ByteArray} {q : Int}, (upLostD d t q).2 = true → upHasB (upLostD d t q).1 t = IntKind.wrap .i64 (upHasB d t - 1) := fun {d t q} h => by
    cases hd : upsOkB d with
    | false => unfold upLostD at h; rw [if_neg (by rw [hd]; simp)] at h; cases h
    | true =>
      obtain ⟨f1, f2, _⟩ := lost_facts (c := t) (n := q) hd
      have h3 := nodes_le (upNodes_small (c := t) hd).1 (upNodes_small (c := t) hd).2
      have := f2 h
      rw [upHas_ok f1, upHas_ok hd, wrap64_in (by unfold inR; omega)]; omega
  have hT := gate_rest (l := l) (v := v) (Y := (upLostD v o m).1) (by omega) hv.1 hY (fun h => (lost_facts h).1)
  have e11 : (upLostD v o m).2 = true → decide (upHasB (upLostD v o m).1 o = IntKind.wrap .i64 (upHasB v o - 1)) = true := fun h => decide_eq_true (hhas h)
  cases hA : (upAckD u c n).2 with
  | false =>
    cases hB : (upLostD v o m).2 with
    | false =>
      simp only [if_true, if_false, Bool.false_and, Bool.and_false, Bool.not_false, Bool.true_and, Bool.false_or, Bool.or_false, Bool.false_eq_true, cond_false]
      exact hT
    | true =>
      simp only [if_true, if_false, Bool.false_and, Bool.and_false, Bool.not_false, Bool.true_and, Bool.false_or, Bool.or_false, Bool.false_eq_true, cond_false, e11 hB, Bool.not_true, Bool.and_self]
      exact hT
  | true =>
    obtain ⟨a1, a2⟩ := ack_facts hA
    have e9 : decide (upHasB (upAckD u c n).1 c < 1) = false := decide_eq_false (by have := hXf hA; omega)
    have g2 := (lost_facts (c := c) (n := n) a1).2.2 a2
    have e17 : decide (upHasB (upLostD (upAckD u c n).1 c n).1 c = IntKind.wrap .i64 (upHasB (upAckD u c n).1 c - 1)) = true := decide_eq_true (hhas g2)
    have hZ : Ok.ok (upLostD (upAckD u c n).1 c n).1 := (lost_ok31 ⟨hX, by have := (upsOk_facts a1).2.1; omega⟩).1
    have hL : i_UpLost ((upAckD u c n).1.1, (upAckD u c n).1.2) c n = some (upLostD (upAckD u c n).1 c n) := i_UpLost_eq hX
    have hH : i_UpHas ((upLostD (upAckD u c n).1 c n).1.1, (upLostD (upAckD u c n).1 c n).1.2) c = some (upHasB (upLostD (upAckD u c n).1 c n).1 c) := i_UpHas_eq hZ
    cases hB : (upLostD v o m).2 with
    | false =>
      simp only [if_true, if_false, e9, a1, Bool.false_and, Bool.and_false, Bool.not_false, Bool.not_true, Bool.true_and, Bool.false_or, Bool.or_false, Bool.false_eq_true, cond_false, cond_true, hL, Option.bind_some, g2, hH, gbs, e17, Bool.or_self]
      exact hT
    | true =>
      simp only [if_true, if_false, e9, a1, e11 hB, Bool.false_and, Bool.and_false, Bool.not_false, Bool.not_true, Bool.true_and, Bool.false_or, Bool.or_false, Bool.false_eq_true, cond_false, cond_true, hL, Option.bind_some, g2, hH, gbs, e17, Bool.or_self, Bool.and_self]
      exact hT
end Go.Proofs.SL
namespace Go.Proofs.SL
open Go
theorem lawFnUploads (w : World) (t1 : TL UInt8) (h1 : GT.rd w [] t1) (ho1 : Ok.ok (GT.dat t1)) : Spec Try.prog 7 [t1.hdr].toArray w [] (IsV (.bool true)) := w_FnUploads_walk w t1 h1 true (fnUploads_true _)
end Go.Proofs.SL
