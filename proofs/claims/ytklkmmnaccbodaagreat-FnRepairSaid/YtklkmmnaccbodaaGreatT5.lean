/- The texts of the proof, part 5: the base, walks of functions, plain Lean. -/
import Derived.Test.YtklkmmnaccbodaaGreatT4
import Derived.Test.YtklkmmnaccbodaaGreatT2
/- from P0.lean -/
namespace Go.Proofs.SL
open Go
theorem l1In_eq (x a b : Int) : s_l1In x a b = some (decide (a ≤ x ∧ x ≤ b)) := by
  unfold s_l1In; rw [Bool.decide_and]
theorem within_eq (x a b : Int) : i_within x a b = some (decide (a ≤ x ∧ x ≤ b)) := by
  unfold i_within; rw [Bool.decide_and]
theorem firstI_some {α : Type} {p : α → Bool} {xs : List α} {k : Nat} (h : xs.findIdx? p = some k) : firstI p xs = (k : Int) := by unfold firstI; rw [h]
theorem firstI_none {α : Type} {p : α → Bool} {xs : List α} (h : xs.findIdx? p = none) : firstI p xs = -1 := by unfold firstI; rw [h]
theorem gbs {α β : Type} [Inhabited α] (g : Bool) (a : α) (k : α → Option β) : gb g (some a) k = if g then k a else k default := by cases g <;> rfl
theorem prev_idx' {δ : Type} {l : List δ} {k : Nat} (hk : k < l.length) (hl : l.length ≤ 9223372036854775807) (h0 : 0 < k) : ∃ r, l[k - 1]? = some r ∧ idx l (IntKind.wrap .i64 ((k : Int) - 1)) = some r := by
  refine ⟨l[k - 1], List.getElem?_eq_getElem (by omega), ?_⟩
  rw [wrap64_in (by unfold inR; omega), show ((k : Int) - 1) = ((k - 1 : Nat) : Int) by omega, idx_nat]
  exact List.getElem?_eq_getElem (by omega)
theorem gb_none {α β : Type} [Inhabited α] (g : Bool) (o : Option α) (k : α → Option β) (h : g = false) : gb g o k = k default := by subst h; rfl
theorem gb_yes {α β : Type} [Inhabited α] (g : Bool) (o : Option α) (k : α → Option β) (h : g = true) : gb g o k = o.bind k := by subst h; rfl
theorem sidx_lt {s : ByteArray} {k : Nat} (h : k < s.size) : ∃ n, sidx s (k : Int) = some n ∧ 0 ≤ n ∧ n < 256 := by
  refine ⟨((s[k]'h).toNat : Int), ?_, by omega, by have := (s[k]'h).toNat_lt; omega⟩
  unfold sidx
  rw [dif_pos ⟨by omega, by simpa using h⟩]
  simp
/-- A check of each element. -/
theorem each_loop {β γ : Type} {l : List γ} {p : γ → Bool} {no yes : Option β} {f : Int → Option (Int ⊕ β)} (hl : l.length ≤ 9223372036854775807)
    (hf : ∀ (k : Nat) (x : γ), l[k]? = some x → f (k : Int) = if p x then some (.inl (IntKind.wrap .i64 ((k : Int) + 1))) else no.map .inr) (hn : f (l.length : Int) = yes.map .inr) :
    whileP f 0 = if l.all p then yes else no := by
  rw [whileP_all (n := l.length) (fun k => (l[k]?).all p) no yes ?_ hn, all_range_get]
  intro k hk
  rw [hf k l[k] (List.getElem?_eq_getElem hk), List.getElem?_eq_getElem hk, wrap_succ (by omega)]
  rfl
end Go.Proofs.SL
/- from PO.lean -/
namespace Go.Proofs.SL
open Go
theorem bl_irrefl : ∀ l : List UInt8, Op.bytesLess l l = false
  | [] => rfl
  | a :: l => by simp [Op.bytesLess, bl_irrefl l]
theorem bl_trans : ∀ {a b c : List UInt8}, Op.bytesLess a b = true → Op.bytesLess b c = true → Op.bytesLess a c = true
  | _, _, [], h1, h2 => by
    rename_i b
    cases b <;> simp [Op.bytesLess] at h2
  | [], b, c :: cs1, h1, h2 => by simp [Op.bytesLess]
  | a :: as1, [], c :: cs1, h1, h2 => by simp [Op.bytesLess] at h1
  | a :: as1, b :: bs1, c :: cs1, h1, h2 => by
    simp only [Op.bytesLess, Bool.or_eq_true, decide_eq_true_eq, Bool.and_eq_true, beq_iff_eq] at h1 h2 ⊢
    rcases h1 with h1 | ⟨rfl, h1⟩
    · rcases h2 with h2 | ⟨rfl, h2⟩
      · exact .inl (UInt8.lt_trans h1 h2)
      · exact .inl h1
    · rcases h2 with h2 | ⟨rfl, h2⟩
      · exact .inl h2
      · exact .inr ⟨rfl, bl_trans h1 h2⟩
theorem bl_tri : ∀ {a b : List UInt8}, Op.bytesLess a b = false → Op.bytesLess b a = false → a = b
  | [], [], _, _ => rfl
  | [], b :: bs1, h1, _ => by simp [Op.bytesLess] at h1
  | a :: as1, [], _, h2 => by simp [Op.bytesLess] at h2
  | a :: as1, b :: bs1, h1, h2 => by
    simp only [Op.bytesLess, Bool.or_eq_false_iff, decide_eq_false_iff_not, Bool.and_eq_false_imp, beq_iff_eq] at h1 h2
    have hab : a = b := UInt8.le_antisymm (UInt8.not_lt.1 h2.1) (UInt8.not_lt.1 h1.1)
    subst hab
    rw [bl_tri (h1.2 rfl) (h2.2 rfl)]
theorem sLt_irrefl (a : ByteArray) : sLt a a = false := bl_irrefl _
theorem sLt_trans {a b c : ByteArray} (h1 : sLt a b = true) (h2 : sLt b c = true) : sLt a c = true := bl_trans h1 h2
theorem toList_inj {a b : ByteArray} (h : a.toList = b.toList) : a = b := by
  rw [ByteArray.toList_eq, ByteArray.toList_eq] at h
  cases a; cases b
  congr 1
  exact Array.toList_inj.1 h
theorem sLt_tri {a b : ByteArray} (h1 : sLt a b = false) (h2 : sLt b a = false) : a = b := toList_inj (bl_tri h1 h2)
theorem sLt_asymm {a b : ByteArray} (h : sLt a b = true) : sLt b a = false := by
  cases h2 : sLt b a with
  | false => rfl
  | true => rw [← sLt_trans h h2, sLt_irrefl]
theorem sLt_ne {a b : ByteArray} (h : sLt a b = true) : a ≠ b := by
  intro e; subst e; rw [sLt_irrefl] at h; cases h
theorem pairwise_of_step {α : Type} {R : α → α → Prop} (tr : ∀ a b c, R a b → R b c → R a c) : ∀ (l : List α), (∀ k (h : k + 1 < l.length), R l[k] l[k + 1]) → l.Pairwise R
  | [], _ => List.Pairwise.nil
  | [a], _ => List.pairwise_singleton _ _
  | a :: b :: l, h => by
    have ih := pairwise_of_step tr (b :: l) (fun k hk => h (k + 1) (by simp at hk ⊢; omega))
    refine List.pairwise_cons.2 ⟨fun x hx => ?_, ih⟩
    have h0 : R a b := h 0 (by simp)
    rcases List.mem_cons.1 hx with rfl | hx
    · exact h0
    · exact tr _ _ _ h0 (List.rel_of_pairwise_cons ih hx)
end Go.Proofs.SL
/- from PNo.lean -/
namespace Go.Proofs.SL
open Go
theorem isRep_eq (x : Int) : i_isRep x = some (decide (0 ≤ x ∧ x < 3)) := by
  unfold i_isRep
  rw [within_eq, show decide (0 ≤ x ∧ x ≤ 2) = decide (0 ≤ x ∧ x < 3) by rw [Bool.eq_iff_iff]; simp; omega]; rfl
theorem l9Node_eq (x : Int) : s_l9Node x = some (decide (0 ≤ x ∧ x < 3)) := by unfold s_l9Node; rw [Bool.decide_and]
def nodeOk (ns : List Int) (k : Nat) : Bool := match ns[k]? with
  | none => false
  | some n => decide (0 ≤ n ∧ n < 3) && (decide (k = 0) || (ns[k - 1]?).all fun r => decide (r < n))
def nodesOk (ns : List Int) : Bool := (List.range ns.length).all (nodeOk ns)
theorem firstI_any {α : Type} (p : α → Bool) (l : List α) : decide (0 ≤ firstI p l) = l.any p := by
  rcases firstI_find p l with ⟨h1, h2⟩ | ⟨k, x, h1, h2, h3, _⟩
  · rw [h1]
    cases h : l.any p with
    | false => rfl
    | true =>
      obtain ⟨x, hx, hp⟩ := List.any_eq_true.1 h
      exact absurd hp (List.find?_eq_none.1 h2 x hx)
  · rw [h1, show decide (0 ≤ (k : Int)) = true by simp]
    symm
    exact List.any_eq_true.2 ⟨x, List.mem_of_getElem? h2, List.find?_some h3⟩
theorem foldl_filter' {β : Type} (p : β → Bool) : ∀ (xs acc : List β), xs.foldl (fun t x => if p x then t ++ [x] else t) acc = acc ++ xs.filter p
  | [], acc => by simp
  | x :: xs, acc => by
    rw [List.foldl_cons]
    cases hp : p x with
    | true => simp only [if_true]; rw [foldl_filter' p xs]; simp [hp]
    | false => simp only [Bool.false_eq_true, if_false]; rw [foldl_filter' p xs]; simp [hp]
/-- What right uploads hold. -/
theorem nodesOk_facts {ns : List Int} (h : nodesOk ns = true) : (∀ n, n ∈ ns → 0 ≤ n ∧ n < 3) ∧ ns.Pairwise (· < ·) := by
  unfold nodesOk at h
  simp only [List.all_eq_true, List.mem_range] at h
  have h1 : ∀ n, n ∈ ns → 0 ≤ n ∧ n < 3 := fun n hn => by
    obtain ⟨k, hk⟩ := List.getElem?_of_mem hn
    have := h k (List.getElem?_eq_some_iff.1 hk).1
    unfold nodeOk at this
    rw [hk] at this
    simp only [Bool.and_eq_true, decide_eq_true_eq] at this
    exact this.1
  refine ⟨h1, pairwise_of_step (R := (· < ·)) (fun a b c => Int.lt_trans) ns fun k hk => ?_⟩
  have := h (k + 1) hk
  unfold nodeOk at this
  rw [List.getElem?_eq_getElem hk] at this
  simp only [Bool.and_eq_true, decide_eq_true_eq, Bool.or_eq_true, Nat.add_sub_cancel, List.getElem?_eq_getElem (show k < ns.length by omega), Option.all_some] at this
  rcases this.2 with h2 | h2
  · omega
  · exact h2
theorem sorted_le : ∀ {l : List Int} {a b : Int}, l.Pairwise (· < ·) → (∀ n, n ∈ l → a ≤ n ∧ n < b) → (l.length : Int) ≤ max 0 (b - a)
  | [], a, b, _, _ => by simp; omega
  | x :: l, a, b, h1, h2 => by
    obtain ⟨h3, h4⟩ := List.pairwise_cons.1 h1
    have hx := h2 x (List.mem_cons_self ..)
    have := sorted_le (a := x + 1) (b := b) h4 (fun n hn => ⟨by have := h3 n hn; omega, (h2 n (List.mem_cons_of_mem _ hn)).2⟩)
    simp only [List.length_cons]
    omega
theorem nodes_le {l : List Int} (h1 : ∀ n, n ∈ l → 0 ≤ n ∧ n < 3) (h2 : l.Pairwise (· < ·)) : l.length ≤ 3 := by
  have := sorted_le h2 h1
  omega
end Go.Proofs.SL
/- from PUa.lean -/
namespace Go.Proofs.SL
open Go
def upOk (e : Int) (l : List D_Up) (k : Nat) : Bool := match l[k]? with
  | none => false
  | some x => decide ((x.1.size : Int) = 8) && (decide (k = 0) || (l[k - 1]?).all fun r => sLt r.1 x.1) && !decide ((x.2.1.length : Int) = 0) && decide (0 ≤ x.2.2 ∧ x.2.2 ≤ e) && nodesOk x.2.1
def upsOkB (u : D_Ups) : Bool := decide (0 ≤ u.1 ∧ u.1 ≤ 1000) && decide (u.2.length ≤ 20) && (List.range u.2.length).all (upOk u.1 u.2)
theorem s_UpsOk_eq {u : D_Ups} (ho : Ok.ok u) : s_UpsOk u = some (upsOkB u) := by
  obtain ⟨e, l⟩ := u
  have hl : l.length ≤ 9223372036854775807 := ho.2.1
  have hl2 : ∀ x, x ∈ l → Ok.ok x := ho.2.2
  unfold s_UpsOk upsOkB
  simp only [l1In_eq, l9Node_eq, Option.bind_some]
  rw [whileP_all (n := l.length) (upOk e l) (some false) (some true)]
  · have h9 : decide (20 < (l.length : Int)) = !decide (l.length ≤ 20) := by rw [Bool.eq_iff_iff]; simp; omega
    rw [h9]
    cases decide (0 ≤ e ∧ e ≤ 1000) <;> cases decide (l.length ≤ 20) <;> cases (List.range l.length).all (upOk e l) <;> rfl
  · intro k hk
    have hx : l[k]? = some l[k] := List.getElem?_eq_getElem hk
    generalize l[k] = x at hx
    have hn : x.2.1.length ≤ 9223372036854775807 := (hl2 x (List.mem_of_getElem? hx)).2.1.1
    simp only [lt_dec hk, cond_true, idx_nat, hx, Option.bind_some, gbs]
    rw [whileP_all (n := x.2.1.length) (nodeOk x.2.1) (some (.inr false)) (some (.inl ((k + 1 : Nat) : Int)))]
    · have hno : (List.range x.2.1.length).all (nodeOk x.2.1) = nodesOk x.2.1 := rfl
      unfold upOk
      simp only [hx, hno]
      rcases Nat.eq_zero_or_pos k with h0 | h0
      · subst h0
        rw [gb_none _ _ _ (by simp)]
        cases decide ((x.1.size : Int) = 8) <;> cases decide ((x.2.1.length : Int) = 0) <;> cases decide (0 ≤ x.2.2 ∧ x.2.2 ≤ e) <;> cases nodesOk x.2.1 <;> simp
      · obtain ⟨r, hr1, hr2⟩ := prev_idx' hk hl h0
        have h5 : decide (0 < (k : Int)) = true := by simp; omega
        have h6 : decide (k = 0) = false := by simp; omega
        rw [hr1, hr2, h5, h6, gbs]
        simp only [Option.all_some]
        by_cases h7 : sLt r.1 x.1 = true <;> cases decide ((x.1.size : Int) = 8) <;> cases decide ((x.2.1.length : Int) = 0) <;> cases decide (0 ≤ x.2.2 ∧ x.2.2 ≤ e) <;> cases nodesOk x.2.1 <;> simp [h7]
    · intro j hj
      have hy : x.2.1[j]? = some x.2.1[j] := List.getElem?_eq_getElem hj
      generalize x.2.1[j] = y at hy
      simp only [lt_dec hj, cond_true, idx_nat, hy, Option.bind_some, gbs, wrap_succ (show j < 9223372036854775807 by omega)]
      unfold nodeOk
      simp only [hy]
      rcases Nat.eq_zero_or_pos j with h0 | h0
      · subst h0
        rw [gb_none _ _ _ (by simp)]
        cases decide (0 ≤ y ∧ y < 3) <;> simp
      · obtain ⟨r, hr1, hr2⟩ := prev_idx' hj hn h0
        have h5 : decide (0 < (j : Int)) = true := by simp; omega
        have h6 : decide (j = 0) = false := by simp; omega
        rw [hr1, hr2, h5, h6, gbs]
        simp only [Option.all_some]
        by_cases h7 : r < y
        · have h8 : decide (y ≤ r) = false := by simp; omega
          cases decide (0 ≤ y ∧ y < 3) <;> simp [h7, h8]
        · have h8 : decide (y ≤ r) = true := by simp; omega
          cases decide (0 ≤ y ∧ y < 3) <;> simp [h7, h8]
    · simp only [ge_dec, cond_false, wrap_succ (show k < 9223372036854775807 by omega)]
  · simp only [ge_dec]; rfl
theorem i_UpsOk_eq {u : D_Ups} (ho : Ok.ok u) : i_UpsOk u = some (upsOkB u) := by
  obtain ⟨e, l⟩ := u
  have hl : l.length ≤ 9223372036854775807 := ho.2.1
  have hl2 : ∀ x, x ∈ l → Ok.ok x := ho.2.2
  unfold i_UpsOk upsOkB
  simp only [within_eq, isRep_eq, Option.bind_some]
  rw [whileP_all (n := l.length) (upOk e l) (some false) (some (decide (0 ≤ e ∧ e ≤ 1000) && decide (l.length ≤ 20)))]
  · cases decide (0 ≤ e ∧ e ≤ 1000) <;> cases decide (l.length ≤ 20) <;> cases (List.range l.length).all (upOk e l) <;> rfl
  · intro k hk
    have hx : l[k]? = some l[k] := List.getElem?_eq_getElem hk
    generalize l[k] = x at hx
    have hn : x.2.1.length ≤ 9223372036854775807 := (hl2 x (List.mem_of_getElem? hx)).2.1.1
    simp only [lt_dec hk, cond_true, idx_nat, hx, Option.bind_some, gbs]
    rw [whileP_all (n := x.2.1.length) (nodeOk x.2.1) (some (.inr false)) (some (.inl ((k + 1 : Nat) : Int)))]
    · have hno : (List.range x.2.1.length).all (nodeOk x.2.1) = nodesOk x.2.1 := rfl
      unfold upOk
      simp only [hx, hno]
      rcases Nat.eq_zero_or_pos k with h0 | h0
      · subst h0
        rw [gb_none _ _ _ (by simp)]
        cases decide ((x.1.size : Int) = 8) <;> cases decide ((x.2.1.length : Int) = 0) <;> cases decide (0 ≤ x.2.2 ∧ x.2.2 ≤ e) <;> cases nodesOk x.2.1 <;> simp
      · obtain ⟨r, hr1, hr2⟩ := prev_idx' hk hl h0
        have h5 : decide (0 < (k : Int)) = true := by simp; omega
        have h6 : decide (k = 0) = false := by simp; omega
        rw [hr1, hr2, h5, h6, gbs]
        simp only [Option.all_some]
        by_cases h7 : sLt r.1 x.1 = true <;> cases decide ((x.1.size : Int) = 8) <;> cases decide ((x.2.1.length : Int) = 0) <;> cases decide (0 ≤ x.2.2 ∧ x.2.2 ≤ e) <;> cases nodesOk x.2.1 <;> simp [h7]
    · intro j hj
      have hy : x.2.1[j]? = some x.2.1[j] := List.getElem?_eq_getElem hj
      generalize x.2.1[j] = y at hy
      simp only [lt_dec hj, cond_true, idx_nat, hy, Option.bind_some, gbs, wrap_succ (show j < 9223372036854775807 by omega)]
      unfold nodeOk
      simp only [hy]
      rcases Nat.eq_zero_or_pos j with h0 | h0
      · subst h0
        rw [gb_none _ _ _ (by simp)]
        cases decide (0 ≤ y ∧ y < 3) <;> simp
      · obtain ⟨r, hr1, hr2⟩ := prev_idx' hj hn h0
        have h5 : decide (0 < (j : Int)) = true := by simp; omega
        have h6 : decide (j = 0) = false := by simp; omega
        rw [hr1, hr2, h5, h6, gbs]
        simp only [Option.all_some]
        by_cases h7 : r < y
        · have h8 : decide (y ≤ r) = false := by simp; omega
          cases decide (0 ≤ y ∧ y < 3) <;> simp [h7, h8]
        · have h8 : decide (y ≤ r) = true := by simp; omega
          cases decide (0 ≤ y ∧ y < 3) <;> simp [h7, h8]
    · simp only [ge_dec, cond_false, wrap_succ (show k < 9223372036854775807 by omega)]
  · have h9 : decide ((l.length : Int) ≤ 20) = decide (l.length ≤ 20) := by rw [Bool.eq_iff_iff]; simp; omega
    simp only [ge_dec, cond_false, h9]
/-- The first upload of a chunk. -/
def upFind (u : D_Ups) (c : ByteArray) : Option D_Up := u.2.find? fun x => decide (x.1 = c)
theorem s_l18At_eq {u : D_Ups} {c : ByteArray} (h : u.2.length ≤ 9223372036854775807) : s_l18At u c = some (firstI (fun x : D_Up => decide (x.1 = c)) u.2) := by
  unfold s_l18At
  rw [whileP_find (fun x : D_Up => decide (x.1 = c)) some h]
  · intro k x hx
    simp only [lt_dec (List.getElem?_eq_some_iff.1 hx).1, cond_true, idx_nat, hx, Option.bind_some]
    cases decide (x.1 = c) <;> rfl
  · simp only [ge_dec]; rfl
theorem i_Ups_at_eq {u : D_Ups} {c : ByteArray} (h : u.2.length ≤ 9223372036854775807) : i_Ups_at u c = some (firstI (fun x : D_Up => decide (x.1 = c)) u.2) := by
  unfold i_Ups_at sl_IndexFunc_implUpimplUp i_Ups_at_c1
  rw [whileP_find (fun x : D_Up => decide (x.1 = c)) some h]
  · rfl
  · intro k x hx
    simp only [lt_dec (List.getElem?_eq_some_iff.1 hx).1, cond_true, idx_nat, hx, Option.bind_some]
    cases decide (x.1 = c) <;> rfl
  · simp only [ge_dec]; rfl
def upNodes (u : D_Ups) (c : ByteArray) : List Int := match upFind u c with
  | some x => x.2.1
  | none => []
theorem i_Ups_nodes_eq {u : D_Ups} {c : ByteArray} (h : u.2.length ≤ 9223372036854775807) : i_Ups_nodes u c = some (upNodes u c) := by
  unfold i_Ups_nodes upNodes upFind
  simp only [Prod.eta, i_Ups_at_eq h, Option.bind_some]
  rcases firstI_find (fun x : D_Up => decide (x.1 = c)) u.2 with ⟨h1, h2⟩ | ⟨k, x, h1, h2, h3, _⟩
  · rw [h1, h2]; rfl
  · rw [h1, h3]
    simp only [show decide (0 ≤ (k : Int)) = true by simp, cond_true, idx_nat, h2, Option.bind_some]
noncomputable def upHasB (u : D_Ups) (c : ByteArray) : Int := if upsOkB u then ((upNodes u c).length : Int) else 0
theorem i_UpHas_eq {u : D_Ups} {c : ByteArray} (ho : Ok.ok u) : i_UpHas u c = some (upHasB u c) := by
  unfold i_UpHas upHasB
  simp only [Prod.eta, i_UpsOk_eq ho, Option.bind_some, i_Ups_nodes_eq ho.2.1]
  cases upsOkB u <;> rfl
end Go.Proofs.SL
/- from PL.lean -/
namespace Go.Proofs.SL
open Go
theorem l18Has_eq {l : List Int} {n : Int} (h : l.length ≤ 9223372036854775807) : s_l18Has l n = some (l.any fun x => decide (x = n)) := by
  unfold s_l18Has
  rw [whileP_find (fun x => decide (x = n)) (fun i => some (decide (0 ≤ i))) h, firstI_any]
  · intro k x hx
    simp only [lt_dec (List.getElem?_eq_some_iff.1 hx).1, cond_true, idx_nat, hx, Option.bind_some]
    cases decide (x = n) <;> simp
  · simp only [ge_dec]; rfl
theorem contains_eq {l : List Int} {n : Int} (h : l.length ≤ 9223372036854775807) : sl_Contains_intint l n = some (l.any fun x => decide (x = n)) := by
  unfold sl_Contains_intint sl_Index_intint
  rw [whileP_find (fun x => decide (x = n)) some h]
  · rw [Option.bind_some, firstI_any]
  · intro k x hx
    simp only [lt_dec (List.getElem?_eq_some_iff.1 hx).1, cond_true, idx_nat, hx, Option.bind_some, eq_comm (a := n)]
    cases decide (x = n) <;> rfl
  · simp only [ge_dec]; rfl
/-- The nodes that have it, and one more, or one less. -/
def withL (l : List Int) (n : Int) (b : Bool) : List Int := [0, 1, 2].filter fun k => (decide (k = n) && b) || (!decide (k = n) && l.any fun x => decide (x = k))
theorem l18With_eq {l : List Int} {n : Int} {b : Bool} (h : l.length ≤ 9223372036854775807) : s_l18With l n b = some (withL l n b) := by
  unfold s_l18With
  simp only [Option.bind_some]
  rw [whileP_for (l := [0, 1, 2]) (fun k (t : List Int) => (t, (k : Int))) (fun t x => .inl (if ((decide (x = n) && b) || (!decide (x = n) && l.any fun y => decide (y = x))) then t ++ [x] else t)) (fun t => some t) (fun k t => t.length ≤ k) [] (s0 := ([], 0)) rfl (Nat.le_refl _), goE_fold, foldl_filter']
  · rfl
  · intro k t x hx hI
    have hk : k < 3 ∧ x = (k : Int) := by
      match k, hx with
      | 0, hx => cases hx; simp
      | 1, hx => cases hx; simp
      | 2, hx => cases hx; simp
    obtain ⟨hk, rfl⟩ := hk
    refine .inl ⟨_, rfl, ?_, ?_⟩
    · simp only [show decide ((k : Int) < 3) = true by simp; omega, cond_true, l18Has_eq h, wrap_succ (show k < 9223372036854775807 by omega)]
      rw [appP_ok (by simp; omega)]
      cases decide ((k : Int) = n) <;> cases b <;> cases (l.any fun y => decide (y = (k : Int))) <;> rfl
    · split
      · simp; omega
      · omega
  · intro t ht
    rfl
theorem s_l18Copy_eq {d : D_Ups} (h1 : d.2.length ≤ 1000) (h2 : ∀ s, s ∈ d.2 → s.2.1.length ≤ 1000) : s_l18Copy d = some d := by
  obtain ⟨a, l⟩ := d
  unfold s_l18Copy
  rw [whileP_for (l := l) (fun k (t : List D_Up) => ((k : Int), t)) (fun t x => .inl (t ++ [x])) (fun t => some (a, t)) (fun k t => t.length = k) [] (s0 := (0, [])) rfl rfl, goE_app]
  · rfl
  · intro k t x hx ht
    have hlt := (List.getElem?_eq_some_iff.1 hx).1
    have hm := h2 x (List.mem_of_getElem? hx)
    dsimp only at h1 hm ht
    refine .inl ⟨t ++ [x], rfl, ?_, by simp [ht]⟩
    simp only [lt_dec hlt, cond_true, idx_nat, hx, Option.bind_some, appP_ok (a := ([] : List Int)) (b := x.2.1) (by simp; omega), List.nil_append, wrap_succ (show k < 9223372036854775807 by omega)]
    rw [appP_ok (by simp; omega)]; rfl
  · intro t ht
    simp
theorem i_copyUps_eq {d : D_Ups} (h1 : d.2.length ≤ 1000) (h2 : ∀ s, s ∈ d.2 → s.2.1.length ≤ 1000) : i_copyUps d = some d := by
  obtain ⟨a, l⟩ := d
  unfold i_copyUps
  rw [whileP_for (l := l) (fun k (t : List D_Up) => ((k : Int), t)) (fun t x => .inl (t ++ [x])) (fun t => some (a, t)) (fun k t => t.length = k) [] (s0 := (0, [])) rfl rfl, goE_app]
  · rfl
  · intro k t x hx ht
    have hlt := (List.getElem?_eq_some_iff.1 hx).1
    have hm := h2 x (List.mem_of_getElem? hx)
    dsimp only at h1 hm ht
    refine .inl ⟨t ++ [x], rfl, ?_, by simp [ht]⟩
    simp only [lt_dec hlt, cond_true, idx_nat, hx, Option.bind_some, appP_ok (a := ([] : List Int)) (b := x.2.1) (by simp; omega), List.nil_append, wrap_succ (show k < 9223372036854775807 by omega)]
    rw [appP_ok (by simp; omega)]; rfl
  · intro t ht
    simp
theorem upsOk_facts {d : D_Ups} (h : upsOkB d = true) : (0 ≤ d.1 ∧ d.1 ≤ 1000) ∧ d.2.length ≤ 20 ∧ (∀ x, x ∈ d.2 → x.1.size = 8 ∧ x.2.1.length ≠ 0 ∧ (0 ≤ x.2.2 ∧ x.2.2 ≤ d.1) ∧ nodesOk x.2.1 = true) ∧ d.2.Pairwise (fun a b => sLt a.1 b.1 = true) := by
  unfold upsOkB at h
  simp only [Bool.and_eq_true, decide_eq_true_eq, List.all_eq_true, List.mem_range] at h
  refine ⟨h.1.1, h.1.2, fun x hx => ?_, pairwise_of_step (R := fun a b : D_Up => sLt a.1 b.1 = true) (fun a b c => sLt_trans) d.2 fun k hk => ?_⟩
  · obtain ⟨k, hk⟩ := List.getElem?_of_mem hx
    have := h.2 k (List.getElem?_eq_some_iff.1 hk).1
    unfold upOk at this
    rw [hk] at this
    simp only [Bool.and_eq_true, decide_eq_true_eq, Bool.not_eq_true', decide_eq_false_iff_not] at this
    exact ⟨by omega, by omega, this.1.2, this.2⟩
  · have := h.2 (k + 1) hk
    unfold upOk at this
    rw [List.getElem?_eq_getElem hk] at this
    simp only [Bool.and_eq_true, decide_eq_true_eq, Bool.or_eq_true, Nat.add_sub_cancel, List.getElem?_eq_getElem (show k < d.2.length by omega), Option.all_some] at this
    rcases this.1.1.1.2 with h2 | h2
    · omega
    · exact h2
end Go.Proofs.SL
/- from PL2.lean -/
namespace Go.Proofs.SL
open Go
/-- Setting the upload of a chunk. -/
def setU (x : D_Up) : List D_Up → List D_Up
  | [] => [x]
  | y :: ys => if sLt y.1 x.1 then y :: setU x ys else x :: (y :: ys).filter fun z => !decide (z.1 = x.1)
def setStep (x : D_Up) (t : Bool × List D_Up) (y : D_Up) : Bool × List D_Up :=
  let t1 := if !t.1 && !sLt y.1 x.1 then (true, t.2 ++ [x]) else t
  if decide (y.1 = x.1) then t1 else (t1.1, t1.2 ++ [y])
theorem setStep_put (x : D_Up) : ∀ (ys acc : List D_Up), ys.foldl (setStep x) (true, acc) = (true, acc ++ ys.filter fun z => !decide (z.1 = x.1))
  | [], acc => by simp
  | y :: ys, acc => by
    rw [List.foldl_cons]
    unfold setStep
    simp only [Bool.not_true, Bool.false_and, Bool.false_eq_true, if_false]
    cases h : decide (y.1 = x.1) with
    | true => simp only [if_true]; rw [show (true, acc) = ((true, acc) : Bool × List D_Up) from rfl]; have := setStep_put x ys acc; unfold setStep at this; simp only at this ⊢; rw [this]; simp [h]
    | false => have := setStep_put x ys (acc ++ [y]); unfold setStep at this; simp only [Bool.false_eq_true, if_false] at this ⊢; rw [this]; simp [h]
theorem setStep_false (x : D_Up) : ∀ (ys acc : List D_Up), (let t := ys.foldl (setStep x) (false, acc); if !t.1 then t.2 ++ [x] else t.2) = acc ++ setU x ys
  | [], acc => by simp [setU]
  | y :: ys, acc => by
    rw [List.foldl_cons]
    cases h : sLt y.1 x.1 with
    | true =>
      have h1 : decide (y.1 = x.1) = false := decide_eq_false (sLt_ne h)
      have : setStep x (false, acc) y = (false, acc ++ [y]) := by unfold setStep; simp [h, h1]
      rw [this, setStep_false x ys (acc ++ [y])]
      simp [setU, h]
    | false =>
      have : setStep x (false, acc) y = setStep x (true, acc ++ [x]) y := by unfold setStep; simp [h]
      rw [this, ← List.foldl_cons, setStep_put]
      simp [setU, h]
theorem l18Set_eq {d : D_Ups} {x : D_Up} (h : d.2.length ≤ 1000) : s_l18Set d x = some (d.1, if x.2.1.length = 0 then d.2.filter (fun z => !decide (z.1 = x.1)) else setU x d.2) := by
  obtain ⟨e, l⟩ := d
  unfold s_l18Set
  rw [whileP_for (l := l) (fun k (t : Bool × List D_Up) => (t.1, (k : Int), t.2)) (fun t y => .inl (setStep x t y)) (fun t => some (e, if !t.1 then t.2 ++ [x] else t.2)) (fun k t => t.2.length ≤ 2 * k) (decide ((x.2.1.length : Int) = 0), []) (s0 := (decide ((x.2.1.length : Int) = 0), 0, [])) rfl (Nat.le_refl _), goE_fold]
  · by_cases h0 : x.2.1.length = 0
    · rw [if_pos h0, show decide ((x.2.1.length : Int) = 0) = true by simp [h0], setStep_put]; simp
    · rw [if_neg h0, show decide ((x.2.1.length : Int) = 0) = false by simp [h0]]
      have := setStep_false x l []
      rw [List.nil_append] at this
      exact congrArg (fun q => some (e, q)) this
  · intro k t y hy hI
    have hlt := (List.getElem?_eq_some_iff.1 hy).1
    dsimp only at h hI
    refine .inl ⟨_, rfl, ?_, ?_⟩
    · simp only [lt_dec hlt, cond_true, idx_nat, hy, Option.bind_some, wrap_succ (show k < 9223372036854775807 by omega), appP_ok (a := t.2) (b := [(x.1, x.2.1, x.2.2)]) (by simp; omega), gbs]
      unfold setStep
      obtain ⟨b, acc⟩ := t
      dsimp only at hI ⊢
      cases b <;> cases hs : sLt y.1 x.1 <;> cases hd : decide (y.1 = x.1) <;> (simp [jbind, gb, hs]; try rw [appP_ok (by simp; omega)]; try simp)
    · unfold setStep
      dsimp only
      split <;> split <;> (try simp) <;> omega
  · intro t ht
    dsimp only at h ht
    simp only [ge_dec, cond_false]
    obtain ⟨b, acc⟩ := t
    dsimp only at ht ⊢
    cases b
    · simp only [Bool.not_false, cond_true, if_true]
      rw [appP_ok (by simp; omega)]; rfl
    · rfl
end Go.Proofs.SL
/- from PL3.lean -/
namespace Go.Proofs.SL
open Go
theorem sorted_ext : ∀ {l m : List Int}, l.Pairwise (· < ·) → m.Pairwise (· < ·) → (∀ x, x ∈ l ↔ x ∈ m) → l = m
  | [], [], _, _, _ => rfl
  | [], b :: m, _, _, h => absurd ((h b).2 (List.mem_cons_self ..)) (by simp)
  | a :: l, [], _, _, h => absurd ((h a).1 (List.mem_cons_self ..)) (by simp)
  | a :: l, b :: m, h1, h2, h => by
    obtain ⟨h3, h4⟩ := List.pairwise_cons.1 h1
    obtain ⟨h5, h6⟩ := List.pairwise_cons.1 h2
    have hab : a = b := by
      rcases List.mem_cons.1 ((h a).1 (List.mem_cons_self ..)) with e | e
      · exact e
      · rcases List.mem_cons.1 ((h b).2 (List.mem_cons_self ..)) with e2 | e2
        · exact e2.symm
        · have := h5 a e; have := h3 b e2; omega
    subst hab
    rw [sorted_ext h4 h6 fun x => ⟨fun hx => ?_, fun hx => ?_⟩]
    · rcases List.mem_cons.1 ((h x).1 (List.mem_cons_of_mem _ hx)) with e | e
      · have := h3 x hx; omega
      · exact e
    · rcases List.mem_cons.1 ((h x).2 (List.mem_cons_of_mem _ hx)) with e | e
      · have := h5 x hx; omega
      · exact e
theorem any_mem {l : List Int} {n : Int} : (l.any fun x => decide (x = n)) = true ↔ n ∈ l := by
  simp [List.any_eq_true]
theorem withL_sorted (l : List Int) (n : Int) (b : Bool) : (withL l n b).Pairwise (· < ·) := by
  unfold withL
  refine List.Pairwise.filter _ ?_
  simp
theorem mem_withL {l : List Int} {n x : Int} {b : Bool} : x ∈ withL l n b ↔ (0 ≤ x ∧ x < 3) ∧ ((x = n ∧ b = true) ∨ (x ≠ n ∧ x ∈ l)) := by
  unfold withL
  rw [List.mem_filter]
  have h3 : x ∈ ([0, 1, 2] : List Int) ↔ (0 ≤ x ∧ x < 3) := by simp; omega
  rw [h3]
  simp only [Bool.or_eq_true, Bool.and_eq_true, decide_eq_true_eq, Bool.not_eq_true', decide_eq_false_iff_not, any_mem]
theorem withL_out {l : List Int} {n : Int} (h1 : ∀ x, x ∈ l → 0 ≤ x ∧ x < 3) (h2 : l.Pairwise (· < ·)) : withL l n false = l.filter fun x => !decide (x = n) := by
  refine sorted_ext (withL_sorted ..) (List.Pairwise.filter _ h2) fun x => ?_
  rw [mem_withL, List.mem_filter]
  simp only [Bool.false_eq_true, and_false, false_or, Bool.not_eq_true', decide_eq_false_iff_not]
  constructor
  · rintro ⟨_, h4, h5⟩; exact ⟨h5, h4⟩
  · rintro ⟨h5, h4⟩; exact ⟨h1 x h5, h4, h5⟩
theorem filter_ne {l : List D_Up} {k : Nat} {y : D_Up} (hs : l.Pairwise (fun a b => sLt a.1 b.1 = true)) (hk : l[k]? = some y) : l.filter (fun z => !decide (z.1 = y.1)) = l.eraseIdx k := by
  induction l generalizing k with
  | nil => cases hk
  | cons a l ih =>
    obtain ⟨h1, h2⟩ := List.pairwise_cons.1 hs
    cases k with
    | zero =>
      cases hk
      rw [List.filter_cons, if_neg (by simp), List.eraseIdx_cons_zero, List.filter_eq_self.2 fun z hz => ?_]
      have := sLt_ne (h1 z hz)
      simp [Ne.symm this]
    | succ k =>
      have hk' : l[k]? = some y := hk
      have := sLt_ne (h1 y (List.mem_of_getElem? hk'))
      rw [List.filter_cons, if_pos (by simp [this]), List.eraseIdx_cons_succ, ih h2 hk']
theorem setU_at {l : List D_Up} {k : Nat} {x y : D_Up} (hs : l.Pairwise (fun a b => sLt a.1 b.1 = true)) (hk : l[k]? = some y) (hc : x.1 = y.1) : setU x l = l.set k x := by
  induction l generalizing k with
  | nil => cases hk
  | cons a l ih =>
    obtain ⟨h1, h2⟩ := List.pairwise_cons.1 hs
    cases k with
    | zero =>
      cases hk
      rw [setU, hc, sLt_irrefl, List.set_cons_zero]
      have := filter_ne (k := 0) (y := y) hs rfl
      simp only [Bool.false_eq_true, if_false, this, List.eraseIdx_cons_zero]
    | succ k =>
      have hk' : l[k]? = some y := hk
      have := h1 y (List.mem_of_getElem? hk')
      rw [setU, hc, this, if_pos rfl, List.set_cons_succ, ih h2 hk']
noncomputable def upLostD (d : D_Ups) (c : ByteArray) (n : Int) : D_Ups × Bool :=
  if upsOkB d then
    match d.2.findIdx? (fun s => decide (s.1 = c)) with
    | none => (d, false)
    | some k => match d.2[k]? with
      | none => (d, false)
      | some x => if x.2.1.any (fun y => decide (y = n)) then
          let ns := x.2.1.filter fun y => !decide (y = n)
          ((d.1, if ns.length = 0 then d.2.eraseIdx k else d.2.set k (x.1, ns, x.2.2)), true)
        else (d, false)
  else ((0, []), false)
theorem ups_copy {d : D_Ups} (h : upsOkB d = true) : s_l18Copy d = some d ∧ i_copyUps d = some d := by
  obtain ⟨_, h1, h2, _⟩ := upsOk_facts h
  have h3 : ∀ s, s ∈ d.2 → s.2.1.length ≤ 1000 := fun s hs => by
    obtain ⟨h4, h5⟩ := nodesOk_facts (h2 s hs).2.2.2
    have := nodes_le h4 h5
    omega
  exact ⟨s_l18Copy_eq (by omega) h3, i_copyUps_eq (by omega) h3⟩
theorem s_UpLost_eq {d : D_Ups} {c : ByteArray} {n : Int} (ho : Ok.ok d) : s_UpLost d c n = some (upLostD d c n) := by
  unfold s_UpLost upLostD
  have hl : d.2.length ≤ 9223372036854775807 := ho.2.1
  simp only [Prod.eta, s_UpsOk_eq ho, Option.bind_some]
  cases hk : upsOkB d with
  | false => rfl
  | true =>
    obtain ⟨h1, h2, h3, h4⟩ := upsOk_facts hk
    simp only [Bool.not_true, cond_false, (ups_copy hk).1, Option.bind_some, s_l18At_eq hl, if_true]
    cases hf : d.2.findIdx? (fun s : D_Up => decide (s.1 = c)) with
    | none => rw [firstI_none hf]; rfl
    | some k =>
      obtain ⟨hlt, hc, _⟩ := List.findIdx?_eq_some_iff_getElem.1 hf
      rw [firstI_some hf]
      have hx : d.2[k]? = some d.2[k] := List.getElem?_eq_getElem hlt
      generalize d.2[k] = x at hx hc
      have hn := (h3 x (List.mem_of_getElem? hx)).2.2.2
      obtain ⟨hn1, hn2⟩ := nodesOk_facts hn
      have hnl := nodes_le hn1 hn2
      simp only [show decide ((k : Int) < 0) = false by simp, idx_nat, hx, Option.bind_some, gb, Bool.not_false, Bool.false_or, l18Has_eq (l := x.2.1) (n := n) (by omega)]
      cases hh : x.2.1.any fun y => decide (y = n) with
      | false => rfl
      | true =>
        simp only [Bool.not_true, cond_false, if_true, l18With_eq (l := x.2.1) (n := n) (b := false) (by omega), Option.bind_some, l18Set_eq (show d.2.length ≤ 1000 by omega), withL_out hn1 hn2]
        by_cases h0 : (x.2.1.filter fun y => !decide (y = n)).length = 0
        · rw [if_pos h0, if_pos h0, filter_ne h4 hx]
        · rw [if_neg h0, if_neg h0, setU_at (x := (x.1, x.2.1.filter (fun y => !decide (y = n)), x.2.2)) h4 hx rfl]
end Go.Proofs.SL
/- from PWi.lean -/
namespace Go.Proofs.SL
open Go
theorem sortI_with {l : List Int} {n : Int} (h1 : ∀ x, x ∈ l → 0 ≤ x ∧ x < 3) (h2 : l.Pairwise (· < ·)) (hn : 0 ≤ n ∧ n < 3) : ((if l.any (fun x => decide (x = n)) then l else l ++ [n]).mergeSort fun x y => decide (x ≤ y)) = withL l n true := by
  generalize hm : (if l.any (fun x => decide (x = n)) then l else l ++ [n]) = m
  have hmem : ∀ x, x ∈ m ↔ x = n ∨ x ∈ l := by
    intro x
    subst hm
    split
    · rename_i h
      constructor
      · exact .inr
      · rintro (h3 | h3)
        · subst h3; exact any_mem.1 h
        · exact h3
    · rw [List.mem_append, List.mem_singleton]; exact Or.comm
  have hnd : m.Nodup := by
    have hl : l.Nodup := h2.imp fun h => by omega
    subst hm
    split
    · exact hl
    · rename_i h
      rw [List.nodup_append]
      refine ⟨hl, by simp, fun a ha b hb => ?_⟩
      obtain rfl := List.mem_singleton.1 hb
      intro e; subst e
      exact h (any_mem.2 ha)
  refine sorted_ext ?_ (withL_sorted ..) fun x => ?_
  · have hp : (m.mergeSort fun x y => decide (x ≤ y)).Pairwise fun a b => decide (a ≤ b) = true := List.pairwise_mergeSort (by
      intro a b c h3 h4
      simp only [decide_eq_true_eq] at *
      omega) (by
      intro a b
      simp only [Bool.or_eq_true, decide_eq_true_eq]
      omega) m
    have hnd2 : (m.mergeSort fun x y => decide (x ≤ y)).Nodup := (List.mergeSort_perm m _).nodup_iff.2 hnd
    refine (hp.and hnd2).imp fun {a b} ⟨h3, h4⟩ => ?_
    simp only [decide_eq_true_eq] at h3
    omega
  · rw [List.mem_mergeSort, hmem, mem_withL]
    constructor
    · rintro (h | h)
      · subst h; exact ⟨hn, .inl ⟨rfl, rfl⟩⟩
      · by_cases e : x = n
        · subst e; exact ⟨hn, .inl ⟨rfl, rfl⟩⟩
        · exact ⟨h1 x h, .inr ⟨e, h⟩⟩
    · rintro ⟨_, ⟨h, _⟩ | ⟨_, h⟩⟩
      · exact .inl h
      · exact .inr h
theorem i_with_eq {l : List Int} {n : Int} (h1 : ∀ x, x ∈ l → 0 ≤ x ∧ x < 3) (h2 : l.Pairwise (· < ·)) (hn : 0 ≤ n ∧ n < 3) : i_with l n = some (withL l n true) := by
  have hl := nodes_le h1 h2
  unfold i_with
  rw [appP_ok (by simp; omega)]
  simp only [List.nil_append, Option.bind_some]
  rw [contains_eq (by omega), Option.bind_some, ← sortI_with h1 h2 hn]
  cases h : l.any fun x => decide (x = n) with
  | true =>
    simp only [Bool.not_true, cond_false, if_true]
    unfold sortIP
    rw [if_pos (by omega)]; rfl
  | false =>
    simp only [Bool.not_false, cond_true, Bool.false_eq_true, if_false]
    rw [appP_ok (by simp; omega), Option.bind_some]
    unfold sortIP
    rw [if_pos (by simp; omega)]; rfl
end Go.Proofs.SL
/- from PUk.lean -/
namespace Go.Proofs.SL
open Go
noncomputable def ackSet (d : D_Ups) (c : ByteArray) (n : Int) : D_Ups := (d.1, setU (c, withL (upNodes d c) n true, d.1) d.2)
noncomputable def upAckD (d : D_Ups) (c : ByteArray) (n : Int) : D_Ups × Bool :=
  if upsOkB d then (if decide (0 ≤ n ∧ n < 3) && upsOkB (ackSet d c n) then (ackSet d c n, true) else (d, false)) else ((0, []), false)
theorem setU_mem {x z : D_Up} : ∀ {l : List D_Up}, z ∈ setU x l → z = x ∨ z ∈ l
  | [], h => .inl (by simpa [setU] using h)
  | y :: ys, h => by
    unfold setU at h
    split at h
    · rcases List.mem_cons.1 h with h | h
      · exact .inr (by rw [h]; exact List.mem_cons_self ..)
      · rcases setU_mem h with h | h
        · exact .inl h
        · exact .inr (List.mem_cons_of_mem _ h)
    · rcases List.mem_cons.1 h with h | h
      · exact .inl h
      · exact .inr (List.mem_filter.1 h).1
theorem setU_len (x : D_Up) : ∀ l : List D_Up, (setU x l).length ≤ l.length + 1
  | [] => by simp [setU]
  | y :: ys => by
    unfold setU
    split
    · have := setU_len x ys; simp only [List.length_cons]; omega
    · have := List.length_filter_le (fun z => !decide (z.1 = x.1)) (y :: ys); simp only [List.length_cons] at this ⊢; omega
theorem withL_len (l : List Int) (n : Int) (b : Bool) : (withL l n b).length ≤ 3 := by
  unfold withL
  have := List.length_filter_le (fun k : Int => (decide (k = n) && b) || (!decide (k = n) && l.any fun x => decide (x = k))) [0, 1, 2]
  simpa using this
theorem withL_range {l : List Int} {n x : Int} {b : Bool} (h : x ∈ withL l n b) : 0 ≤ x ∧ x < 3 := (mem_withL.1 h).1
theorem ackSet_ok {d : D_Ups} {c : ByteArray} {n : Int} (ho : Ok.ok d) (hl : d.2.length ≤ 1000) (hc : c.size ≤ 9223372036854775807) : Ok.ok (ackSet d c n) := by
  refine ⟨ho.1, by have := setU_len (c, withL (upNodes d c) n true, d.1) d.2; show (setU _ d.2).length ≤ _; omega, fun z hz => ?_⟩
  rcases setU_mem hz with rfl | hz
  · refine ⟨hc, ⟨by have := withL_len (upNodes d c) n true; show (withL _ _ _).length ≤ _; omega, fun x hx => ?_⟩, ho.1⟩
    have := withL_range hx
    show inR x
    unfold inR; omega
  · exact ho.2.2 z hz
theorem upNodes_small {d : D_Ups} {c : ByteArray} (h : upsOkB d = true) : (∀ n, n ∈ upNodes d c → 0 ≤ n ∧ n < 3) ∧ (upNodes d c).Pairwise (· < ·) := by
  obtain ⟨_, _, h2, _⟩ := upsOk_facts h
  unfold upNodes upFind
  cases hf : d.2.find? (fun x : D_Up => decide (x.1 = c)) with
  | none => exact ⟨fun n hn => (by cases hn), List.Pairwise.nil⟩
  | some x => exact nodesOk_facts (h2 x (List.mem_of_find?_eq_some hf)).2.2.2
theorem s_ack_tail {d : D_Ups} {c : ByteArray} {n : Int} (ho : Ok.ok d) (hc : c.size ≤ 9223372036854775807) (h : upsOkB d = true) :
    (Option.bind (s_l18With (upNodes d c) n true) (fun y8 => Option.bind (s_l18Copy (d.1, d.2)) (fun y9 => Option.bind (s_l18Set (y9.1, y9.2) (c, y8, d.1)) (fun y10 => Option.bind (s_l9Node n) (fun y11 => gb (!(!y11)) (s_UpsOk (y10.1, y10.2)) (fun y12 => cond ((!y11) || (!y12)) (Option.bind (s_l18Copy (d.1, d.2)) (fun y14 => some ((y14.1, y14.2), false))) (some ((y10.1, y10.2), true)))))))) =
      some (if decide (0 ≤ n ∧ n < 3) && upsOkB (ackSet d c n) then (ackSet d c n, true) else (d, false)) := by
  have hl := (upsOk_facts h).2.1
  have hu := upNodes_small (c := c) h
  have hn3 := nodes_le hu.1 hu.2
  rw [l18With_eq (by omega), Option.bind_some, (ups_copy h).1, Option.bind_some, l18Set_eq (by show d.2.length ≤ 1000; omega), Option.bind_some, l9Node_eq, Option.bind_some]
  cases hn : decide (0 ≤ n ∧ n < 3) with
  | false =>
    rw [gb_none (!(!false)) _ _ rfl]
    simp only [Bool.not_false, Bool.true_or, cond_true, Bool.false_and, Bool.false_eq_true, if_false, Option.bind_some]
  | true =>
    have hv : 0 ≤ n ∧ n < 3 := of_decide_eq_true hn
    have hmem : n ∈ withL (upNodes d c) n true := mem_withL.2 ⟨hv, .inl ⟨rfl, rfl⟩⟩
    have hne : (withL (upNodes d c) n true).length ≠ 0 := fun e => by rw [List.eq_nil_of_length_eq_zero e] at hmem; cases hmem
    have hne' : ((c, withL (upNodes d c) n true, d.1) : D_Up).2.1.length ≠ 0 := hne
    rw [gb_yes (!(!true)) _ _ rfl, if_neg hne']
    rw [show s_UpsOk (((d.1, d.2) : D_Ups).1, setU (c, withL (upNodes d c) n true, d.1) ((d.1, d.2) : D_Ups).2) = some (upsOkB (ackSet d c n)) from s_UpsOk_eq (ackSet_ok ho (by show d.2.length ≤ 1000; omega) hc), Option.bind_some]
    cases hb : upsOkB (ackSet d c n) with
    | true => rfl
    | false => rfl
theorem s_UpAck_eq {d : D_Ups} {c : ByteArray} {n : Int} (ho : Ok.ok d) (hc : Ok.ok c) : s_UpAck d c n = some (upAckD d c n) := by
  have hc' : c.size ≤ 9223372036854775807 := hc
  unfold s_UpAck upAckD
  rw [show s_UpsOk (d.1, d.2) = some (upsOkB d) from s_UpsOk_eq ho, Option.bind_some]
  cases h : upsOkB d with
  | false => rfl
  | true =>
    have hl := (upsOk_facts h).2.1
    simp only [Bool.not_true, cond_false, if_true]
    rw [show s_l18At (d.1, d.2) c = _ from s_l18At_eq (u := d) (by omega), Option.bind_some, Option.bind_some]
    rcases firstI_find (fun x : D_Up => decide (x.1 = c)) d.2 with ⟨h1, h2⟩ | ⟨k, u, h1, h2, h3⟩
    · have hu : upNodes d c = [] := by unfold upNodes upFind; rw [h2]
      rw [h1]
      simp only [show decide ((0 : Int) ≤ -1) = false from rfl, cond_false]
      have := s_ack_tail (n := n) ho hc' h
      rw [hu] at this
      exact this
    · have hu : upNodes d c = u.2.1 := by unfold upNodes upFind; rw [h3.1]
      rw [h1, show decide ((0 : Int) ≤ (k : Int)) = true from decide_eq_true (by omega)]
      simp only [cond_true]
      rw [idx_nat, h2, Option.bind_some]
      have := s_ack_tail (n := n) ho hc' h
      rw [hu] at this
      exact this
end Go.Proofs.SL
/- from PW.lean -/
namespace Go.Proofs.SL
open Go
/-- Byte k of a text is a small letter. -/
def letter (s : ByteArray) (k : Nat) : Bool := match sidx s (k : Int) with
  | some n => !(decide (n < 97) || decide (122 < n))
  | none => false
def isWordB (s : ByteArray) : Bool := decide (1 ≤ (s.size : Int) ∧ (s.size : Int) ≤ 8) && (List.range s.size).all (letter s)
theorem word_loop {β : Type} {s : ByteArray} {no yes : Option β} {f : Int → Option (Int ⊕ β)} (hl : s.size ≤ 9223372036854775807)
    (hf : ∀ (k : Nat) (n : Int), k < s.size → sidx s (k : Int) = some n → f (k : Int) = if !(decide (n < 97) || decide (122 < n)) then some (.inl (IntKind.wrap .i64 ((k : Int) + 1))) else no.map .inr) (hn : f (s.size : Int) = yes.map .inr) :
    whileP f 0 = if (List.range s.size).all (letter s) then yes else no := by
  refine whileP_all (letter s) no yes (fun k hk => ?_) hn
  obtain ⟨n, hs, _, _⟩ := sidx_lt hk
  rw [hf k n hk hs, wrap_succ (by omega)]
  unfold letter
  rw [hs]
theorem s_l4Word_eq {s : ByteArray} (hl : s.size ≤ 9223372036854775807) : s_l4Word s = some (isWordB s) := by
  unfold s_l4Word isWordB
  rw [l1In_eq]
  cases h : decide (1 ≤ (s.size : Int) ∧ (s.size : Int) ≤ 8) with
  | false => rfl
  | true =>
    simp only [Option.bind_some, Bool.not_true, cond_false, Bool.true_and]
    rw [word_loop (no := some false) (yes := some true) hl]
    · cases (List.range s.size).all (letter s) <;> rfl
    · intro k n hk hs
      simp only [lt_dec hk, cond_true, hs, Option.bind_some]
      rw [show ∀ (g : Bool) (q : Int → Option (Int ⊕ Bool)), gb g (some n) q = if g then q n else q default from fun g q => by cases g <;> rfl]
      cases decide (n < 97) <;> cases decide (122 < n) <;> rfl
    · simp only [ge_dec]; rfl
theorem i_isWord_eq {s : ByteArray} (hl : s.size ≤ 9223372036854775807) : i_isWord s = some (isWordB s) := by
  unfold i_isWord isWordB
  simp only [within_eq, Option.bind_some]
  rw [word_loop (no := some false) (yes := some (decide (1 ≤ (s.size : Int) ∧ (s.size : Int) ≤ 8))) hl]
  · cases (List.range s.size).all (letter s) <;> simp
  · intro k n hk hs
    simp only [lt_dec hk, cond_true, hs, Option.bind_some]
    rw [show ∀ (g : Bool) (q : Int → Option (Int ⊕ Bool)), gb g (some n) q = if g then q n else q default from fun g q => by cases g <;> rfl]
    cases decide (n < 97) <;> cases decide (122 < n) <;> rfl
  · simp only [ge_dec]; rfl
def areChunksB (l : List ByteArray) : Bool := l.all fun c => decide ((c.size : Int) = 8)
theorem i_areChunks_eq {l : List ByteArray} (hl : l.length ≤ 9223372036854775807) : i_areChunks l = some (areChunksB l) := by
  unfold i_areChunks areChunksB
  rw [each_loop (p := fun c => decide ((c.size : Int) = 8)) (no := some false) (yes := some true) hl]
  · cases l.all _ <;> rfl
  · intro k x hx
    simp only [lt_dec (List.getElem?_eq_some_iff.1 hx).1, cond_true, idx_nat, hx, Option.bind_some]
    cases decide ((x.size : Int) = 8) <;> rfl
  · simp only [ge_dec]; rfl
end Go.Proofs.SL
/- from PQ.lean -/
namespace Go.Proofs.SL
open Go
theorem bl_lt : ∀ (a b : List UInt8), Op.bytesLess a b = decide (a < b)
  | [], [] => by simp [Op.bytesLess]
  | a :: as1, [] => by simp [Op.bytesLess]
  | [], b :: bs1 => by simp [Op.bytesLess]
  | a :: as1, b :: bs1 => by
    rw [Op.bytesLess, bl_lt as1 bs1, Bool.eq_iff_iff]
    simp only [Bool.or_eq_true, Bool.and_eq_true, decide_eq_true_eq, beq_iff_eq, List.cons_lt_cons_iff]
theorem bl_le (a b : List UInt8) : decide (a ≤ b) = !Op.bytesLess b a := by
  rw [bl_lt, Bool.eq_iff_iff]
  simp only [decide_eq_true_eq, Bool.not_eq_true', decide_eq_false_iff_not]
  exact Iff.rfl
theorem bl_le_trans {a b c : List UInt8} (h1 : Op.bytesLess b a = false) (h2 : Op.bytesLess c b = false) : Op.bytesLess c a = false := by
  cases h : Op.bytesLess c a with
  | false => rfl
  | true =>
    cases h3 : Op.bytesLess b c with
    | true => rw [← bl_trans h3 h, h1]
    | false => rw [← bl_tri h2 h3, h] at h1; cases h1
theorem msort_sorted (l : List (List UInt8)) : (l.mergeSort fun x y => decide (x ≤ y)).Pairwise fun a b => Op.bytesLess b a = false := by
  have := List.pairwise_mergeSort (le := fun x y : List UInt8 => decide (x ≤ y)) (by
    intro a b c h1 h2
    rw [bl_le, Bool.not_eq_true'] at h1 h2 ⊢
    exact bl_le_trans h1 h2) (by
    intro a b
    rw [bl_le, bl_le, Bool.or_eq_true, Bool.not_eq_true', Bool.not_eq_true']
    cases h : Op.bytesLess b a with
    | false => exact .inl rfl
    | true =>
      cases h2 : Op.bytesLess a b with
      | false => exact .inr rfl
      | true => have := bl_trans h h2; rw [bl_irrefl] at this; cases this) l
  exact this.imp fun h => by rw [bl_le, Bool.not_eq_true'] at h; exact h
theorem compactUpTo_sorted {zs : List (List UInt8)} (hs : zs.Pairwise fun a b => Op.bytesLess b a = false) : ∀ m, m ≤ zs.length →
    (Lib.compactUpTo zs.toArray m).Pairwise (fun a b => Op.bytesLess a b = true) ∧ (∀ x, x ∈ Lib.compactUpTo zs.toArray m ↔ x ∈ zs.take m)
  | 0, _ => ⟨List.Pairwise.nil, fun x => by simp [Lib.compactUpTo]⟩
  | m + 1, hm => by
    obtain ⟨ih1, ih2⟩ := compactUpTo_sorted hs m (by omega)
    have hx : zs[m]? = some zs[m] := List.getElem?_eq_getElem (by omega)
    have hxa : zs.toArray[m]! = zs[m] := by simp [hx]
    rw [Lib.compactUpTo_succ, List.take_add_one, hx, hxa]
    rcases Nat.eq_zero_or_pos m with h0 | h0
    · subst h0
      simp [Lib.compactUpTo, Lib.keeps]
    · have hp : zs.toArray[m - 1]! = zs[m - 1] := by simp [show m - 1 < zs.length by omega]
      have hle : ∀ y, y ∈ zs.take m → Op.bytesLess zs[m] y = false := fun y hy => by
        obtain ⟨j, hj⟩ := List.getElem?_of_mem hy
        have hjl := (List.getElem?_eq_some_iff.1 hj).1
        rw [List.length_take] at hjl
        rw [List.getElem?_take_of_lt (by omega)] at hj
        obtain ⟨h1, h2⟩ := List.getElem?_eq_some_iff.1 hj
        rw [← h2]
        exact List.pairwise_iff_getElem.1 hs j m h1 (by omega) (by omega)
      cases hk : Lib.keeps zs.toArray m with
      | true =>
        simp only [if_true, List.mem_append, List.mem_singleton, Option.toList_some, ih2]
        refine ⟨List.pairwise_append.2 ⟨ih1, List.pairwise_singleton _ _, fun a ha b hb => ?_⟩, fun x => by simp⟩
        obtain rfl := List.mem_singleton.1 hb
        have hne : zs[m] ≠ zs[m - 1] := by
          have : m = 0 ∨ zs.toArray[m]! ≠ zs.toArray[m - 1]! := of_decide_eq_true hk
          rcases this with h | h
          · omega
          · rwa [hxa, hp] at h
        have hprev : Op.bytesLess zs[m - 1] zs[m] = true := by
          cases h : Op.bytesLess zs[m - 1] zs[m] with
          | true => rfl
          | false => exact absurd (bl_tri (hle zs[m - 1] (List.mem_of_getElem? (i := m - 1) (by rw [List.getElem?_take_of_lt (by omega)]; exact List.getElem?_eq_getElem (by omega)))) h) hne
        have ha' := (ih2 a).1 ha
        obtain ⟨j, hj⟩ := List.getElem?_of_mem ha'
        have hjl := (List.getElem?_eq_some_iff.1 hj).1
        rw [List.length_take] at hjl
        rw [List.getElem?_take_of_lt (by omega)] at hj
        obtain ⟨h1, h2⟩ := List.getElem?_eq_some_iff.1 hj
        rcases Nat.lt_or_ge j (m - 1) with h3 | h3
        · have h4 := List.pairwise_iff_getElem.1 hs j (m - 1) h1 (by omega) h3
          rw [h2] at h4
          cases h5 : Op.bytesLess a zs[m - 1] with
          | true => exact bl_trans h5 hprev
          | false => rw [bl_tri h5 h4]; exact hprev
        · have : j = m - 1 := by omega
          subst this
          rw [← h2]; exact hprev
      | false =>
        have he : zs[m] = zs[m - 1] := by
          have : ¬(m = 0 ∨ zs.toArray[m]! ≠ zs.toArray[m - 1]!) := of_decide_eq_false hk
          rw [hxa, hp] at this
          exact Classical.byContradiction fun h => this (.inr h)
        simp only [Bool.false_eq_true, if_false, List.append_nil, Option.toList_some, List.mem_append, List.mem_singleton]
        refine ⟨ih1, fun x => by
          rw [ih2]
          constructor
          · exact .inl
          · rintro (h | h)
            · exact h
            · subst h
              rw [he]
              exact List.mem_of_getElem? (i := m - 1) (by rw [List.getElem?_take_of_lt (by omega)]; exact List.getElem?_eq_getElem (by omega))⟩
theorem compact_sorted {zs : List (List UInt8)} (hs : zs.Pairwise fun a b => Op.bytesLess b a = false) : (Lib.compact zs).Pairwise (fun a b => Op.bytesLess a b = true) ∧ ∀ x, x ∈ Lib.compact zs ↔ x ∈ zs := by
  have := compactUpTo_sorted hs zs.length (Nat.le_refl _)
  rw [List.take_length] at this
  exact this
/-- One list by its members, where it rises. -/
theorem ssorted_ext : ∀ {l m : List ByteArray}, l.Pairwise (fun a b => sLt a b = true) → m.Pairwise (fun a b => sLt a b = true) → (∀ x, x ∈ l ↔ x ∈ m) → l = m
  | [], [], _, _, _ => rfl
  | [], b :: m, _, _, h => absurd ((h b).2 (List.mem_cons_self ..)) (by simp)
  | a :: l, [], _, _, h => absurd ((h a).1 (List.mem_cons_self ..)) (by simp)
  | a :: l, b :: m, h1, h2, h => by
    obtain ⟨h3, h4⟩ := List.pairwise_cons.1 h1
    obtain ⟨h5, h6⟩ := List.pairwise_cons.1 h2
    have hab : a = b := by
      rcases List.mem_cons.1 ((h a).1 (List.mem_cons_self ..)) with e | e
      · exact e
      · rcases List.mem_cons.1 ((h b).2 (List.mem_cons_self ..)) with e2 | e2
        · exact e2.symm
        · have := sLt_asymm (h5 a e); rw [h3 b e2] at this; cases this
    subst hab
    rw [ssorted_ext h4 h6 fun x => ⟨fun hx => ?_, fun hx => ?_⟩]
    · rcases List.mem_cons.1 ((h x).1 (List.mem_cons_of_mem _ hx)) with e | e
      · exact absurd (e.symm) (sLt_ne (h3 x hx))
      · exact e
    · rcases List.mem_cons.1 ((h x).2 (List.mem_cons_of_mem _ hx)) with e | e
      · exact absurd (e.symm) (sLt_ne (h5 x hx))
      · exact e
theorem mk_data (s : ByteArray) : (⟨(s.data.toList).toArray⟩ : ByteArray) = s := by cases s; simp
theorem sLt_data (a b : ByteArray) : sLt a b = Op.bytesLess a.data.toList b.data.toList := by
  unfold sLt; rw [ByteArray.toList_eq, ByteArray.toList_eq]
/-- Sort, then Compact. -/
theorem sortCompact {l : List ByteArray} (h : l.length ≤ 4294967296) : ∃ m, (sortSP l).bind compactSP = some m ∧ m.Pairwise (fun a b => sLt a b = true) ∧ ∀ x, x ∈ m ↔ x ∈ l := by
  unfold sortSP
  rw [if_pos h, Option.bind_some]
  unfold compactSP
  rw [if_pos (by simpa using h)]
  refine ⟨_, rfl, ?_⟩
  rw [List.map_map]
  have e : ((fun s : ByteArray => s.data.toList) ∘ fun l : List UInt8 => (⟨l.toArray⟩ : ByteArray)) = id := by funext l; rfl
  rw [e, List.map_id]
  obtain ⟨h1, h2⟩ := compact_sorted (msort_sorted (l.map fun s => s.data.toList))
  refine ⟨List.pairwise_map.2 (h1.imp fun h => by rw [sLt_data]; exact h), fun x => ?_⟩
  rw [List.mem_map]
  constructor
  · rintro ⟨y, hy, rfl⟩
    have := (h2 y).1 hy
    rw [List.mem_mergeSort, List.mem_map] at this
    obtain ⟨s, hs, rfl⟩ := this
    rw [mk_data]; exact hs
  · intro hx
    exact ⟨x.data.toList, (h2 _).2 (List.mem_mergeSort.2 (List.mem_map.2 ⟨x, hx, rfl⟩)), mk_data x⟩
end Go.Proofs.SL
/- from PC.lean -/
namespace Go.Proofs.SL
open Go
def snapOkB (p : D_CSnap) : Bool := isWordB p.1 && (decide (p.2.1 = ByteArray.empty) || isWordB p.2.1) && decide (1 ≤ (p.2.2.length : Int) ∧ (p.2.2.length : Int) ≤ 4) && areChunksB p.2.2
def snapAt (s : D_CSet) (k : Nat) : Bool := match s.2[k]? with
  | none => false
  | some p => snapOkB p && decide (firstI (fun q : D_CSnap => decide (q.1 = p.1)) s.2 = (k : Int))
def setOkB (s : D_CSet) : Bool := isWordB s.1 && decide (s.2.length ≤ 5) && (List.range s.2.length).all (snapAt s)
def setAt (c : D_Catalog) (k : Nat) : Bool := match c[k]? with
  | none => false
  | some s => setOkB s && (decide (k = 0) || (c[k - 1]?).all fun r => sLt r.1 s.1)
def catOkB (c : D_Catalog) : Bool := decide (c.length ≤ 5) && (List.range c.length).all (setAt c)
theorem s_l15Snap_eq {p : D_CSnap} (ho : Ok.ok p) : s_l15Snap p = some (snapOkB p) := by
  have h1 : p.1.size ≤ 9223372036854775807 := ho.1
  have h2 : p.2.1.size ≤ 9223372036854775807 := ho.2.1
  have h3 : p.2.2.length ≤ 9223372036854775807 := ho.2.2.1
  unfold s_l15Snap snapOkB areChunksB
  rw [each_loop (p := fun c => decide ((c.size : Int) = 8)) (no := some false) (yes := some true) h3]
  · simp only [s_l4Word_eq h1, s_l4Word_eq h2, l1In_eq, Option.bind_some, gbs]
    cases isWordB p.1 <;> cases decide (p.2.1 = ByteArray.empty) <;> cases isWordB p.2.1 <;> cases decide (1 ≤ (p.2.2.length : Int) ∧ (p.2.2.length : Int) ≤ 4) <;> cases (p.2.2.all fun c => decide ((c.size : Int) = 8)) <;> rfl
  · intro k x hx
    simp only [lt_dec (List.getElem?_eq_some_iff.1 hx).1, cond_true, idx_nat, hx, Option.bind_some]
    cases decide ((x.size : Int) = 8) <;> rfl
  · simp only [ge_dec]; rfl
theorem s_l15Find_eq {s : D_CSet} {n : ByteArray} (h : s.2.length ≤ 9223372036854775807) : s_l15Find s n = some (firstI (fun q : D_CSnap => decide (q.1 = n)) s.2) := by
  unfold s_l15Find
  rw [whileP_find (fun q : D_CSnap => decide (q.1 = n)) some h]
  · intro k x hx
    simp only [lt_dec (List.getElem?_eq_some_iff.1 hx).1, cond_true, idx_nat, hx, Option.bind_some]
    cases decide (x.1 = n) <;> rfl
  · simp only [ge_dec]; rfl
theorem i_CSet_snap_eq {s : D_CSet} {n : ByteArray} (h : s.2.length ≤ 9223372036854775807) : i_CSet_snap s n = some (firstI (fun q : D_CSnap => decide (q.1 = n)) s.2) := by
  unfold i_CSet_snap sl_IndexFunc_implCSnapimplCSnap i_CSet_snap_c1
  rw [whileP_find (fun q : D_CSnap => decide (q.1 = n)) some h]
  · rfl
  · intro k x hx
    simp only [lt_dec (List.getElem?_eq_some_iff.1 hx).1, cond_true, idx_nat, hx, Option.bind_some]
    cases decide (x.1 = n) <;> rfl
  · simp only [ge_dec]; rfl
theorem i_setOk_eq {s : D_CSet} (ho : Ok.ok s) : i_setOk s = some (setOkB s) := by
  have h1 : s.1.size ≤ 9223372036854775807 := ho.1
  have h2 : s.2.length ≤ 9223372036854775807 := ho.2.1
  unfold i_setOk setOkB
  rw [whileP_all (n := s.2.length) (snapAt s) (some false) (some (isWordB s.1 && decide (s.2.length ≤ 5)))]
  · cases isWordB s.1 <;> cases decide (s.2.length ≤ 5) <;> cases (List.range s.2.length).all (snapAt s) <;> rfl
  · intro k hk
    have hx : s.2[k]? = some s.2[k] := List.getElem?_eq_getElem hk
    generalize s.2[k] = p at hx
    have hp : Ok.ok p := ho.2.2 p (List.mem_of_getElem? hx)
    have h3 : p.1.size ≤ 9223372036854775807 := hp.1
    have h4 : p.2.1.size ≤ 9223372036854775807 := hp.2.1
    have h5 : p.2.2.length ≤ 9223372036854775807 := hp.2.2.1
    simp only [lt_dec hk, cond_true, idx_nat, hx, Option.bind_some, i_isWord_eq h3, i_isWord_eq h4, within_eq, i_areChunks_eq h5, i_CSet_snap_eq (s := (s.1, s.2)) h2, gbs, wrap_succ (show k < 9223372036854775807 by omega)]
    unfold snapAt snapOkB
    simp only [hx]
    cases isWordB p.1 <;> cases decide (p.2.1 = ByteArray.empty) <;> cases isWordB p.2.1 <;> cases decide (1 ≤ (p.2.2.length : Int) ∧ (p.2.2.length : Int) ≤ 4) <;> cases areChunksB p.2.2 <;> cases decide (firstI (fun q : D_CSnap => decide (q.1 = p.1)) s.2 = (k : Int)) <;> simp
  · have h9 : decide ((s.2.length : Int) ≤ 5) = decide (s.2.length ≤ 5) := by rw [Bool.eq_iff_iff]; simp; omega
    simp only [ge_dec, cond_false, i_isWord_eq h1, Option.bind_some, h9]
theorem i_CatOk_eq {c : D_Catalog} (ho : Ok.ok c) : i_CatOk c = some (catOkB c) := by
  have hl : c.length ≤ 9223372036854775807 := ho.1
  unfold i_CatOk catOkB
  rw [whileP_all (n := c.length) (setAt c) (some false) (some (decide (c.length ≤ 5)))]
  · cases decide (c.length ≤ 5) <;> cases (List.range c.length).all (setAt c) <;> rfl
  · intro k hk
    have hx : c[k]? = some c[k] := List.getElem?_eq_getElem hk
    generalize c[k] = s at hx
    have hs : Ok.ok s := ho.2 s (List.mem_of_getElem? hx)
    simp only [lt_dec hk, cond_true, idx_nat, hx, Option.bind_some, Prod.eta, i_setOk_eq hs, wrap_succ (show k < 9223372036854775807 by omega)]
    unfold setAt
    simp only [hx]
    rcases Nat.eq_zero_or_pos k with h0 | h0
    · subst h0
      rw [gb_none _ _ _ (by simp)]
      cases setOkB s <;> simp
    · obtain ⟨r, hr1, hr2⟩ := prev_idx' hk hl h0
      have h5 : decide (0 < (k : Int)) = true := by simp; omega
      have h6 : decide (k = 0) = false := by simp; omega
      rw [hr1, hr2, h5, h6, gbs]
      simp only [Option.all_some]
      by_cases h7 : sLt r.1 s.1 = true <;> cases setOkB s <;> simp [h7]
  · have h9 : decide ((c.length : Int) ≤ 5) = decide (c.length ≤ 5) := by rw [Bool.eq_iff_iff]; simp; omega
    simp only [ge_dec, cond_false, h9]
theorem s_CatOk_eq {c : D_Catalog} (ho : Ok.ok c) : s_CatOk c = some (catOkB c) := by
  have hl : c.length ≤ 9223372036854775807 := ho.1
  unfold s_CatOk catOkB
  have h9 : decide (5 < (c.length : Int)) = !decide (c.length ≤ 5) := by rw [Bool.eq_iff_iff]; simp; omega
  rw [whileP_all (n := c.length) (setAt c) (some false) (some true), h9]
  · cases decide (c.length ≤ 5) <;> cases (List.range c.length).all (setAt c) <;> rfl
  · intro k hk
    have hx : c[k]? = some c[k] := List.getElem?_eq_getElem hk
    generalize c[k] = s at hx
    have hs : Ok.ok s := ho.2 s (List.mem_of_getElem? hx)
    have h1 : s.1.size ≤ 9223372036854775807 := hs.1
    have h2 : s.2.length ≤ 9223372036854775807 := hs.2.1
    simp only [lt_dec hk, cond_true, idx_nat, hx, Option.bind_some, Prod.eta, s_l4Word_eq h1]
    rw [whileP_all (n := s.2.length) (snapAt s) (some (.inr false)) (some (.inl ((k + 1 : Nat) : Int)))]
    · have h10 : decide (5 < (s.2.length : Int)) = !decide (s.2.length ≤ 5) := by rw [Bool.eq_iff_iff]; simp; omega
      unfold setAt setOkB
      simp only [hx, h10]
      rcases Nat.eq_zero_or_pos k with h0 | h0
      · subst h0
        rw [gb_none _ _ _ (by simp)]
        cases isWordB s.1 <;> cases decide (s.2.length ≤ 5) <;> cases (List.range s.2.length).all (snapAt s) <;> simp
      · obtain ⟨r, hr1, hr2⟩ := prev_idx' hk hl h0
        have h5 : decide (0 < (k : Int)) = true := by simp; omega
        have h6 : decide (k = 0) = false := by simp; omega
        rw [hr1, hr2, h5, h6, gbs]
        simp only [Option.all_some]
        by_cases h7 : sLt r.1 s.1 = true <;> cases isWordB s.1 <;> cases decide (s.2.length ≤ 5) <;> cases (List.range s.2.length).all (snapAt s) <;> simp [h7]
    · intro j hj
      have hy : s.2[j]? = some s.2[j] := List.getElem?_eq_getElem hj
      generalize s.2[j] = p at hy
      have hp : Ok.ok p := hs.2.2 p (List.mem_of_getElem? hy)
      simp only [lt_dec hj, cond_true, idx_nat, hy, Option.bind_some, Prod.eta, s_l15Snap_eq hp, gbs, wrap_succ (show j < 9223372036854775807 by omega)]
      unfold snapAt
      simp only [hy]
      cases snapOkB p with
      | false => rfl
      | true =>
        simp only [Bool.not_true, Bool.not_false, if_true, gb, Option.bind_some, s_l15Find_eq h2, Bool.true_and, Bool.false_or]
        cases decide (firstI (fun q : D_CSnap => decide (q.1 = p.1)) s.2 = (j : Int)) <;> rfl
    · simp only [ge_dec, cond_false, wrap_succ (show k < 9223372036854775807 by omega)]
  · simp only [ge_dec]; rfl
/-- What a right catalog holds. -/
theorem catOk_facts {c : D_Catalog} (h : catOkB c = true) : c.length ≤ 5 ∧ ∀ s, s ∈ c → s.2.length ≤ 5 ∧ ∀ p, p ∈ s.2 → p.2.2.length ≤ 4 ∧ ∀ x, x ∈ p.2.2 → x.size = 8 := by
  unfold catOkB at h
  simp only [Bool.and_eq_true, decide_eq_true_eq, List.all_eq_true, List.mem_range] at h
  refine ⟨h.1, fun s hs => ?_⟩
  obtain ⟨k, hk⟩ := List.getElem?_of_mem hs
  have h1 := h.2 k (List.getElem?_eq_some_iff.1 hk).1
  unfold setAt at h1
  rw [hk] at h1
  simp only [Bool.and_eq_true] at h1
  have h2 := h1.1
  unfold setOkB at h2
  simp only [Bool.and_eq_true, decide_eq_true_eq, List.all_eq_true, List.mem_range] at h2
  refine ⟨h2.1.2, fun p hp => ?_⟩
  obtain ⟨j, hj⟩ := List.getElem?_of_mem hp
  have h3 := h2.2 j (List.getElem?_eq_some_iff.1 hj).1
  unfold snapAt at h3
  rw [hj] at h3
  simp only [Bool.and_eq_true] at h3
  have h4 := h3.1
  unfold snapOkB areChunksB at h4
  simp only [Bool.and_eq_true, decide_eq_true_eq, List.all_eq_true] at h4
  exact ⟨by omega, fun x hx => by have := h4.2 x hx; omega⟩
end Go.Proofs.SL
/- from PC2.lean -/
namespace Go.Proofs.SL
open Go
theorem s_l15In_eq {l : List ByteArray} {n : ByteArray} (h : l.length ≤ 9223372036854775807) : s_l15In l n = some (l.any fun x => decide (x = n)) := by
  unfold s_l15In
  rw [whileP_find (fun x => decide (x = n)) (fun i => some (decide (0 ≤ i))) h, firstI_any]
  · intro k x hx
    simp only [lt_dec (List.getElem?_eq_some_iff.1 hx).1, cond_true, idx_nat, hx, Option.bind_some]
    cases decide (x = n) <;> simp
  · simp only [ge_dec]; rfl
def insL (x : ByteArray) : List ByteArray → List ByteArray
  | [] => [x]
  | y :: ys => if !sLt y x && !decide (y = x) then x :: y :: ys else y :: insL x ys
def putL (l : List ByteArray) (x : ByteArray) : List ByteArray := if l.any (fun y => decide (y = x)) then l else insL x l
def putStep (x : ByteArray) (t : List ByteArray × Bool) (y : ByteArray) : List ByteArray × Bool := if !t.2 && (!sLt y x && !decide (y = x)) then (t.1 ++ [x] ++ [y], true) else (t.1 ++ [y], t.2)
theorem putStep_true (x : ByteArray) : ∀ (ys acc : List ByteArray), ys.foldl (putStep x) (acc, true) = (acc ++ ys, true)
  | [], acc => by simp
  | y :: ys, acc => by
    rw [List.foldl_cons]
    unfold putStep
    simp only [Bool.not_true, Bool.false_and, Bool.false_eq_true, if_false]
    have := putStep_true x ys (acc ++ [y])
    unfold putStep at this
    rw [this]; simp
theorem putStep_false (x : ByteArray) : ∀ (ys acc : List ByteArray), (let t := ys.foldl (putStep x) (acc, false); if !t.2 then t.1 ++ [x] else t.1) = acc ++ insL x ys
  | [], acc => by simp [insL]
  | y :: ys, acc => by
    rw [List.foldl_cons]
    cases h : (!sLt y x && !decide (y = x)) with
    | true =>
      have : putStep x (acc, false) y = (acc ++ [x] ++ [y], true) := by unfold putStep; simp only [h]; rfl
      rw [this, putStep_true]
      simp only [insL, h, if_true]
      simp
    | false =>
      have : putStep x (acc, false) y = (acc ++ [y], false) := by unfold putStep; simp only [h]; rfl
      rw [this, putStep_false x ys (acc ++ [y])]
      simp only [insL, h, Bool.false_eq_true, if_false]
      simp
theorem s_l15Put_eq {l : List ByteArray} {x : ByteArray} (h : l.length ≤ 1000) : s_l15Put l x = some (putL l x) := by
  unfold s_l15Put
  simp only [Option.bind_some, s_l15In_eq (l := l) (n := x) (by omega)]
  rw [whileP_for (l := l) (fun k (t : List ByteArray × Bool) => (t.1, t.2, (k : Int))) (fun t y => .inl (putStep x t y)) (fun t => some (if !t.2 then t.1 ++ [x] else t.1)) (fun k t => t.1.length ≤ 2 * k) ([], l.any fun y => decide (y = x)) (s0 := ([], l.any fun y => decide (y = x), 0)) rfl (Nat.le_refl _), goE_fold]
  · unfold putL
    cases ha : l.any fun y => decide (y = x) with
    | true => rw [putStep_true]; simp
    | false =>
      have := putStep_false x l []
      simp only [List.nil_append] at this
      simp only [Bool.false_eq_true, if_false]
      exact congrArg some this
  · intro k t y hy hI
    have hlt := (List.getElem?_eq_some_iff.1 hy).1
    obtain ⟨acc, b⟩ := t
    dsimp only at hI
    refine .inl ⟨_, rfl, ?_, ?_⟩
    · simp only [lt_dec hlt, cond_true, idx_nat, hy, Option.bind_some, wrap_succ (show k < 9223372036854775807 by omega), appP_ok (a := acc) (b := [x]) (by simp; omega), appP_ok (a := acc) (b := [y]) (by simp; omega), appP_ok (a := acc ++ [x]) (b := [y]) (by simp; omega), gbs]
      unfold putStep
      cases b <;> cases hs : sLt y x <;> cases hd : decide (y = x) <;> simp [hs, hd, gb]
    · unfold putStep
      dsimp only
      split <;> simp <;> omega
  · intro t ht
    simp only [ge_dec, cond_false]
    obtain ⟨acc, b⟩ := t
    dsimp only at ht
    cases b
    · simp only [Bool.not_false, cond_true, if_true]
      rw [appP_ok (by simp; omega)]; rfl
    · rfl
theorem mem_insL {x z : ByteArray} : ∀ {l : List ByteArray}, z ∈ insL x l ↔ z = x ∨ z ∈ l
  | [] => by simp [insL]
  | y :: ys => by
    unfold insL
    split
    · simp
    · rw [List.mem_cons, mem_insL, List.mem_cons]
      constructor
      · rintro (h | h | h)
        · exact .inr (.inl h)
        · exact .inl h
        · exact .inr (.inr h)
      · rintro (h | h | h)
        · exact .inr (.inl h)
        · exact .inl h
        · exact .inr (.inr h)
theorem insL_sorted {x : ByteArray} : ∀ {l : List ByteArray}, l.Pairwise (fun a b => sLt a b = true) → x ∉ l → (insL x l).Pairwise (fun a b => sLt a b = true)
  | [], _, _ => by simp [insL]
  | y :: ys, h, hx => by
    obtain ⟨h1, h2⟩ := List.pairwise_cons.1 h
    have hyx : y ≠ x := fun e => hx (e ▸ List.mem_cons_self ..)
    unfold insL
    split
    · rename_i hc
      simp only [Bool.and_eq_true, Bool.not_eq_true', decide_eq_false_iff_not] at hc
      have hxy : sLt x y = true := by
        cases h3 : sLt x y with
        | true => rfl
        | false => exact absurd (sLt_tri hc.1 h3) hyx
      refine List.pairwise_cons.2 ⟨fun z hz => ?_, h⟩
      rcases List.mem_cons.1 hz with rfl | hz
      · exact hxy
      · exact sLt_trans hxy (h1 z hz)
    · rename_i hc
      have hyl : sLt y x = true := by
        cases h3 : sLt y x with
        | true => rfl
        | false => exact absurd (by simp [h3, hyx]) hc
      refine List.pairwise_cons.2 ⟨fun z hz => ?_, insL_sorted h2 fun hm => hx (List.mem_cons_of_mem _ hm)⟩
      rcases mem_insL.1 hz with rfl | hz
      · exact hyl
      · exact h1 z hz
theorem any_memS {l : List ByteArray} {x : ByteArray} : (l.any fun y => decide (y = x)) = true ↔ x ∈ l := by simp [List.any_eq_true]
theorem putL_facts {l : List ByteArray} {x : ByteArray} (h : l.Pairwise (fun a b => sLt a b = true)) : (putL l x).Pairwise (fun a b => sLt a b = true) ∧ ∀ z, z ∈ putL l x ↔ z = x ∨ z ∈ l := by
  unfold putL
  split
  · rename_i ha
    refine ⟨h, fun z => ⟨.inr, ?_⟩⟩
    rintro (rfl | hz)
    · exact any_memS.1 ha
    · exact hz
  · rename_i ha
    exact ⟨insL_sorted h fun hm => ha (any_memS.2 hm), fun z => mem_insL⟩
theorem putL_len (l : List ByteArray) (x : ByteArray) : (putL l x).length ≤ l.length + 1 := by
  have : ∀ l : List ByteArray, (insL x l).length = l.length + 1 := by
    intro l
    induction l with
    | nil => rfl
    | cons y ys ih => unfold insL; split <;> simp [ih]
  unfold putL
  split
  · omega
  · rw [this]; omega
theorem foldPut_facts : ∀ (xs l : List ByteArray), l.Pairwise (fun a b => sLt a b = true) → (xs.foldl putL l).Pairwise (fun a b => sLt a b = true) ∧ ∀ z, z ∈ xs.foldl putL l ↔ z ∈ xs ∨ z ∈ l
  | [], l, h => ⟨h, fun z => by simp⟩
  | x :: xs, l, h => by
    obtain ⟨h1, h2⟩ := putL_facts (x := x) h
    obtain ⟨h3, h4⟩ := foldPut_facts xs (putL l x) h1
    refine ⟨h3, fun z => ?_⟩
    rw [List.foldl_cons, h4, h2, List.mem_cons]
    constructor
    · rintro (h | h | h)
      · exact .inl (.inr h)
      · exact .inl (.inl h)
      · exact .inr h
    · rintro ((h | h) | h)
      · exact .inr (.inl h)
      · exact .inl h
      · exact .inr (.inr h)
theorem foldPut_len : ∀ (xs l : List ByteArray), (xs.foldl putL l).length ≤ l.length + xs.length
  | [], l => by simp
  | x :: xs, l => by
    rw [List.foldl_cons, List.length_cons]
    have := foldPut_len xs (putL l x)
    have := putL_len l x
    omega
def chunksOf (c : D_Catalog) : List ByteArray := c.flatMap fun s => s.2.flatMap fun p => p.2.2
def allL (c : D_Catalog) : List ByteArray := if catOkB c then (chunksOf c).foldl putL [] else []
theorem snaps_len {s : D_CSet} (h : s.2.length ≤ 5 ∧ ∀ p, p ∈ s.2 → p.2.2.length ≤ 4 ∧ ∀ x, x ∈ p.2.2 → x.size = 8) : (s.2.flatMap fun p => p.2.2).length ≤ 20 := by
  have : ∀ l : List D_CSnap, (∀ p, p ∈ l → p.2.2.length ≤ 4) → (l.flatMap fun p => p.2.2).length ≤ 4 * l.length := by
    intro l
    induction l with
    | nil => simp
    | cons p l ih =>
      intro hl
      have := hl p (List.mem_cons_self ..)
      have := ih fun q hq => hl q (List.mem_cons_of_mem _ hq)
      simp only [List.flatMap_cons, List.length_append, List.length_cons]; omega
  have := this s.2 fun p hp => (h.2 p hp).1
  omega
theorem s_AllChunks_eq {c : D_Catalog} (ho : Ok.ok c) : s_AllChunks c = some (allL c) := by
  unfold s_AllChunks allL
  simp only [Option.bind_some, s_CatOk_eq ho]
  cases hk : catOkB c with
  | false =>
    rw [whileP_eq]
    simp only [gbs]
    cases decide ((0 : Int) < (c.length : Int)) <;> rfl
  | true =>
    obtain ⟨hc1, hc2⟩ := catOk_facts hk
    rw [whileP_for (l := c) (fun k (t : List ByteArray) => (t, (k : Int))) (fun t s => .inl (s.2.foldl (fun t p => p.2.2.foldl putL t) t)) (fun t => some t) (fun k t => t.length ≤ 20 * k) [] (s0 := ([], 0)) rfl (Nat.le_refl _), goE_fold]
    · unfold chunksOf
      simp only [if_true]
      congr 1
      rw [List.foldl_flatMap]
      congr 1
      funext t s
      rw [List.foldl_flatMap]
    · intro k t s hs hI
      have hlt := (List.getElem?_eq_some_iff.1 hs).1
      obtain ⟨hs1, hs2⟩ := hc2 s (List.mem_of_getElem? hs)
      refine .inl ⟨_, rfl, ?_, ?_⟩
      · simp only [lt_dec hlt, gb, Option.bind_some, Bool.and_true, cond_true]
        rw [whileP_for (l := s.2) (fun j (t : List ByteArray) => (t, (j : Int))) (fun t p => .inl (p.2.2.foldl putL t)) (fun t => some (.inl (t, ((k + 1 : Nat) : Int)))) (fun j t => t.length ≤ 20 * k + 4 * j) t (s0 := (t, 0)) rfl (by omega), goE_fold]
        · intro j u p hp hJ
          have hjl := (List.getElem?_eq_some_iff.1 hp).1
          have hp1 := (hs2 p (List.mem_of_getElem? hp)).1
          refine .inl ⟨_, rfl, ?_, ?_⟩
          · simp only [idx_nat, hs, hp, Option.bind_some, lt_dec hjl, cond_true]
            rw [whileP_for (l := p.2.2) (fun i (t : List ByteArray) => (t, (i : Int))) (fun t x => .inl (putL t x)) (fun t => some (.inl (t, ((j + 1 : Nat) : Int)))) (fun i t => t.length ≤ 20 * k + 4 * j + i) u (s0 := (u, 0)) rfl (by omega), goE_fold]
            · intro i v x hx hK
              have hil := (List.getElem?_eq_some_iff.1 hx).1
              refine .inl ⟨_, rfl, ?_, by have := putL_len v x; omega⟩
              simp only [idx_nat, hs, hp, hx, Option.bind_some, lt_dec hil, cond_true, s_l15Put_eq (l := v) (x := x) (by omega), wrap_succ (show i < 9223372036854775807 by omega)]
            · intro v hK
              simp only [idx_nat, hs, hp, Option.bind_some, ge_dec, cond_false, wrap_succ (show j < 9223372036854775807 by omega)]
          · have := foldPut_len p.2.2 u; omega
        · intro u hJ
          simp only [idx_nat, hs, Option.bind_some, ge_dec, cond_false, wrap_succ (show k < 9223372036854775807 by omega)]
      · have h1 := foldPut_len (s.2.flatMap fun p => p.2.2) t
        have h2 := snaps_len ⟨hs1, hs2⟩
        rw [List.foldl_flatMap] at h1
        omega
    · intro t hI
      simp only [ge_dec, gb, Bool.false_and, cond_false]
theorem i_AllChunks_eq {c : D_Catalog} (ho : Ok.ok c) : i_AllChunks c = some (allL c) := by
  unfold i_AllChunks allL
  simp only [Option.bind_some, i_CatOk_eq ho]
  cases hk : catOkB c with
  | false => rfl
  | true =>
    obtain ⟨hc1, hc2⟩ := catOk_facts hk
    simp only [Bool.not_true, cond_false, if_true]
    rw [whileP_for (l := c) (fun k (t : List ByteArray) => (t, (k : Int))) (fun t s => .inl (t ++ s.2.flatMap fun p => p.2.2)) (fun t => Option.bind (sortSP t) compactSP) (fun k t => t.length ≤ 20 * k) [] (s0 := ([], 0)) rfl (Nat.le_refl _), goE_fold]
    · have hf : ∀ (l : D_Catalog) (t : List ByteArray), l.foldl (fun t s => t ++ s.2.flatMap fun p => p.2.2) t = t ++ chunksOf l := by
        intro l
        induction l with
        | nil => intro t; simp [chunksOf]
        | cons s l ih => intro t; rw [List.foldl_cons, ih]; simp [chunksOf]
      rw [hf, List.nil_append]
      have hl : (chunksOf c).length ≤ 100 := by
        have : ∀ l : D_Catalog, (∀ s, s ∈ l → (s.2.flatMap fun p => p.2.2).length ≤ 20) → (chunksOf l).length ≤ 20 * l.length := by
          intro l
          induction l with
          | nil => simp [chunksOf]
          | cons s l ih =>
            intro h
            have h1 := h s (List.mem_cons_self ..)
            have h2 := ih fun q hq => h q (List.mem_cons_of_mem _ hq)
            simp only [chunksOf, List.flatMap_cons, List.length_append, List.length_cons] at h2 ⊢; omega
        have := this c fun s hs => snaps_len (hc2 s hs)
        omega
      obtain ⟨m, hm, hm1, hm2⟩ := sortCompact (l := chunksOf c) (by omega)
      rw [hm]
      obtain ⟨h1, h2⟩ := foldPut_facts (chunksOf c) [] List.Pairwise.nil
      rw [ssorted_ext hm1 h1 fun x => by rw [hm2, h2]; simp]
    · intro k t s hs hI
      have hlt := (List.getElem?_eq_some_iff.1 hs).1
      obtain ⟨hs1, hs2⟩ := hc2 s (List.mem_of_getElem? hs)
      refine .inl ⟨_, rfl, ?_, ?_⟩
      · simp only [lt_dec hlt, idx_nat, hs, Option.bind_some, cond_true]
        rw [whileP_for (l := s.2) (fun j (t : List ByteArray) => (t, (j : Int))) (fun t p => .inl (t ++ p.2.2)) (fun t => some (.inl (t, ((k + 1 : Nat) : Int)))) (fun j t => t.length ≤ 20 * k + 4 * j) t (s0 := (t, 0)) rfl (by omega), goE_fold]
        · have hf : ∀ (l : List D_CSnap) (t : List ByteArray), l.foldl (fun t p => t ++ p.2.2) t = t ++ l.flatMap fun p => p.2.2 := by
            intro l
            induction l with
            | nil => intro t; simp
            | cons s l ih => intro t; rw [List.foldl_cons, ih]; simp
          rw [hf]
        · intro j u p hp hJ
          have hjl := (List.getElem?_eq_some_iff.1 hp).1
          have hp1 := (hs2 p (List.mem_of_getElem? hp)).1
          refine .inl ⟨_, rfl, ?_, by rw [List.length_append]; omega⟩
          simp only [idx_nat, hp, Option.bind_some, lt_dec hjl, cond_true, wrap_succ (show j < 9223372036854775807 by omega), appP_ok (a := u) (b := p.2.2) (by omega)]
        · intro u hJ
          simp only [ge_dec, cond_false, wrap_succ (show k < 9223372036854775807 by omega)]
      · have h2 := snaps_len ⟨hs1, hs2⟩
        rw [List.length_append]; omega
    · intro t hI
      simp only [ge_dec, cond_false]
      cases sortSP t with
      | none => rfl
      | some y =>
        simp only [Option.bind_some]
        cases compactSP y <;> rfl
theorem allL_len {c : D_Catalog} (ho : Ok.ok c) : (allL c).length ≤ 100 := by
  unfold allL
  split
  · rename_i hk
    obtain ⟨hc1, hc2⟩ := catOk_facts hk
    have h0 := foldPut_len (chunksOf c) []
    have : ∀ l : D_Catalog, (∀ s, s ∈ l → (s.2.flatMap fun p => p.2.2).length ≤ 20) → (chunksOf l).length ≤ 20 * l.length := by
      intro l
      induction l with
      | nil => simp [chunksOf]
      | cons s l ih =>
        intro h
        have h1 := h s (List.mem_cons_self ..)
        have h2 := ih fun q hq => h q (List.mem_cons_of_mem _ hq)
        simp only [chunksOf, List.flatMap_cons, List.length_append, List.length_cons] at h2 ⊢; omega
    have := this c fun s hs => snaps_len (hc2 s hs)
    simp only [List.length_nil] at h0
    omega
  · simp
/-- The nodes of a chunk that are up. -/
def haveL (u : D_Ups) (x : ByteArray) (up : List Bool) : List Int := (upNodes u x).filter fun n => (up[n.toNat]?).getD false
theorem upNodes_facts {u : D_Ups} {x : ByteArray} (h : upsOkB u = true) : (∀ n, n ∈ upNodes u x → 0 ≤ n ∧ n < 3) ∧ (upNodes u x).Pairwise (· < ·) := by
  unfold upNodes upFind
  cases hf : u.2.find? fun s : D_Up => decide (s.1 = x) with
  | none => exact ⟨fun n hn => (by cases hn), List.Pairwise.nil⟩
  | some y => exact nodesOk_facts ((upsOk_facts h).2.2.1 y (List.mem_of_find?_eq_some hf)).2.2.2
theorem s_l20Have_eq {u : D_Ups} {x : ByteArray} {up : List Bool} (ho : Ok.ok u) (h : upsOkB u = true) (hu : up.length = 3) : s_l20Have u x up = some (haveL u x up) := by
  unfold s_l20Have
  have hl : u.2.length ≤ 9223372036854775807 := ho.2.1
  obtain ⟨hn1, hn2⟩ := upNodes_facts (x := x) h
  have hnl := nodes_le hn1 hn2
  simp only [Prod.eta, s_l18At_eq hl, Option.bind_some]
  rcases firstI_find (fun s : D_Up => decide (s.1 = x)) u.2 with ⟨h1, h2⟩ | ⟨k, y, h1, h2, h3, _⟩
  · have hz : upNodes u x = [] := by unfold upNodes upFind; rw [h2]
    rw [h1, whileP_eq]
    unfold haveL
    rw [hz]
    rfl
  · have hz : upNodes u x = y.2.1 := by unfold upNodes upFind; rw [h3]
    rw [hz] at hn1 hn2 hnl
    rw [h1]
    simp only [show decide (0 ≤ (k : Int)) = true by simp, Bool.and_true, idx_nat, h2, Option.bind_some]
    rw [whileP_for (l := [0, 1, 2]) (fun k (t : List Int) => (t, (k : Int))) (fun t n => .inl (if ((up[n.toNat]?).getD false && y.2.1.any fun z => decide (z = n)) then t ++ [n] else t)) (fun t => some t) (fun k t => t.length ≤ k) [] (s0 := ([], 0)) rfl (Nat.le_refl _), goE_fold, foldl_filter', List.nil_append]
    · congr 1
      unfold haveL
      rw [hz]
      refine sorted_ext (List.Pairwise.filter _ (by simp)) (List.Pairwise.filter _ hn2) fun n => ?_
      rw [List.mem_filter, List.mem_filter]
      simp only [Bool.and_eq_true, any_mem]
      have h3 : n ∈ ([0, 1, 2] : List Int) ↔ (0 ≤ n ∧ n < 3) := by simp; omega
      rw [h3]
      constructor
      · rintro ⟨_, h4, h5⟩; exact ⟨h5, h4⟩
      · rintro ⟨h4, h5⟩; exact ⟨hn1 n h4, h5, h4⟩
    · intro j t n hx hI
      have hk : j < 3 ∧ n = (j : Int) := by
        match j, hx with
        | 0, hx => cases hx; simp
        | 1, hx => cases hx; simp
        | 2, hx => cases hx; simp
      obtain ⟨hk, rfl⟩ := hk
      have hb : up[j]? = some up[j] := List.getElem?_eq_getElem (by omega)
      generalize up[j] = b at hb
      refine .inl ⟨_, rfl, ?_, ?_⟩
      · simp only [show decide ((j : Int) < 3) = true by simp; omega, cond_true, idx_nat, hb, Option.bind_some, gbs, l18Has_eq (l := y.2.1) (n := (j : Int)) (by omega), wrap_succ (show j < 9223372036854775807 by omega), Int.toNat_natCast, Option.getD_some]
        rw [appP_ok (by simp; omega)]
        cases b <;> cases (y.2.1.any fun z => decide (z = (j : Int))) <;> rfl
      · split
        · simp; omega
        · omega
    · intro t ht
      rfl
theorem i_upOf_eq {l : List Int} {up : List Bool} (h1 : ∀ n, n ∈ l → 0 ≤ n ∧ n < 3) (h2 : l.length ≤ 3) (hu : up.length = 3) : i_upOf l up = some (l.filter fun n => (up[n.toNat]?).getD false) := by
  unfold i_upOf
  simp only [Option.bind_some]
  rw [whileP_for (l := l) (fun k (t : List Int) => (t, (k : Int))) (fun t n => .inl (if (up[n.toNat]?).getD false then t ++ [n] else t)) (fun t => some t) (fun k t => t.length ≤ k) [] (s0 := ([], 0)) rfl (Nat.le_refl _), goE_fold, foldl_filter', List.nil_append]
  · intro k t n hn hI
    have hlt := (List.getElem?_eq_some_iff.1 hn).1
    obtain ⟨hn0, hn3⟩ := h1 n (List.mem_of_getElem? hn)
    obtain ⟨j, rfl⟩ := Int.eq_ofNat_of_zero_le hn0
    have hb : up[j]? = some up[j] := List.getElem?_eq_getElem (by omega)
    generalize up[j] = b at hb
    refine .inl ⟨_, rfl, ?_, ?_⟩
    · simp only [lt_dec hlt, cond_true, idx_nat, hn, hb, Option.bind_some, wrap_succ (show k < 9223372036854775807 by omega), Int.toNat_natCast, Option.getD_some]
      rw [appP_ok (by simp; omega)]
      cases b <;> rfl
    · split
      · simp; omega
      · omega
  · intro t ht
    simp only [ge_dec]; rfl
end Go.Proofs.SL
/- from PR.lean -/
namespace Go.Proofs.SL
open Go
def repStep (d : D_Ups) (t : List D_Up) (x : D_Copy) : List D_Up ⊕ Option (D_Ups × Bool) := match t.findIdx? (fun s => decide (s.1 = x.1)) with
  | none => .inr (some (d, false))
  | some k => match t[k]? with
    | none => .inr (some (d, false))
    | some y => if y.2.1.any (fun z => decide (z = x.2.1)) && decide (0 ≤ x.2.2 ∧ x.2.2 < 3) then .inl (t.set k (y.1, withL y.2.1 x.2.2 true, y.2.2)) else .inr (some (d, false))
def repInv (d : D_Ups) (t : List D_Up) : Prop := t.length = d.2.length ∧ ∀ y, y ∈ t → y.1.size = 8 ∧ (∀ n, n ∈ y.2.1 → 0 ≤ n ∧ n < 3) ∧ y.2.1.Pairwise (· < ·)
theorem repInv_start {d : D_Ups} (h : upsOkB d = true) : repInv d d.2 := by
  obtain ⟨_, _, h3, _⟩ := upsOk_facts h
  exact ⟨rfl, fun y hy => ⟨(h3 y hy).1, nodesOk_facts (h3 y hy).2.2.2⟩⟩
theorem repInv_step {d : D_Ups} {t t' : List D_Up} {x : D_Copy} (h : repInv d t) (hs : repStep d t x = .inl t') : repInv d t' := by
  unfold repStep at hs
  split at hs
  · cases hs
  · split at hs
    · cases hs
    · rename_i k _ y hy
      split at hs
      · cases hs
        refine ⟨by rw [List.length_set]; exact h.1, fun z hz => ?_⟩
        rcases List.mem_or_eq_of_mem_set hz with hz | rfl
        · exact h.2 z hz
        · exact ⟨(h.2 y (List.mem_of_getElem? hy)).1, fun n hn => (mem_withL.1 hn).1, withL_sorted ..⟩
      · cases hs
noncomputable def repairAllD (d : D_Ups) (l : List D_Copy) : D_Ups × Bool :=
  if upsOkB d then ((goE (repStep d) (fun t => some ((d.1, t), true)) l d.2).getD (d, false)) else ((0, []), false)
theorem rep_some (d : D_Ups) : ∀ (l : List D_Copy) (t : List D_Up), ∃ r, goE (repStep d) (fun t => some ((d.1, t), true)) l t = some r
  | [], t => ⟨_, rfl⟩
  | x :: l, t => by
    unfold goE
    cases h : repStep d t x with
    | inl t' => exact rep_some d l t'
    | inr r =>
      have : r = some (d, false) := by
        unfold repStep at h
        split at h
        · cases h; rfl
        · split at h
          · cases h; rfl
          · split at h
            · cases h
            · cases h; rfl
      subst this
      exact ⟨_, rfl⟩
theorem s_RepairAll_eq {d : D_Ups} {l : List D_Copy} (ho : Ok.ok d) (hl : l.length ≤ 9223372036854775807) : s_RepairAll d l = some (repairAllD d l) := by
  unfold s_RepairAll repairAllD
  simp only [Prod.eta, s_UpsOk_eq ho, Option.bind_some]
  cases hk : upsOkB d with
  | false => rfl
  | true =>
    obtain ⟨h1, h2, h3, h4⟩ := upsOk_facts hk
    simp only [Bool.not_true, cond_false, (ups_copy hk).1, Option.bind_some, if_true]
    obtain ⟨r, hr⟩ := rep_some d l d.2
    rw [hr, Option.getD_some, ← hr]
    refine whileP_for (l := l) (fun k (t : List D_Up) => ((k : Int), t)) (repStep d) (fun t => some ((d.1, t), true)) (fun _ t => repInv d t) d.2 (s0 := (0, d.2)) rfl (repInv_start hk) ?_ ?_
    · intro k t x hx hI
      have hlt := (List.getElem?_eq_some_iff.1 hx).1
      have htl : t.length ≤ 9223372036854775807 := by rw [hI.1]; omega
      simp only [lt_dec hlt, cond_true, idx_nat, hx, Option.bind_some, s_l18At_eq (u := (d.1, t)) htl]
      unfold repStep
      cases hf : t.findIdx? (fun s : D_Up => decide (s.1 = x.1)) with
      | none => rw [firstI_none hf]; exact .inr ⟨_, rfl, rfl⟩
      | some q =>
        obtain ⟨hq, _, _⟩ := List.findIdx?_eq_some_iff_getElem.1 hf
        have hy : t[q]? = some t[q] := List.getElem?_eq_getElem hq
        generalize t[q] = y at hy
        obtain ⟨hy1, hy2, hy3⟩ := hI.2 y (List.mem_of_getElem? hy)
        have hyl := nodes_le hy2 hy3
        rw [firstI_some hf]
        simp only [show decide ((q : Int) < 0) = false by simp, idx_nat, hy, Option.bind_some, gb, Bool.not_false, Bool.false_or, l18Has_eq (l := y.2.1) (n := x.2.1) (by omega), Int.toNat_natCast]
        cases hh : y.2.1.any fun z => decide (z = x.2.1) with
        | false => exact .inr ⟨_, rfl, rfl⟩
        | true =>
          simp only [Bool.not_true, Bool.not_false, l9Node_eq, Option.bind_some, Bool.true_and]
          by_cases hn : 0 ≤ x.2.2 ∧ x.2.2 < 3
          · left
            simp only [decide_eq_true hn, Bool.not_true, cond_false, if_true, l18With_eq (l := y.2.1) (n := x.2.2) (b := true) (by omega), Option.bind_some, wrap_succ (show k < 9223372036854775807 by omega)]
            refine ⟨_, rfl, rfl, repInv_step (x := x) hI ?_⟩
            unfold repStep
            rw [hf]
            simp only [hy, hh, decide_eq_true hn, Bool.true_and, if_true]
          · right
            simp only [decide_eq_false hn, Bool.not_false, cond_true, Bool.false_eq_true, if_false]
            exact ⟨_, rfl, rfl⟩
    · intro t hI
      simp only [ge_dec]; rfl
theorem i_RepairAll_eq {d : D_Ups} {l : List D_Copy} (ho : Ok.ok d) (hl : l.length ≤ 9223372036854775807) : i_RepairAll d l = some (repairAllD d l) := by
  unfold i_RepairAll repairAllD
  simp only [Prod.eta, i_UpsOk_eq ho, Option.bind_some]
  cases hk : upsOkB d with
  | false => rfl
  | true =>
    obtain ⟨h1, h2, h3, h4⟩ := upsOk_facts hk
    simp only [Bool.not_true, cond_false, (ups_copy hk).2, Option.bind_some, if_true]
    obtain ⟨r, hr⟩ := rep_some d l d.2
    rw [hr, Option.getD_some, ← hr]
    refine whileP_for (l := l) (fun k (t : List D_Up) => ((k : Int), t)) (repStep d) (fun t => some ((d.1, t), true)) (fun _ t => repInv d t) d.2 (s0 := (0, d.2)) rfl (repInv_start hk) ?_ ?_
    · intro k t x hx hI
      have hlt := (List.getElem?_eq_some_iff.1 hx).1
      have htl : t.length ≤ 9223372036854775807 := by rw [hI.1]; omega
      simp only [lt_dec hlt, cond_true, idx_nat, hx, Option.bind_some, i_Ups_at_eq (u := (d.1, t)) htl]
      unfold repStep
      cases hf : t.findIdx? (fun s : D_Up => decide (s.1 = x.1)) with
      | none => rw [firstI_none hf]; exact .inr ⟨_, rfl, rfl⟩
      | some q =>
        obtain ⟨hq, _, _⟩ := List.findIdx?_eq_some_iff_getElem.1 hf
        have hy : t[q]? = some t[q] := List.getElem?_eq_getElem hq
        generalize t[q] = y at hy
        obtain ⟨hy1, hy2, hy3⟩ := hI.2 y (List.mem_of_getElem? hy)
        have hyl := nodes_le hy2 hy3
        rw [firstI_some hf]
        simp only [show decide ((q : Int) < 0) = false by simp, idx_nat, hy, Option.bind_some, gb, Bool.not_false, Bool.false_or, contains_eq (l := y.2.1) (n := x.2.1) (by omega), Int.toNat_natCast]
        cases hh : y.2.1.any fun z => decide (z = x.2.1) with
        | false => exact .inr ⟨_, rfl, rfl⟩
        | true =>
          simp only [Bool.not_true, Bool.not_false, isRep_eq, Option.bind_some, Bool.true_and]
          by_cases hn : 0 ≤ x.2.2 ∧ x.2.2 < 3
          · left
            simp only [decide_eq_true hn, Bool.not_true, cond_false, if_true, i_with_eq hy2 hy3 hn, Option.bind_some, wrap_succ (show k < 9223372036854775807 by omega)]
            refine ⟨_, rfl, rfl, repInv_step (x := x) hI ?_⟩
            unfold repStep
            rw [hf]
            simp only [hy, hh, decide_eq_true hn, Bool.true_and, if_true]
          · right
            simp only [decide_eq_false hn, Bool.not_false, cond_true, Bool.false_eq_true, if_false]
            exact ⟨_, rfl, rfl⟩
    · intro t hI
      simp only [ge_dec]; rfl
end Go.Proofs.SL
/- from PC2.lean -/
namespace Go.Proofs.SL
open Go
theorem upHas_ok {u : D_Ups} {x : ByteArray} (h : upsOkB u = true) : upHasB u x = ((upNodes u x).length : Int) := by unfold upHasB; rw [if_pos h]
def lostL (c : D_Catalog) (u : D_Ups) (up : List Bool) : List ByteArray := if catOkB c && upsOkB u && decide (up.length = 3) then (allL c).filter fun x => decide ((haveL u x up).length = 0) else []
theorem s_Lost_eq {c : D_Catalog} {u : D_Ups} {up : List Bool} (ho : Ok.ok c) (hu : Ok.ok u) (hp : up.length ≤ 9223372036854775807) : s_Lost c u up = some (lostL c u up) := by
  unfold s_Lost lostL
  have h3 : decide ((up.length : Int) = 3) = decide (up.length = 3) := by rw [Bool.eq_iff_iff]; simp; omega
  simp only [Prod.eta, s_CatOk_eq ho, s_UpsOk_eq hu, Option.bind_some, gbs, s_AllChunks_eq ho, h3]
  have hl := allL_len ho
  cases catOkB c with
  | false => rfl
  | true =>
    cases hk : upsOkB u with
    | false => rfl
    | true =>
      by_cases h4 : up.length = 3
      · simp only [decide_eq_true h4, Bool.not_true, Bool.not_false, if_true, Bool.or_false, cond_false, Bool.and_true]
        rw [whileP_for (l := allL c) (fun k (t : List ByteArray) => (t, (k : Int))) (fun t n => .inl (if decide ((haveL u n up).length = 0) then t ++ [n] else t)) (fun t => some t) (fun k t => t.length ≤ k) [] (s0 := ([], 0)) rfl (Nat.le_refl _), goE_fold, foldl_filter', List.nil_append]
        · intro k t n hn hI
          have hlt := (List.getElem?_eq_some_iff.1 hn).1
          refine .inl ⟨_, rfl, ?_, ?_⟩
          · have h5 : decide (((haveL u n up).length : Int) = 0) = decide ((haveL u n up).length = 0) := by rw [Bool.eq_iff_iff]; simp
            simp only [lt_dec hlt, cond_true, idx_nat, hn, Option.bind_some, s_l20Have_eq hu hk h4, h5, wrap_succ (show k < 9223372036854775807 by omega)]
            rw [appP_ok (by simp; omega)]
            cases decide ((haveL u n up).length = 0) <;> rfl
          · split
            · simp; omega
            · omega
        · intro t ht
          simp only [ge_dec]; rfl
      · simp only [decide_eq_false h4]; rfl
theorem i_Lost_eq {c : D_Catalog} {u : D_Ups} {up : List Bool} (ho : Ok.ok c) (hu : Ok.ok u) (hp : up.length ≤ 9223372036854775807) : i_Lost c u up = some (lostL c u up) := by
  unfold i_Lost lostL
  have h3 : decide ((up.length : Int) = 3) = decide (up.length = 3) := by rw [Bool.eq_iff_iff]; simp; omega
  simp only [Prod.eta, i_CatOk_eq ho, i_UpsOk_eq hu, Option.bind_some, gbs, i_AllChunks_eq ho, h3, i_Ups_nodes_eq hu.2.1]
  have hl := allL_len ho
  cases catOkB c with
  | false => rfl
  | true =>
    cases hk : upsOkB u with
    | false => rfl
    | true =>
      by_cases h4 : up.length = 3
      · simp only [decide_eq_true h4, Bool.not_true, Bool.not_false, if_true, Bool.or_false, cond_false, Bool.and_true]
        rw [whileP_for (l := allL c) (fun k (t : List ByteArray) => (t, (k : Int))) (fun t n => .inl (if decide ((haveL u n up).length = 0) then t ++ [n] else t)) (fun t => some t) (fun k t => t.length ≤ k) [] (s0 := ([], 0)) rfl (Nat.le_refl _), goE_fold, foldl_filter', List.nil_append]
        · intro k t n hn hI
          have hlt := (List.getElem?_eq_some_iff.1 hn).1
          obtain ⟨hn1, hn2⟩ := upNodes_facts (x := n) hk
          have hnl := nodes_le hn1 hn2
          refine .inl ⟨_, rfl, ?_, ?_⟩
          · have h5 : decide (((haveL u n up).length : Int) = 0) = decide ((haveL u n up).length = 0) := by rw [Bool.eq_iff_iff]; simp
            have h6 : i_upOf (upNodes u n) up = some (haveL u n up) := i_upOf_eq hn1 hnl h4
            simp only [lt_dec hlt, cond_true, idx_nat, hn, Option.bind_some, h6, h5, wrap_succ (show k < 9223372036854775807 by omega)]
            rw [appP_ok (by simp; omega)]
            cases decide ((haveL u n up).length = 0) <;> rfl
          · split
            · simp; omega
            · omega
        · intro t ht
          simp only [ge_dec]; rfl
      · simp only [decide_eq_false h4]; rfl
end Go.Proofs.SL
/- from PRs.lean -/
namespace Go.Proofs.SL
open Go
/-- The copies of one chunk, appended. -/
def repsI (x : ByteArray) (up : List Bool) (h : List Int) : List Int → List D_Copy → Int → List D_Copy
  | [], t, _ => t
  | k :: ks, t, n => if 0 < n then (if (up[k.toNat]?).getD false && !(h.any fun z => decide (z = k)) then repsI x up h ks (t ++ [(x, h.headD 0, k)]) (n - 1) else repsI x up h ks t n) else t
def repsStp (x : ByteArray) (up : List Bool) (h : List Int) {α : Type} (g : List D_Copy → Option α) (s : List D_Copy × Int) (k : Int) : (List D_Copy × Int) ⊕ Option α := if 0 < s.2 then .inl (if (up[k.toNat]?).getD false && !(h.any fun z => decide (z = k)) then (s.1 ++ [(x, h.headD 0, k)], s.2 - 1) else s) else .inr (g s.1)
theorem goE_reps (x : ByteArray) (up : List Bool) (h : List Int) {α : Type} (g : List D_Copy → Option α) : ∀ (ks : List Int) (t : List D_Copy) (n : Int), goE (repsStp x up h g) (fun s => g s.1) ks (t, n) = g (repsI x up h ks t n)
  | [], t, n => rfl
  | k :: ks, t, n => by
    unfold goE repsI repsStp
    by_cases h0 : 0 < n
    · simp only [h0, if_true]
      split
      · exact goE_reps x up h g ks _ _
      · exact goE_reps x up h g ks _ _
    · simp only [h0, if_false]
theorem wrap_id {x : Int} (h1 : -9223372036854775808 ≤ x) (h2 : x ≤ 9223372036854775807) : IntKind.wrap .i64 x = x := wrap64_in (by unfold inR; omega)
theorem repsI_len (x : ByteArray) (up : List Bool) (h : List Int) : ∀ (ks : List Int) (t : List D_Copy) (n : Int), (repsI x up h ks t n).length ≤ t.length + ks.length
  | [], t, n => by simp [repsI]
  | k :: ks, t, n => by
    unfold repsI
    split
    · split
      · have := repsI_len x up h ks (t ++ [(x, h.headD 0, k)]) (n - 1)
        simp only [List.length_append, List.length_cons, List.length_nil] at *
        omega
      · have := repsI_len x up h ks t n
        simp only [List.length_cons] at *
        omega
    · simp only [List.length_cons]; omega
def repsO (u : D_Ups) (up : List Bool) (t : List D_Copy) (x : ByteArray) : List D_Copy := if (haveL u x up).length = 0 then t else repsI x up (haveL u x up) [0, 1, 2] t (2 - ((haveL u x up).length : Int))
def repsL (c : D_Catalog) (u : D_Ups) (up : List Bool) : List D_Copy := if catOkB c && upsOkB u && decide (up.length = 3) then (allL c).foldl (repsO u up) [] else []
theorem repsO_len (u : D_Ups) (up : List Bool) (t : List D_Copy) (x : ByteArray) : (repsO u up t x).length ≤ t.length + 3 := by
  unfold repsO
  split
  · omega
  · have := repsI_len x up (haveL u x up) [0, 1, 2] t (2 - ((haveL u x up).length : Int))
    simpa using this
theorem haveL_facts {u : D_Ups} {x : ByteArray} {up : List Bool} (h : upsOkB u = true) : (haveL u x up).length ≤ 3 := by
  obtain ⟨h1, h2⟩ := upNodes_facts (x := x) h
  exact Nat.le_trans (List.length_filter_le _ _) (nodes_le h1 h2)
theorem have_any {u : D_Ups} {x : ByteArray} {up : List Bool} {k : Int} (h : up[k.toNat]? = some true) : ((haveL u x up).any fun z => decide (z = k)) = ((upNodes u x).any fun z => decide (z = k)) := by
  rw [Bool.eq_iff_iff, any_mem, any_mem]
  unfold haveL
  rw [List.mem_filter, h]
  simp
theorem k3 {j : Nat} {n : Int} (hx : ([0, 1, 2] : List Int)[j]? = some n) : j < 3 ∧ n = (j : Int) := by
  match j, hx with
  | 0, hx => cases hx; simp
  | 1, hx => cases hx; simp
  | 2, hx => cases hx; simp
theorem idx_head {l : List Int} (h : l.length ≠ 0) : idx l 0 = some (l.headD 0) := by
  cases l with
  | nil => exact absurd rfl h
  | cons a l => rfl
theorem s_inner {x : ByteArray} {up : List Bool} {h : List Int} {l : List ByteArray} {j : Int} {t : List D_Copy} {α : Type} {g : List D_Copy → Option (List D_Copy × Int ⊕ α)} (hx : idx l j = some x) (hg : ∀ t, g t = some (.inl ((t, IntKind.wrap .i64 (j + 1))))) (hu : up.length = 3) (hh : h.length ≤ 3) (h0 : h.length ≠ 0) (ht : t.length ≤ 1000) :
    (whileP (fun s11 : (List D_Copy) × Int × Int => cond (((decide (s11.2.2 < 3)) && (decide (0 < (h.length : Int)))) && (decide (0 < s11.2.1))) (Option.bind (idx up s11.2.2) (fun y13 => gb y13 (s_l18Has h s11.2.2) (fun y14 => cond (y13 && (!y14)) (Option.bind (idx l j) (fun y16 => Option.bind (idx h 0) (fun y17 => Option.bind (appP s11.1 [(y16, y17, s11.2.2)]) (fun y19 => some (.inl ((y19, IntKind.wrap .i64 (s11.2.1 - 1), IntKind.wrap .i64 (s11.2.2 + 1)))))))) (some (.inl ((s11.1, s11.2.1, IntKind.wrap .i64 (s11.2.2 + 1)))))))) (Option.map .inr (some (.inl ((s11.1, IntKind.wrap .i64 (j + 1))))))) (t, IntKind.wrap .i64 (2 - (h.length : Int)), 0) : Option (List D_Copy × Int ⊕ α)) = g (repsI x up h [0, 1, 2] t (2 - (h.length : Int))) := by
  have hw : IntKind.wrap .i64 (2 - (h.length : Int)) = 2 - (h.length : Int) := wrap_id (by omega) (by omega)
  have hz : decide (0 < (h.length : Int)) = true := by simp; omega
  rw [hw, hz]
  rw [whileP_for (l := [0, 1, 2]) (fun k (t : List D_Copy × Int) => (t.1, t.2, (k : Int))) (repsStp x up h g) (fun t => g t.1) (fun k s => s.1.length ≤ t.length + k ∧ -3 ≤ s.2 ∧ s.2 ≤ 2) (t, 2 - (h.length : Int)) (s0 := (t, 2 - (h.length : Int), 0)) rfl ⟨Nat.le_refl _, by simp only; omega, by simp only; omega⟩, goE_reps]
  · intro k s n hn hI
    obtain ⟨hk, rfl⟩ := k3 hn
    obtain ⟨hI1, hI2, hI3⟩ := hI
    have hb : up[k]? = some up[k] := List.getElem?_eq_getElem (by omega)
    generalize up[k] = b at hb
    by_cases hp : 0 < s.2
    · refine .inl ⟨if b && !(h.any fun z => decide (z = (k : Int))) then (s.1 ++ [(x, h.headD 0, (k : Int))], s.2 - 1) else s, ?_, ?_, ?_⟩
      · unfold repsStp
        rw [if_pos hp, Int.toNat_natCast, hb, Option.getD_some]
      · simp only [show decide ((k : Int) < 3) = true by simp; omega, decide_eq_true hp, Bool.and_self, cond_true, idx_nat, hb, Option.bind_some, l18Has_eq (l := h) (n := (k : Int)) (by omega), gbs, hx, idx_head h0, wrap_succ (show k < 9223372036854775807 by omega), wrap_id (show -9223372036854775808 ≤ s.2 - 1 by omega) (show s.2 - 1 ≤ 9223372036854775807 by omega)]
        rw [appP_ok (by simp; omega)]
        cases b <;> cases (h.any fun z => decide (z = (k : Int))) <;> rfl
      · split
        · simp only [List.length_append, List.length_cons, List.length_nil]; omega
        · omega
    · refine .inr ⟨g s.1, ?_, ?_⟩
      · unfold repsStp
        rw [if_neg hp]
      · simp only [decide_eq_false hp, Bool.and_false, cond_false, hg]
  · intro s hs
    simp only [hg]; rfl
theorem i_inner {x : ByteArray} {up : List Bool} {h st : List Int} {j : Int} {t : List D_Copy} {α : Type} {g : List D_Copy → Option (List D_Copy × Int ⊕ α)} (hg : ∀ t, g t = some (.inl ((t, IntKind.wrap .i64 (j + 1))))) (hu : up.length = 3) (hh : h.length ≤ 3) (h0 : h.length ≠ 0) (ht : t.length ≤ 1000) (hst : st.length ≤ 3) (hs : ∀ k : Int, up[k.toNat]? = some true → (h.any fun z => decide (z = k)) = st.any fun z => decide (z = k)) :
    (whileP (fun s13 : (List D_Copy) × Int × Int => cond ((decide (s13.2.2 < 3)) && (decide (0 < s13.2.1))) (Option.bind (idx up s13.2.2) (fun y15 => gb y15 (sl_Contains_intint st s13.2.2) (fun y16 => cond (y15 && (!y16)) (Option.bind (idx h 0) (fun y18 => Option.bind (appP s13.1 [(x, y18, s13.2.2)]) (fun y20 => some (.inl ((y20, IntKind.wrap .i64 (s13.2.1 - 1), IntKind.wrap .i64 (s13.2.2 + 1))))))) (some (.inl ((s13.1, s13.2.1, IntKind.wrap .i64 (s13.2.2 + 1)))))))) (Option.map .inr (some (.inl ((s13.1, IntKind.wrap .i64 (j + 1))))))) (t, IntKind.wrap .i64 (2 - (h.length : Int)), 0) : Option (List D_Copy × Int ⊕ α)) = g (repsI x up h [0, 1, 2] t (2 - (h.length : Int))) := by
  have hw : IntKind.wrap .i64 (2 - (h.length : Int)) = 2 - (h.length : Int) := wrap_id (by omega) (by omega)
  rw [hw]
  rw [whileP_for (l := [0, 1, 2]) (fun k (t : List D_Copy × Int) => (t.1, t.2, (k : Int))) (repsStp x up h g) (fun t => g t.1) (fun k s => s.1.length ≤ t.length + k ∧ -3 ≤ s.2 ∧ s.2 ≤ 2) (t, 2 - (h.length : Int)) (s0 := (t, 2 - (h.length : Int), 0)) rfl ⟨Nat.le_refl _, by simp only; omega, by simp only; omega⟩, goE_reps]
  · intro k s n hn hI
    obtain ⟨hk, rfl⟩ := k3 hn
    obtain ⟨hI1, hI2, hI3⟩ := hI
    have hsk := hs (k : Int)
    have hb : up[k]? = some up[k] := List.getElem?_eq_getElem (by omega)
    rw [Int.toNat_natCast] at hsk
    generalize up[k] = b at hb
    by_cases hp : 0 < s.2
    · refine .inl ⟨if b && !(h.any fun z => decide (z = (k : Int))) then (s.1 ++ [(x, h.headD 0, (k : Int))], s.2 - 1) else s, ?_, ?_, ?_⟩
      · unfold repsStp
        rw [if_pos hp, Int.toNat_natCast, hb, Option.getD_some]
      · simp only [show decide ((k : Int) < 3) = true by simp; omega, decide_eq_true hp, Bool.and_self, cond_true, idx_nat, hb, Option.bind_some, contains_eq (l := st) (n := (k : Int)) (by omega), gbs, idx_head h0, wrap_succ (show k < 9223372036854775807 by omega), wrap_id (show -9223372036854775808 ≤ s.2 - 1 by omega) (show s.2 - 1 ≤ 9223372036854775807 by omega)]
        rw [appP_ok (by simp; omega)]
        cases b with
        | false => rfl
        | true =>
          rw [hsk hb]
          cases (st.any fun z => decide (z = (k : Int))) <;> rfl
      · split
        · simp only [List.length_append, List.length_cons, List.length_nil]; omega
        · omega
    · refine .inr ⟨g s.1, ?_, ?_⟩
      · unfold repsStp
        rw [if_neg hp]
      · simp only [decide_eq_false hp, Bool.and_false, cond_false, hg]
  · intro s hs
    simp only [hg]; rfl
theorem s_Repairs_eq {c : D_Catalog} {u : D_Ups} {up : List Bool} (ho : Ok.ok c) (hu : Ok.ok u) (hp : up.length ≤ 9223372036854775807) : s_Repairs c u up = some (repsL c u up) := by
  unfold s_Repairs repsL
  have h3 : decide ((up.length : Int) = 3) = decide (up.length = 3) := by rw [Bool.eq_iff_iff]; simp; omega
  simp only [Prod.eta, s_CatOk_eq ho, s_UpsOk_eq hu, Option.bind_some, gbs, s_AllChunks_eq ho, h3]
  have hl := allL_len ho
  cases catOkB c with
  | false => rfl
  | true =>
    cases hk : upsOkB u with
    | false => rfl
    | true =>
      by_cases h4 : up.length = 3
      · simp only [decide_eq_true h4, Bool.not_true, Bool.not_false, if_true, Bool.or_false, cond_false, Bool.and_true]
        rw [whileP_for (l := allL c) (fun k (t : List D_Copy) => (t, (k : Int))) (fun t n => .inl (repsO u up t n)) (fun t => some t) (fun k t => t.length ≤ 3 * k) [] (s0 := ([], 0)) rfl (Nat.le_refl _), goE_fold]
        · intro k t n hn hI
          have hlt := (List.getElem?_eq_some_iff.1 hn).1
          have hhl := haveL_facts (x := n) (up := up) hk
          refine .inl ⟨_, rfl, ?_, ?_⟩
          · simp only [lt_dec hlt, cond_true, idx_nat, hn, Option.bind_some, s_l20Have_eq hu hk h4]
            by_cases h0 : (haveL u n up).length = 0
            · unfold repsO
              rw [if_pos h0, whileP_eq]
              simp only [h0, Int.natCast_zero, Int.lt_irrefl, decide_false, Bool.and_false, Bool.false_and, cond_false, wrap_succ (show k < 9223372036854775807 by omega)]
              rfl
            · unfold repsO
              rw [if_neg h0]
              rw [show ((k + 1 : Nat) : Int) = IntKind.wrap .i64 ((k : Int) + 1) from (wrap_succ (show k < 9223372036854775807 by omega)).symm]
              have hxk : idx (allL c) (k : Int) = some n := by rw [idx_nat]; exact hn
              have h5 := @s_inner n up (haveL u n up) (allL c) (k : Int) t (List D_Copy) (fun t => some (.inl ((t, IntKind.wrap .i64 ((k : Int) + 1))))) hxk (fun _ => rfl) h4 hhl h0 (by omega)
              simp only [idx_nat, hn, Option.bind_some] at h5
              exact h5
          · have := repsO_len u up t n
            omega
        · intro t ht
          simp only [ge_dec]; rfl
      · simp only [decide_eq_false h4]; rfl
theorem i_Repairs_eq {c : D_Catalog} {u : D_Ups} {up : List Bool} (ho : Ok.ok c) (hu : Ok.ok u) (hp : up.length ≤ 9223372036854775807) : i_Repairs c u up = some (repsL c u up) := by
  unfold i_Repairs repsL
  have h3 : decide ((up.length : Int) = 3) = decide (up.length = 3) := by rw [Bool.eq_iff_iff]; simp; omega
  have hul : u.2.length ≤ 9223372036854775807 := hu.2.1
  simp only [Prod.eta, i_CatOk_eq ho, i_UpsOk_eq hu, Option.bind_some, gbs, i_AllChunks_eq ho, i_Ups_nodes_eq hul, h3]
  have hl := allL_len ho
  cases catOkB c with
  | false => rfl
  | true =>
    cases hk : upsOkB u with
    | false => rfl
    | true =>
      by_cases h4 : up.length = 3
      · simp only [decide_eq_true h4, Bool.not_true, Bool.not_false, if_true, Bool.or_false, cond_false, Bool.and_true]
        rw [whileP_for (l := allL c) (fun k (t : List D_Copy) => (t, (k : Int))) (fun t n => .inl (repsO u up t n)) (fun t => some t) (fun k t => t.length ≤ 3 * k) [] (s0 := ([], 0)) rfl (Nat.le_refl _), goE_fold]
        · intro k t n hn hI
          have hlt := (List.getElem?_eq_some_iff.1 hn).1
          have hhl := haveL_facts (x := n) (up := up) hk
          obtain ⟨hn1, hn2⟩ := upNodes_facts (x := n) hk
          have hnl := nodes_le hn1 hn2
          have h6 : i_upOf (upNodes u n) up = some (haveL u n up) := i_upOf_eq hn1 hnl h4
          refine .inl ⟨_, rfl, ?_, ?_⟩
          · simp only [lt_dec hlt, cond_true, idx_nat, hn, Option.bind_some, h6]
            by_cases h0 : (haveL u n up).length = 0
            · unfold repsO
              simp only [h0, if_true, Int.natCast_zero, decide_true, cond_true, wrap_succ (show k < 9223372036854775807 by omega)]
            · unfold repsO
              rw [if_neg h0]
              rw [show ((k + 1 : Nat) : Int) = IntKind.wrap .i64 ((k : Int) + 1) from (wrap_succ (show k < 9223372036854775807 by omega)).symm]
              rw [show decide (((haveL u n up).length : Int) = 0) = false by simp; exact fun h => h0 (by rw [h]; rfl)]
              exact @i_inner n up (haveL u n up) (upNodes u n) (k : Int) t (List D_Copy) (fun t => some (.inl ((t, IntKind.wrap .i64 ((k : Int) + 1))))) (fun _ => rfl) h4 hhl h0 (by omega) hnl (fun k hk => have_any hk)
          · have := repsO_len u up t n
            omega
        · intro t ht
          simp only [ge_dec]; rfl
      · simp only [decide_eq_false h4]; rfl
end Go.Proofs.SL
/- from PD1.lean -/
namespace Go.Proofs.SL
open Go
def CurOk (d : D_l1Cur) : Prop := 0 ≤ d.2.1 ∧ d.2.1 ≤ (d.1.length : Int) ∧ d.1.length ≤ 4611686018427387904
theorem and255i (x : Int) : 0 ≤ bits .and .i64 x 255 ∧ bits .and .i64 x 255 ≤ 255 := and_mask x 255 (by omega)
theorem byte_ok {d : D_l1Cur} (h : CurOk d) : ∃ n d', s_l1Byte d = some (n, d') ∧ (0 ≤ n ∧ n ≤ 255) ∧ CurOk d' ∧ d'.1 = d.1 := by
  obtain ⟨b, i, q⟩ := d
  obtain ⟨h1, h2, h3⟩ := h
  dsimp only at h1 h2 h3
  unfold s_l1Byte
  dsimp only
  by_cases hi : i < (b.length : Int)
  · obtain ⟨k, rfl⟩ := Int.eq_ofNat_of_zero_le h1
    have hk : b[k]? = some (b[k]'(by omega)) := List.getElem?_eq_getElem _
    rw [decide_eq_true hi, cond_true, idx_nat, hk]
    refine ⟨_, _, rfl, and255i _, ⟨?_, ?_, h3⟩, rfl⟩
    · dsimp only; rw [wrap_succ (by omega)]; omega
    · dsimp only; rw [wrap_succ (by omega)]; omega
  · rw [decide_eq_false hi, cond_false]
    exact ⟨_, _, rfl, and255i _, ⟨h1, h2, h3⟩, rfl⟩
theorem tmod_lt {a n : Int} (h : 0 ≤ a) (hn : 0 < n) : 0 ≤ a.tmod n ∧ a.tmod n < n := by
  rw [Int.tmod_eq_emod_of_nonneg h]
  exact ⟨Int.emod_nonneg _ (by omega), Int.emod_lt_of_pos _ hn⟩
theorem below_ok {d : D_l1Cur} (h : CurOk d) (n : Int) : ∃ x d', s_l1Below d n = some (x, d') ∧ (0 ≤ x ∧ (0 < n → x < n) ∧ (n ≤ 0 → x = 0)) ∧ CurOk d' := by
  unfold s_l1Below
  simp only [Prod.eta]
  by_cases h0 : n ≤ 0
  · rw [decide_eq_true h0, cond_true]
    exact ⟨_, _, rfl, ⟨Int.le_refl _, fun h => by omega, fun _ => rfl⟩, h⟩
  · rw [decide_eq_false h0, cond_false]
    have hr : ∀ a, 0 ≤ a → ∃ x, remP a n = some x ∧ (0 ≤ x ∧ (0 < n → x < n) ∧ (n ≤ 0 → x = 0)) := fun a ha => by
      have := tmod_lt ha (show 0 < n by omega)
      exact ⟨_, by unfold remP; rw [if_neg (by omega)], this.1, fun _ => this.2, fun h => by omega⟩
    by_cases h1 : n ≤ 256
    · rw [decide_eq_true h1, cond_true]
      obtain ⟨y, d1, e1, g1, c1, _⟩ := byte_ok h
      obtain ⟨x, ex, gx⟩ := hr y g1.1
      rw [e1, Option.bind_some]
      dsimp only
      rw [ex]
      exact ⟨x, d1, rfl, gx, c1⟩
    · rw [decide_eq_false h1, cond_false]
      obtain ⟨y1, d1, e1, g1, c1, _⟩ := byte_ok h
      obtain ⟨y2, d2, e2, g2, c2, _⟩ := byte_ok c1
      obtain ⟨y3, d3, e3, g3, c3, _⟩ := byte_ok c2
      obtain ⟨y4, d4, e4, g4, c4, _⟩ := byte_ok c3
      simp only [e1, e2, e3, e4, Option.bind_some]
      obtain ⟨x, ex, gx⟩ := hr (IntKind.wrap .i64 (IntKind.wrap .i64 (IntKind.wrap .i64 (IntKind.wrap .i64 (y1 * 16777216) + IntKind.wrap .i64 (y2 * 65536)) + IntKind.wrap .i64 (y3 * 256)) + y4)) (by
        rw [wrap64_in (n := y1 * 16777216) (by unfold inR; omega), wrap64_in (n := y2 * 65536) (by unfold inR; omega), wrap64_in (n := y3 * 256) (by unfold inR; omega), wrap64_in (n := y1 * 16777216 + y2 * 65536) (by unfold inR; omega), wrap64_in (n := y1 * 16777216 + y2 * 65536 + y3 * 256) (by unfold inR; omega), wrap64_in (by unfold inR; omega)]
        omega)
      rw [ex]
      exact ⟨x, d4, rfl, gx, c4⟩
theorem below_ok' {d : D_l1Cur} (h : CurOk d) (n : Int) : ∃ x d', s_l1Below d n = some (x, d') ∧ (0 ≤ x ∧ (0 < n → x < n) ∧ (n ≤ 0 → x = 0)) ∧ CurOk d' ∧ d'.1 = d.1 := by
  unfold s_l1Below
  simp only [Prod.eta]
  by_cases h0 : n ≤ 0
  · rw [decide_eq_true h0, cond_true]
    exact ⟨_, _, rfl, ⟨Int.le_refl _, fun h => by omega, fun _ => rfl⟩, h, rfl⟩
  · rw [decide_eq_false h0, cond_false]
    have hr : ∀ a, 0 ≤ a → ∃ x, remP a n = some x ∧ (0 ≤ x ∧ (0 < n → x < n) ∧ (n ≤ 0 → x = 0)) := fun a ha => by
      have := tmod_lt ha (show 0 < n by omega)
      exact ⟨_, by unfold remP; rw [if_neg (by omega)], this.1, fun _ => this.2, fun h => by omega⟩
    by_cases h1 : n ≤ 256
    · rw [decide_eq_true h1, cond_true]
      obtain ⟨y, d1, e1, g1, c1, f1⟩ := byte_ok h
      obtain ⟨x, ex, gx⟩ := hr y g1.1
      rw [e1, Option.bind_some]
      dsimp only
      rw [ex]
      exact ⟨x, d1, rfl, gx, c1, f1⟩
    · rw [decide_eq_false h1, cond_false]
      obtain ⟨y1, d1, e1, g1, c1, f1⟩ := byte_ok h
      obtain ⟨y2, d2, e2, g2, c2, f2⟩ := byte_ok c1
      obtain ⟨y3, d3, e3, g3, c3, f3⟩ := byte_ok c2
      obtain ⟨y4, d4, e4, g4, c4, f4⟩ := byte_ok c3
      simp only [e1, e2, e3, e4, Option.bind_some]
      obtain ⟨x, ex, gx⟩ := hr (IntKind.wrap .i64 (IntKind.wrap .i64 (IntKind.wrap .i64 (IntKind.wrap .i64 (y1 * 16777216) + IntKind.wrap .i64 (y2 * 65536)) + IntKind.wrap .i64 (y3 * 256)) + y4)) (by
        rw [wrap64_in (n := y1 * 16777216) (by unfold inR; omega), wrap64_in (n := y2 * 65536) (by unfold inR; omega), wrap64_in (n := y3 * 256) (by unfold inR; omega), wrap64_in (n := y1 * 16777216 + y2 * 65536) (by unfold inR; omega), wrap64_in (n := y1 * 16777216 + y2 * 65536 + y3 * 256) (by unfold inR; omega), wrap64_in (by unfold inR; omega)]
        omega)
      rw [ex]
      exact ⟨x, d4, rfl, gx, c4, by rw [f4, f3, f2, f1]⟩
theorem once_ok {d : D_l1Cur} (h : CurOk d) (n : Int) : ∃ x d', s_l1Once d n = some (x, d') ∧ CurOk d' := by
  unfold s_l1Once
  simp only [Prod.eta]
  obtain ⟨x, d', e, _, c⟩ := below_ok h n
  rw [e]
  exact ⟨_, d', rfl, c⟩
theorem u8P_wrap (z : Int) : ∃ b, u8P (IntKind.wrap .u8 z) = some b := by
  rw [IntKind.wrap_u8]
  exact ⟨_, if_pos ⟨Int.emod_nonneg _ (by omega), Int.emod_lt_of_pos _ (by omega)⟩⟩
theorem text_ok' {d : D_l1Cur} (h : CurOk d) {n : Int} (h0 : 0 ≤ n) (hn : n ≤ 1000000) : ∃ s d', s_l1Text d n = some (s, d') ∧ (s.size : Int) ≤ n ∧ CurOk d' ∧ d'.1 = d.1 := by
  unfold s_l1Text
  simp only [Prod.eta, Option.bind_some]
  obtain ⟨y3, d3, e3, _, c3, f3⟩ := below_ok' h 4
  rw [e3, Option.bind_some]
  dsimp only
  rw [wrap64_in (by unfold inR; omega)]
  obtain ⟨y4, d4, e4, g4, c4, f4⟩ := below_ok' c3 (n + 1)
  rw [e4, Option.bind_some]
  dsimp only
  have hy := g4.2.1 (by omega)
  refine (fun ⟨r, hr, hq⟩ => ⟨r.1, r.2, hr, hq⟩ : (∃ r : ByteArray × D_l1Cur, _ = some r ∧ ((r.1.size : Int) ≤ n ∧ CurOk r.2 ∧ r.2.1 = d.1)) → _) (whileP_rule (fun s : List UInt8 × Int × Int × Int => 0 ≤ s.2.1 ∧ (s.1.length : Int) + s.2.1 ≤ n ∧ CurOk (d4.1, s.2.2.1, s.2.2.2)) (fun s => s.2.1.toNat) _ ?_ ([], y4, d4.2.1, d4.2.2) ⟨g4.1, by simp; omega, c4⟩)
  · rintro ⟨out, k, i, q⟩ ⟨h1, h2, h3⟩
    dsimp only at h1 h2 h3 ⊢
    by_cases hk : 0 < k
    · left
      obtain ⟨y7, d7, e7, g7, c7, e71⟩ := byte_ok h3
      simp only [decide_eq_true hk, cond_true, e7, Option.bind_some]
      have ho : ∀ b : UInt8, appP out [b] = some (out ++ [b]) := fun b => appP_ok (by simp; omega)
      have hfin : ∀ b : UInt8, 0 ≤ IntKind.wrap .i64 (k - 1) ∧ (((out ++ [b]).length : Nat) : Int) + IntKind.wrap .i64 (k - 1) ≤ n ∧ CurOk (d4.1, d7.2.1, d7.2.2) := fun b => by
        rw [wrap64_in (by unfold inR; omega), List.length_append]
        refine ⟨by omega, by simp; omega, ?_⟩
        have := c7
        unfold CurOk at this ⊢
        dsimp only at e71 ⊢
        rw [e71] at this
        exact this
      have hm : (IntKind.wrap .i64 (k - 1)).toNat < k.toNat := by rw [wrap64_in (by unfold inR; omega)]; omega
      have fin : ∀ z : Int, ∃ s', (Option.bind (u8P (IntKind.wrap .u8 z)) fun y => Option.bind (appP out [y]) fun y' => some (Sum.inl (β := ByteArray × D_l1Cur) (y', IntKind.wrap .i64 (k - 1), d7.2.1, d7.2.2))) = some (.inl s') ∧ (0 ≤ s'.2.1 ∧ (s'.1.length : Int) + s'.2.1 ≤ n ∧ CurOk (d4.1, s'.2.2.1, s'.2.2.2)) ∧ s'.2.1.toNat < k.toNat := fun z => by
        obtain ⟨b, hb⟩ := u8P_wrap z
        rw [hb, Option.bind_some, ho, Option.bind_some]
        exact ⟨_, rfl, hfin b, hm⟩
      cases decide (y3 = 1) <;> cases decide (y3 = 2) <;> exact fin _
    · right
      simp only [decide_eq_false hk, cond_false]
      refine ⟨_, rfl, ?_, h3, by dsimp only; rw [f4, f3]⟩
      dsimp only
      show ((out.length : Nat) : Int) ≤ n
      omega
theorem new_ok {l : List UInt8} (h : l.length ≤ 1048576) : ∃ d, s_l1New l = some d ∧ CurOk d := by
  unfold s_l1New
  refine whileP_rule (fun s : Int × Int => 0 ≤ s.2 ∧ s.2 ≤ (l.length : Int)) (fun s => (l.length - s.2.toNat)) (fun d : D_l1Cur => CurOk d) ?_ (IntKind.wrap .i64 (10101 + (l.length : Int)), 0) ⟨by simp, by simp⟩
  · rintro ⟨q, i⟩ ⟨h1, h2⟩
    dsimp only at h1 h2 ⊢
    by_cases hi : i < (l.length : Int)
    · rw [decide_eq_true hi, Bool.true_and]
      by_cases h4 : i < 4000
      · left
        obtain ⟨k, rfl⟩ := Int.eq_ofNat_of_zero_le h1
        have hk : l[k]? = some (l[k]'(by omega)) := List.getElem?_eq_getElem _
        rw [decide_eq_true h4, cond_true, idx_nat, hk]
        refine ⟨_, rfl, ?_, ?_⟩
        · dsimp only; rw [wrap_succ (by omega)]; omega
        · dsimp only; rw [wrap_succ (by omega)]; omega
      · right
        rw [decide_eq_false h4, cond_false]
        exact ⟨_, rfl, by dsimp only; simp, by dsimp only; simp, by dsimp only; omega⟩
    · right
      rw [decide_eq_false hi, Bool.false_and, cond_false]
      exact ⟨_, rfl, by dsimp only; simp, by dsimp only; simp, by dsimp only; omega⟩
end Go.Proofs.SL
/- from PDk.lean -/
namespace Go.Proofs.SL
open Go
theorem whileP_is {σ α : Type} {f : σ → Option (σ ⊕ α)} {r : α} {s : σ} (I : σ → Prop) (μ : σ → Nat) (h : ∀ s, I s → (∃ s', f s = some (.inl s') ∧ I s' ∧ μ s' < μ s) ∨ f s = some (.inr r)) (hs : I s) : whileP f s = some r := by
  obtain ⟨a, ha, rfl⟩ := whileP_rule I μ (· = r) (fun s hs => (h s hs).imp id fun h => ⟨r, h, rfl⟩) s hs
  exact ha
theorem once_ok' {d : D_l1Cur} (h : CurOk d) (n : Int) : ∃ x d', s_l1Once d n = some (x, d') ∧ CurOk d' ∧ d'.1 = d.1 := by
  unfold s_l1Once
  simp only [Prod.eta]
  obtain ⟨x, d', e, _, c, f⟩ := below_ok' h n
  rw [e]
  exact ⟨_, d', rfl, c, f⟩
theorem pickint_ok' {d : D_l1Cur} (h : CurOk d) {l : List Int} (hl : 0 < l.length) : ∃ x d', s_l1PickInt d l = some (x, d') ∧ x ∈ l ∧ CurOk d' ∧ d'.1 = d.1 := by
  unfold s_l1PickInt
  simp only [Prod.eta]
  obtain ⟨y, d1, e1, g1, c1, f1⟩ := below_ok' h (l.length : Int)
  rw [e1, Option.bind_some]
  dsimp only
  obtain ⟨k, rfl⟩ := Int.eq_ofNat_of_zero_le g1.1
  have hk : k < l.length := by have := g1.2.1 (by omega); omega
  rw [idx_nat, List.getElem?_eq_getElem hk, Option.bind_some]
  exact ⟨_, _, rfl, List.getElem_mem hk, c1, f1⟩
theorem pick_ok' {d : D_l1Cur} (h : CurOk d) {l : List ByteArray} (hl : 0 < l.length) : ∃ x d', s_l1Pick d l = some (x, d') ∧ x ∈ l ∧ CurOk d' ∧ d'.1 = d.1 := by
  unfold s_l1Pick
  simp only [Prod.eta]
  obtain ⟨y, d1, e1, g1, c1, f1⟩ := below_ok' h (l.length : Int)
  rw [e1, Option.bind_some]
  dsimp only
  obtain ⟨k, rfl⟩ := Int.eq_ofNat_of_zero_le g1.1
  have hk : k < l.length := by have := g1.2.1 (by omega); omega
  rw [idx_nat, List.getElem?_eq_getElem hk, Option.bind_some]
  exact ⟨_, _, rfl, List.getElem_mem hk, c1, f1⟩
end Go.Proofs.SL
/- from PH1.lean -/
namespace Go.Proofs.SL
open Go
abbrev Wd := BitVec 32
def iv (w : Wd) : Int := (w.toNat : Int)
def t32 (n : Int) : Wd := BitVec.ofInt 32 n
theorem iv_ge (w : Wd) : 0 ≤ iv w := by unfold iv; omega
theorem iv_lt (w : Wd) : iv w < 4294967296 := by unfold iv; have := w.isLt; omega
theorem t32_nat (n : Int) : ((t32 n).toNat : Int) = n % 4294967296 := by
  unfold t32; rw [BitVec.toNat_ofInt]; omega
theorem t32_of {a b : Int} (h : a % 4294967296 = b % 4294967296) : t32 a = t32 b := by
  apply BitVec.eq_of_toNat_eq
  have h1 := t32_nat a; have h2 := t32_nat b; omega
theorem iv_inj {a b : Wd} (h : iv a = iv b) : a = b := by
  apply BitVec.eq_of_toNat_eq; unfold iv at h; omega
theorem iv_t32 (n : Int) : iv (t32 n) = n % 4294967296 := t32_nat n
theorem t32_iv (w : Wd) : t32 (iv w) = w := by
  apply iv_inj; rw [iv_t32]; have := iv_ge w; have := iv_lt w; omega
theorem t32_wrap (n : Int) : t32 (IntKind.wrap .i64 n) = t32 n := t32_of (by rw [IntKind.wrap_i64]; omega)
theorem t32_add (a b : Int) : t32 (a + b) = t32 a + t32 b := by unfold t32; rw [BitVec.ofInt_add]
theorem t32_64 (n : Int) : (BitVec.ofInt 64 n).setWidth 32 = t32 n := by
  apply BitVec.eq_of_toNat_eq
  rw [BitVec.toNat_setWidth, BitVec.toNat_ofInt]
  have := t32_nat n
  omega
theorem t32_nat64 (x : BitVec 64) : t32 (x.toNat : Int) = x.setWidth 32 := by
  unfold t32; rw [BitVec.ofInt_natCast]; apply BitVec.eq_of_toNat_eq; rw [BitVec.toNat_ofNat, BitVec.toNat_setWidth]
theorem t32_xor (a b : Int) : t32 (bits .xor .i64 a b) = t32 a ^^^ t32 b := by
  show t32 (IntKind.wrap .i64 (((BitVec.ofInt 64 a) ^^^ (BitVec.ofInt 64 b)).toNat : Int)) = _
  rw [t32_wrap, t32_nat64, BitVec.setWidth_xor, t32_64, t32_64]
theorem t32_and (a b : Int) : t32 (bits .and .i64 a b) = t32 a &&& t32 b := by
  show t32 (IntKind.wrap .i64 (((BitVec.ofInt 64 a) &&& (BitVec.ofInt 64 b)).toNat : Int)) = _
  rw [t32_wrap, t32_nat64, BitVec.setWidth_and, t32_64, t32_64]
theorem t32_or (a b : Int) : t32 (bits .or .i64 a b) = t32 a ||| t32 b := by
  show t32 (IntKind.wrap .i64 (((BitVec.ofInt 64 a) ||| (BitVec.ofInt 64 b)).toNat : Int)) = _
  rw [t32_wrap, t32_nat64, BitVec.setWidth_or, t32_64, t32_64]
theorem oM64 : t32 (if IntKind.signed .i64 then (-1 : Int) else IntKind.max .i64) = BitVec.allOnes 32 := by decide
theorem shr_iv (a : Wd) (n : Nat) : iv a / 2 ^ n = iv (a >>> n) := by
  unfold iv
  rw [BitVec.toNat_ushiftRight, Nat.shiftRight_eq_div_pow]
  simp
theorem t32_shl (a : Int) (n : Nat) : t32 (a * 2 ^ n) = t32 a <<< n := by
  apply iv_inj
  rw [iv_t32]; unfold iv
  rw [BitVec.toNat_shiftLeft, Nat.shiftLeft_eq]
  have h := t32_nat a
  have : ((((t32 a).toNat * 2 ^ n) % 2 ^ 32 : Nat) : Int) = ((((t32 a).toNat : Int) * 2 ^ n) % 4294967296) := by
    rw [Int.natCast_emod, Int.natCast_mul]; simp
  rw [this, h, Int.mul_emod a (2 ^ n), Int.mul_emod (a % 4294967296) (2 ^ n), Int.emod_emod_of_dvd a (Int.dvd_refl _)]
/-- An unsigned word that a wider number holds. -/
theorem or64_iv (a b : Wd) : bits .or .i64 (iv a) (iv b) = iv (a ||| b) := by
  show IntKind.wrap .i64 (((BitVec.ofInt 64 (iv a)) ||| (BitVec.ofInt 64 (iv b))).toNat : Int) = _
  have h : ∀ w : Wd, BitVec.ofInt 64 (iv w) = w.setWidth 64 := fun w => by
    apply BitVec.eq_of_toNat_eq
    rw [BitVec.toNat_ofInt, BitVec.toNat_setWidth]
    unfold iv
    omega
  rw [h, h, ← BitVec.setWidth_or]
  have h2 : (((a ||| b).setWidth 64).toNat : Int) = iv (a ||| b) := by
    rw [BitVec.toNat_setWidth]; unfold iv; have := (a ||| b).isLt; omega
  rw [h2, wrap64_in]
  unfold inR; have := iv_ge (a ||| b); have := iv_lt (a ||| b); omega
/-- Turning to the right. -/
def ror (a : Wd) (n : Nat) : Wd := a >>> n ||| a <<< (32 - n)
section
variable {σ τ α : Type}
def it (step : Nat → τ → τ) : Nat → τ → τ
  | 0, t => t
  | n + 1, t => step n (it step n t)
theorem whileP_n {F : σ → Option (σ ⊕ α)} (mk : Nat → τ → σ) (step : Nat → τ → τ) {n : Nat} {t0 : τ} {s0 : σ} (h0 : s0 = mk 0 t0)
    (hs : ∀ i t, i < n → F (mk i t) = some (.inl (mk (i + 1) (step i t)))) {o : Option α} (he : F (mk n (it step n t0)) = o.map .inr) : whileP F s0 = o := by
  have key : ∀ m, m ≤ n → whileP F (mk 0 t0) = whileP F (mk m (it step m t0)) := by
    intro m hm
    induction m with
    | zero => rfl
    | succ m ih =>
      rw [ih (by omega), whileP_eq, hs m _ (by omega)]
      rfl
  rw [h0, key n (Nat.le_refl _), whileP_eq, he]
  cases o <;> rfl
end
def arr (n : Nat) (f : Nat → Wd) : List Int := (List.range n).map fun j => iv (f j)
theorem arr_len (n : Nat) (f : Nat → Wd) : (arr n f).length = n := by unfold arr; simp
theorem arr_get {n j : Nat} (f : Nat → Wd) (h : j < n) : (arr n f)[j]? = some (iv (f j)) := by
  unfold arr; rw [List.getElem?_map, List.getElem?_range h]; rfl
theorem arr_idx {n j : Nat} (f : Nat → Wd) (h : j < n) : idx (arr n f) (j : Int) = some (iv (f j)) := by rw [idx_nat, arr_get f h]
def upd (f : Nat → Wd) (j : Nat) (v : Wd) : Nat → Wd := fun k => if k = j then v else f k
theorem arr_set (n j : Nat) (f : Nat → Wd) (v : Wd) : (arr n f).set j (iv v) = arr n (upd f j v) := by
  apply List.ext_getElem?
  intro k
  rw [List.getElem?_set]
  by_cases hk : k < n
  · rw [arr_get _ hk, arr_get _ hk, arr_len]
    unfold upd
    by_cases h : j = k
    · subst h; simp [hk]
    · rw [if_neg h, if_neg (fun h' => h h'.symm)]
  · have h1 : ∀ g, (arr n g)[k]? = none := fun g => List.getElem?_eq_none (by rw [arr_len]; omega)
    rw [h1, h1, arr_len]
    by_cases h : j = k
    · subst h; simp; omega
    · rw [if_neg h]
/-- The bytes of a text. -/
def byt (s : ByteArray) (i : Nat) : UInt8 := if h : i < s.size then s[i] else 0
theorem sidx_byt {s : ByteArray} {i : Nat} (h : i < s.size) : sidx s (i : Int) = some ((byt s i).toNat : Int) := by
  unfold sidx byt; rw [dif_pos ⟨by omega, by simpa using h⟩, dif_pos h]; simp
def bw (b : UInt8) : Wd := BitVec.ofNat 32 b.toNat
theorem bw_iv (b : UInt8) : (b.toNat : Int) = iv (bw b) := by
  unfold iv bw; rw [BitVec.toNat_ofNat]; have := b.toNat_lt; omega
def wrd (s : ByteArray) (i : Nat) : Wd := bw (byt s i) <<< 24 ||| bw (byt s (i + 1)) <<< 16 ||| bw (byt s (i + 2)) <<< 8 ||| bw (byt s (i + 3))
theorem wrap64_iv (a : Wd) : IntKind.wrap .i64 (iv a) = iv a := wrap64_in (by unfold inR; have := iv_ge a; have := iv_lt a; omega)
theorem shl64_byte (b : UInt8) (n : Nat) (hn : n ≤ 24) : IntKind.wrap .i64 (iv (bw b) * 2 ^ n) = iv (bw b <<< n) := by
  have h1 : iv (bw b) < 256 := by rw [← bw_iv]; have := b.toNat_lt; omega
  have h0 := iv_ge (bw b)
  have h2 : (2 : Int) ^ n ≤ 2 ^ 24 := by
    have : (2 : Nat) ^ n ≤ 2 ^ 24 := Nat.pow_le_pow_right (by omega) hn
    exact_mod_cast this
  have h3 : (0 : Int) < 2 ^ n := Int.pow_pos (by omega)
  have h4 : iv (bw b) * 2 ^ n < 4294967296 := by
    calc iv (bw b) * 2 ^ n ≤ 255 * 2 ^ n := Int.mul_le_mul_of_nonneg_right (by omega) (by omega)
      _ ≤ 255 * 2 ^ 24 := Int.mul_le_mul_of_nonneg_left h2 (by omega)
      _ < 4294967296 := by decide
  have h5 : 0 ≤ iv (bw b) * 2 ^ n := Int.mul_nonneg h0 (by omega)
  rw [wrap64_in (by unfold inR; omega)]
  have h6 := t32_shl (iv (bw b)) n
  rw [t32_iv] at h6
  rw [← h6, iv_t32, Int.emod_eq_of_lt h5 h4]
end Go.Proofs.SL
/- from PH2.lean -/
namespace Go.Proofs.SL
open Go
def kW (j : Nat) : Wd := t32 (gA0.getD j 0)
theorem gA0_arr : gA0 = arr 64 kW := by kernel_rfl
def sg0 (a : Wd) : Wd := ror a 7 ^^^ ror a 18 ^^^ a >>> 3
def sg1 (b : Wd) : Wd := ror b 17 ^^^ ror b 19 ^^^ b >>> 10
def sch1 (s : ByteArray) (i : Nat) (f : Nat → Wd) : Nat → Wd := upd f i (wrd s (4 * i))
def sch2 (i : Nat) (f : Nat → Wd) : Nat → Wd := upd f (i + 16) (f i + sg0 (f (i + 1)) + f (i + 9) + sg1 (f (i + 14)))
def bg1 (e : Wd) : Wd := ror e 6 ^^^ ror e 11 ^^^ ror e 25
def bg0 (e : Wd) : Wd := ror e 2 ^^^ ror e 13 ^^^ ror e 22
def chs (e f g : Wd) : Wd := (e &&& f) ^^^ ((BitVec.allOnes 32 ^^^ e) &&& g)
def mst (a b c : Wd) : Wd := (a &&& b) ^^^ (a &&& c) ^^^ (b &&& c)
def tmp (w : Nat → Wd) (i : Nat) (v : Nat → Wd) : Wd := v 7 + bg1 (v 4) + chs (v 4) (v 5) (v 6) + kW i + w i
def rnd (w : Nat → Wd) (i : Nat) (v : Nat → Wd) : Nat → Wd
  | 0 => tmp w i v + bg0 (v 0) + mst (v 0) (v 1) (v 2)
  | 1 => v 0
  | 2 => v 1
  | 3 => v 2
  | 4 => v 3 + tmp w i v
  | 5 => v 4
  | 6 => v 5
  | _ => v 6
def wAll (s : ByteArray) : Nat → Wd := it sch2 48 (it (sch1 s) 16 fun _ => 0)
def shaB (h : Nat → Wd) (s : ByteArray) : Nat → Wd := fun j => h j + it (rnd (wAll s)) 64 h j
theorem arr_zero (n : Nat) : List.replicate n (0 : Int) = arr n fun _ => 0 := by
  unfold arr
  apply List.ext_getElem?
  intro k
  by_cases h : k < n
  · rw [List.getElem?_replicate, if_pos h, List.getElem?_map, List.getElem?_range h]; rfl
  · rw [List.getElem?_replicate, if_neg h, List.getElem?_eq_none (by simp; omega)]
theorem arr8 (f : Nat → Wd) : arr 8 f = [iv (f 0), iv (f 1), iv (f 2), iv (f 3), iv (f 4), iv (f 5), iv (f 6), iv (f 7)] := rfl
section
variable {α β : Type}
theorem bnd {o : Option α} {a : α} {f : α → Option β} {r : Option β} (h : o = some a) (k : f a = r) : Option.bind o f = r := by rw [h]; exact k
theorem condT {b : Bool} {x y r : α} (h : b = true) (k : x = r) : cond b x y = r := by rw [h]; exact k
theorem condF {b : Bool} {x y r : α} (h : b = false) (k : y = r) : cond b x y = r := by rw [h]; exact k
end
theorem i8 (f : Nat → Wd) (j : Nat) (h : j < 8) {i : Int} (hi : i = (j : Int)) : idx (arr 8 f) i = some (iv (f j)) := by subst hi; exact arr_idx f h
theorem i3 : (3 : Int).toNat = 3 := rfl
theorem i8' : (8 : Int).toNat = 8 := rfl
theorem i10 : (10 : Int).toNat = 10 := rfl
theorem i16 : (16 : Int).toNat = 16 := rfl
theorem i24 : (24 : Int).toNat = 24 := rfl
end Go.Proofs.SL
/- from PH3.lean -/
namespace Go.Proofs.SL
open Go
theorem sidx_lit {s : ByteArray} (i : Nat) {n : Int} (hn : n = (i : Int)) (h : i < s.size) : sidx s n = some ((byt s i).toNat : Int) := by subst hn; exact sidx_byt h
theorem rnd_0 (w v : Nat → Wd) (i : Nat) : rnd w i v 0 = v 7 + (ror (v 4) 6 ^^^ ror (v 4) 11 ^^^ ror (v 4) 25) + ((v 4 &&& v 5) ^^^ ((BitVec.allOnes 32 ^^^ v 4) &&& v 6)) + kW i + w i + (ror (v 0) 2 ^^^ ror (v 0) 13 ^^^ ror (v 0) 22) + ((v 0 &&& v 1) ^^^ (v 0 &&& v 2) ^^^ (v 1 &&& v 2)) := rfl
theorem rnd_4 (w v : Nat → Wd) (i : Nat) : rnd w i v 4 = v 3 + (v 7 + (ror (v 4) 6 ^^^ ror (v 4) 11 ^^^ ror (v 4) 25) + ((v 4 &&& v 5) ^^^ ((BitVec.allOnes 32 ^^^ v 4) &&& v 6)) + kW i + w i) := rfl
theorem rnd_1 (w v : Nat → Wd) (i : Nat) : rnd w i v 1 = v 0 := rfl
theorem rnd_2 (w v : Nat → Wd) (i : Nat) : rnd w i v 2 = v 1 := rfl
theorem rnd_3 (w v : Nat → Wd) (i : Nat) : rnd w i v 3 = v 2 := rfl
theorem rnd_5 (w v : Nat → Wd) (i : Nat) : rnd w i v 5 = v 4 := rfl
theorem rnd_6 (w v : Nat → Wd) (i : Nat) : rnd w i v 6 = v 5 := rfl
theorem rnd_7 (w v : Nat → Wd) (i : Nat) : rnd w i v 7 = v 6 := rfl
end Go.Proofs.SL
/- from PH4.lean -/
namespace Go.Proofs.SL
open Go
noncomputable def s_lb1 {α : Type} (a1 : ByteArray) (s3 : (List Int) × Int) (kk : Option α) : Option (((List Int) × Int) ⊕ α) :=
  cond (decide (s3.2 < 16)) (Option.bind (sidx a1 (IntKind.wrap .i64 (4 * s3.2))) (fun y5 => Option.bind (sidx a1 (IntKind.wrap .i64 (IntKind.wrap .i64 (4 * s3.2) + 1))) (fun y6 => Option.bind (sidx a1 (IntKind.wrap .i64 (IntKind.wrap .i64 (4 * s3.2) + 2))) (fun y7 => Option.bind (sidx a1 (IntKind.wrap .i64 (IntKind.wrap .i64 (4 * s3.2) + 3))) (fun y8 => Option.bind (idx s3.1 s3.2) (fun y9 => Option.bind (some (s3.1.set (s3.2.toNat) (bits .or .i64 (bits .or .i64 (bits .or .i64 (IntKind.wrap .i64 (IntKind.wrap .i64 y5 * 2 ^ (24 : Int).toNat)) (IntKind.wrap .i64 (IntKind.wrap .i64 y6 * 2 ^ (16 : Int).toNat))) (IntKind.wrap .i64 (IntKind.wrap .i64 y7 * 2 ^ (8 : Int).toNat))) (IntKind.wrap .i64 y8)))) (fun y10 => some (.inl ((y10, IntKind.wrap .i64 (s3.2 + 1))))))))))) (Option.map .inr kk)
noncomputable def s_lb2 {α : Type}  (s13 : (List Int) × Int) (kk : Option α) : Option (((List Int) × Int) ⊕ α) :=
  cond (decide (s13.2 < 64)) (Option.bind (idx s13.1 (IntKind.wrap .i64 (s13.2 - 15))) (fun y15 => Option.bind (s_l3Right y15 7) (fun y16 => Option.bind (idx s13.1 (IntKind.wrap .i64 (s13.2 - 15))) (fun y17 => Option.bind (s_l3Right y17 18) (fun y18 => Option.bind (idx s13.1 (IntKind.wrap .i64 (s13.2 - 15))) (fun y19 => Option.bind (idx s13.1 (IntKind.wrap .i64 (s13.2 - 2))) (fun y20 => Option.bind (s_l3Right y20 17) (fun y21 => Option.bind (idx s13.1 (IntKind.wrap .i64 (s13.2 - 2))) (fun y22 => Option.bind (s_l3Right y22 19) (fun y23 => Option.bind (idx s13.1 (IntKind.wrap .i64 (s13.2 - 2))) (fun y24 => Option.bind (idx s13.1 (IntKind.wrap .i64 (s13.2 - 16))) (fun y25 => Option.bind (idx s13.1 (IntKind.wrap .i64 (s13.2 - 7))) (fun y26 => Option.bind (s_l3Word (IntKind.wrap .i64 (IntKind.wrap .i64 (IntKind.wrap .i64 (y25 + bits .xor .i64 (bits .xor .i64 y16 y18) (y19 / 2 ^ (3 : Int).toNat)) + y26) + bits .xor .i64 (bits .xor .i64 y21 y23) (y24 / 2 ^ (10 : Int).toNat)))) (fun y27 => Option.bind (idx s13.1 s13.2) (fun y28 => Option.bind (some (s13.1.set (s13.2.toNat) y27)) (fun y29 => some (.inl ((y29, IntKind.wrap .i64 (s13.2 + 1)))))))))))))))))))) (Option.map .inr kk)
noncomputable def s_lb3 {α : Type} (a2 : List Int) (s13 : (List Int) × Int) (s36 : (List Int) × Int) (kk : Option α) : Option (((List Int) × Int) ⊕ α) :=
  cond (decide (s36.2 < 64)) (Option.bind (idx s36.1 4) (fun y38 => Option.bind (idx s36.1 0) (fun y39 => Option.bind (idx s36.1 7) (fun y40 => Option.bind (s_l3Right y38 6) (fun y41 => Option.bind (s_l3Right y38 11) (fun y42 => Option.bind (s_l3Right y38 25) (fun y43 => Option.bind (idx s36.1 5) (fun y44 => Option.bind (s_l3Word (bits .xor .i64 (if IntKind.signed .i64 then -1 else IntKind.max .i64) y38)) (fun y45 => Option.bind (idx s36.1 6) (fun y46 => Option.bind (idx a2 s36.2) (fun y47 => Option.bind (idx s13.1 s36.2) (fun y48 => Option.bind (s_l3Right y39 2) (fun y49 => Option.bind (s_l3Right y39 13) (fun y50 => Option.bind (s_l3Right y39 22) (fun y51 => Option.bind (idx s36.1 1) (fun y52 => Option.bind (idx s36.1 2) (fun y53 => Option.bind (idx s36.1 1) (fun y54 => Option.bind (idx s36.1 2) (fun y55 => Option.bind (s_l3Word (IntKind.wrap .i64 (IntKind.wrap .i64 (IntKind.wrap .i64 (IntKind.wrap .i64 (IntKind.wrap .i64 (y40 + bits .xor .i64 (bits .xor .i64 y41 y42) y43) + bits .xor .i64 (bits .and .i64 y38 y44) (bits .and .i64 y45 y46)) + y47) + y48) + IntKind.wrap .i64 (bits .xor .i64 (bits .xor .i64 y49 y50) y51 + bits .xor .i64 (bits .xor .i64 (bits .and .i64 y39 y52) (bits .and .i64 y39 y53)) (bits .and .i64 y54 y55))))) (fun y56 => Option.bind (idx s36.1 0) (fun y57 => Option.bind (idx s36.1 1) (fun y58 => Option.bind (idx s36.1 2) (fun y59 => Option.bind (idx s36.1 3) (fun y60 => Option.bind (s_l3Word (IntKind.wrap .i64 (y60 + IntKind.wrap .i64 (IntKind.wrap .i64 (IntKind.wrap .i64 (IntKind.wrap .i64 (y40 + bits .xor .i64 (bits .xor .i64 y41 y42) y43) + bits .xor .i64 (bits .and .i64 y38 y44) (bits .and .i64 y45 y46)) + y47) + y48)))) (fun y61 => Option.bind (idx s36.1 4) (fun y62 => Option.bind (idx s36.1 5) (fun y63 => Option.bind (idx s36.1 6) (fun y64 => Option.bind (some ([y56, y57, y58, y59, y61, y62, y63, y64] : List Int)) (fun y65 => some (.inl ((y65, IntKind.wrap .i64 (s36.2 + 1))))))))))))))))))))))))))))))))) (Option.map .inr kk)
noncomputable def s_lb4 {α : Type} (a0 : List Int) (s36 : (List Int) × Int) (s70 : (List Int) × Int) (kk : Option α) : Option (((List Int) × Int) ⊕ α) :=
  cond (decide (s70.2 < 8)) (Option.bind (idx a0 s70.2) (fun y72 => Option.bind (idx s36.1 s70.2) (fun y73 => Option.bind (s_l3Word (IntKind.wrap .i64 (y72 + y73))) (fun y74 => Option.bind (appP s70.1 [y74]) (fun y76 => some (.inl ((y76, IntKind.wrap .i64 (s70.2 + 1))))))))) (Option.map .inr kk)
theorem s_l3Block_open (a0 : List Int) (a1 : ByteArray) (a2 : List Int) : s_l3Block a0 a1 a2 =
  Option.bind (mkP 8 64 (0 : Int)) (fun y1 => whileP (fun s3 : (List Int) × Int => s_lb1 a1 s3 (whileP (fun s13 : (List Int) × Int => s_lb2  s13 (Option.bind (some ([] : List Int)) (fun y33 => Option.bind (appP y33 a0) (fun y35 => whileP (fun s36 : (List Int) × Int => s_lb3 a2 s13 s36 (Option.bind (some ([] : List Int)) (fun y69 => whileP (fun s70 : (List Int) × Int => s_lb4 a0 s36 s70 (some s70.1)) (y69, 0)))) (y35, 0))))) (s3.1, 16))) (y1, 0)) := rfl
theorem l3Word_eq (n : Int) : s_l3Word n = some (iv (t32 n)) := by
  unfold s_l3Word
  show some (IntKind.wrap .i64 (((BitVec.ofInt 64 n) &&& (BitVec.ofInt 64 4294967295)).toNat : Int)) = _
  have h : ((BitVec.ofInt 64 n) &&& (BitVec.ofInt 64 4294967295)).toNat = (t32 n).toNat := by
    rw [← t32_64, BitVec.toNat_setWidth, BitVec.toNat_and, show (BitVec.ofInt 64 4294967295).toNat = 2 ^ 32 - 1 by decide, Nat.and_two_pow_sub_one_eq_mod]
  rw [h]
  exact congrArg some (wrap64_iv (t32 n))
theorem l3Right_eq (a : Wd) (n : Nat) (h0 : 0 < n) (hn : n < 32) {c : Int} (hc : c = (n : Int)) : s_l3Right (iv a) c = some (iv (ror a n)) := by
  subst hc
  unfold s_l3Right
  refine bnd (a := iv (a >>> n)) ?_ (bnd (a := IntKind.wrap .i64 (iv a * 2 ^ (32 - n))) ?_ (bnd (l3Word_eq _) ?_))
  · unfold shrP
    rw [if_pos ⟨by omega, by show (n : Int) ≤ 64; omega⟩, show (n : Int).toNat = n by omega, shr_iv]
  · unfold shlP
    rw [IntKind.wrap_u64, show (32 - (n : Int)) % 18446744073709551616 = ((32 - n : Nat) : Int) by omega, if_pos ⟨by omega, by show ((32 - n : Nat) : Int) ≤ 64; omega⟩, show ((32 - n : Nat) : Int).toNat = 32 - n by omega]
  · rw [t32_or, t32_wrap, t32_shl, t32_iv, t32_iv]; rfl
theorem s_l3Keys_eq : s_l3Keys = some (arr 64 kW) := by rw [← gA0_arr]; rfl
theorem rnd_0s (w v : Nat → Wd) (i : Nat) : rnd w i v 0 = v 7 + (ror (v 4) 6 ^^^ ror (v 4) 11 ^^^ ror (v 4) 25) + ((v 4 &&& v 5) ^^^ ((BitVec.allOnes 32 ^^^ v 4) &&& v 6)) + kW i + w i + ((ror (v 0) 2 ^^^ ror (v 0) 13 ^^^ ror (v 0) 22) + ((v 0 &&& v 1) ^^^ (v 0 &&& v 2) ^^^ (v 1 &&& v 2))) := by rw [rnd_0, BitVec.add_assoc]
theorem s_lb1_step {α : Type} {s : ByteArray} (hs : s.size = 64) {i : Nat} (hi : i < 16) (f : Nat → Wd) (k : Option α) : s_lb1 s (arr 64 f, (i : Int)) k = some (.inl (arr 64 (sch1 s i f), ((i + 1 : Nat) : Int))) := by
  unfold s_lb1
  refine condT (decide_eq_true (by show (i : Int) < 16; omega)) ?_
  have h0 : IntKind.wrap .i64 (4 * (i : Int)) = ((4 * i : Nat) : Int) := by rw [wrap64_in (by unfold inR; omega)]; omega
  have h1 : ∀ d : Nat, d < 4 → IntKind.wrap .i64 (((4 * i : Nat) : Int) + (d : Int)) = ((4 * i + d : Nat) : Int) := fun d hd => by rw [wrap64_in (by unfold inR; omega)]; omega
  refine bnd (sidx_lit (4 * i) h0 (by omega)) ?_
  refine bnd (sidx_lit (4 * i + 1) ((congrArg (fun q => IntKind.wrap .i64 (q + 1)) h0).trans (h1 1 (by omega))) (by omega)) ?_
  refine bnd (sidx_lit (4 * i + 2) ((congrArg (fun q => IntKind.wrap .i64 (q + 2)) h0).trans (h1 2 (by omega))) (by omega)) ?_
  refine bnd (sidx_lit (4 * i + 3) ((congrArg (fun q => IntKind.wrap .i64 (q + 3)) h0).trans (h1 3 (by omega))) (by omega)) ?_
  refine bnd (arr_idx f (by omega)) ?_
  refine bnd (a := arr 64 (sch1 s i f)) ?_ ?_
  · simp only [bw_iv, wrap64_iv, i24, i16, i8']
    rw [shl64_byte _ 24 (by omega), shl64_byte _ 16 (by omega), shl64_byte _ 8 (by omega)]
    simp only [or64_iv]
    rw [show ((i : Int)).toNat = i by omega, arr_set]
    rfl
  show some (Sum.inl (_, IntKind.wrap .i64 ((i : Int) + 1))) = _
  rw [wrap_succ (by omega)]
theorem s_lb1_end {α : Type} (s : ByteArray) (l : List Int) (k : Option α) : s_lb1 s (l, ((16 : Nat) : Int)) k = k.map .inr := by
  unfold s_lb1
  exact condF (decide_eq_false (by show ¬ ((16 : Nat) : Int) < 16; omega)) rfl
theorem s_lb2_step {α : Type} {i : Nat} (hi : i < 48) (f : Nat → Wd) (k : Option α) : s_lb2 (arr 64 f, ((i + 16 : Nat) : Int)) k = some (.inl (arr 64 (sch2 i f), ((i + 1 + 16 : Nat) : Int))) := by
  unfold s_lb2
  refine condT (decide_eq_true (by show ((i + 16 : Nat) : Int) < 64; omega)) ?_
  refine bnd (a := iv (f (i + 1))) (by show idx (arr 64 f) (IntKind.wrap .i64 (((i + 16 : Nat) : Int) - 15)) = _; rw [wrap64_in (by unfold inR; omega), show ((i + 16 : Nat) : Int) - 15 = ((i + 1 : Nat) : Int) by omega]; exact arr_idx f (by omega)) ?_
  refine bnd (l3Right_eq _ 7 (by omega) (by omega) rfl) ?_
  refine bnd (a := iv (f (i + 1))) (by show idx (arr 64 f) (IntKind.wrap .i64 (((i + 16 : Nat) : Int) - 15)) = _; rw [wrap64_in (by unfold inR; omega), show ((i + 16 : Nat) : Int) - 15 = ((i + 1 : Nat) : Int) by omega]; exact arr_idx f (by omega)) ?_
  refine bnd (l3Right_eq _ 18 (by omega) (by omega) rfl) ?_
  refine bnd (a := iv (f (i + 1))) (by show idx (arr 64 f) (IntKind.wrap .i64 (((i + 16 : Nat) : Int) - 15)) = _; rw [wrap64_in (by unfold inR; omega), show ((i + 16 : Nat) : Int) - 15 = ((i + 1 : Nat) : Int) by omega]; exact arr_idx f (by omega)) ?_
  refine bnd (a := iv (f (i + 14))) (by show idx (arr 64 f) (IntKind.wrap .i64 (((i + 16 : Nat) : Int) - 2)) = _; rw [wrap64_in (by unfold inR; omega), show ((i + 16 : Nat) : Int) - 2 = ((i + 14 : Nat) : Int) by omega]; exact arr_idx f (by omega)) ?_
  refine bnd (l3Right_eq _ 17 (by omega) (by omega) rfl) ?_
  refine bnd (a := iv (f (i + 14))) (by show idx (arr 64 f) (IntKind.wrap .i64 (((i + 16 : Nat) : Int) - 2)) = _; rw [wrap64_in (by unfold inR; omega), show ((i + 16 : Nat) : Int) - 2 = ((i + 14 : Nat) : Int) by omega]; exact arr_idx f (by omega)) ?_
  refine bnd (l3Right_eq _ 19 (by omega) (by omega) rfl) ?_
  refine bnd (a := iv (f (i + 14))) (by show idx (arr 64 f) (IntKind.wrap .i64 (((i + 16 : Nat) : Int) - 2)) = _; rw [wrap64_in (by unfold inR; omega), show ((i + 16 : Nat) : Int) - 2 = ((i + 14 : Nat) : Int) by omega]; exact arr_idx f (by omega)) ?_
  refine bnd (a := iv (f (i + 0))) (by show idx (arr 64 f) (IntKind.wrap .i64 (((i + 16 : Nat) : Int) - 16)) = _; rw [wrap64_in (by unfold inR; omega), show ((i + 16 : Nat) : Int) - 16 = ((i + 0 : Nat) : Int) by omega]; exact arr_idx f (by omega)) ?_
  refine bnd (a := iv (f (i + 9))) (by show idx (arr 64 f) (IntKind.wrap .i64 (((i + 16 : Nat) : Int) - 7)) = _; rw [wrap64_in (by unfold inR; omega), show ((i + 16 : Nat) : Int) - 7 = ((i + 9 : Nat) : Int) by omega]; exact arr_idx f (by omega)) ?_
  refine bnd (l3Word_eq _) ?_
  refine bnd (arr_idx f (by omega)) ?_
  simp only [i3, i10, shr_iv, t32_wrap, t32_add, t32_xor, t32_iv]
  refine bnd (a := arr 64 (sch2 i f)) (by rw [show (((i + 16 : Nat) : Int)).toNat = i + 16 by omega, arr_set]; rfl) ?_
  show some (Sum.inl (_, IntKind.wrap .i64 (((i + 16 : Nat) : Int) + 1))) = _
  rw [wrap_succ (by omega)]
theorem s_lb2_end {α : Type} (l : List Int) (k : Option α) : s_lb2 (l, ((48 + 16 : Nat) : Int)) k = k.map .inr := by
  unfold s_lb2
  exact condF (decide_eq_false (by show ¬ ((48 + 16 : Nat) : Int) < 64; omega)) rfl
theorem s_lb3_step {α : Type} (w v : Nat → Wd) {i : Nat} (hi : i < 64) (c : Int) (k : Option α) : s_lb3 (arr 64 kW) (arr 64 w, c) (arr 8 v, (i : Int)) k = some (.inl (arr 8 (rnd w i v), ((i + 1 : Nat) : Int))) := by
  unfold s_lb3
  refine condT (decide_eq_true (by show (i : Int) < 64; omega)) ?_
  refine bnd (i8 v 4 (by omega) rfl) ?_
  refine bnd (i8 v 0 (by omega) rfl) ?_
  refine bnd (i8 v 7 (by omega) rfl) ?_
  refine bnd (l3Right_eq _ 6 (by omega) (by omega) rfl) ?_
  refine bnd (l3Right_eq _ 11 (by omega) (by omega) rfl) ?_
  refine bnd (l3Right_eq _ 25 (by omega) (by omega) rfl) ?_
  refine bnd (i8 v 5 (by omega) rfl) ?_
  refine bnd (l3Word_eq _) ?_
  refine bnd (i8 v 6 (by omega) rfl) ?_
  refine bnd (arr_idx kW hi) ?_
  refine bnd (arr_idx w hi) ?_
  refine bnd (l3Right_eq _ 2 (by omega) (by omega) rfl) ?_
  refine bnd (l3Right_eq _ 13 (by omega) (by omega) rfl) ?_
  refine bnd (l3Right_eq _ 22 (by omega) (by omega) rfl) ?_
  refine bnd (i8 v 1 (by omega) rfl) ?_
  refine bnd (i8 v 2 (by omega) rfl) ?_
  refine bnd (i8 v 1 (by omega) rfl) ?_
  refine bnd (i8 v 2 (by omega) rfl) ?_
  refine bnd (l3Word_eq _) ?_
  refine bnd (i8 v 0 (by omega) rfl) ?_
  refine bnd (i8 v 1 (by omega) rfl) ?_
  refine bnd (i8 v 2 (by omega) rfl) ?_
  refine bnd (i8 v 3 (by omega) rfl) ?_
  refine bnd (l3Word_eq _) ?_
  refine bnd (i8 v 4 (by omega) rfl) ?_
  refine bnd (i8 v 5 (by omega) rfl) ?_
  refine bnd (i8 v 6 (by omega) rfl) ?_
  refine bnd rfl ?_
  show some (Sum.inl (_, IntKind.wrap .i64 ((i : Int) + 1))) = _
  rw [wrap_succ (by omega), arr8, rnd_0s, rnd_1, rnd_2, rnd_3, rnd_4, rnd_5, rnd_6, rnd_7]
  simp only [t32_wrap, t32_add, t32_xor, t32_and, t32_iv, oM64]
theorem s_lb3_end {α : Type} (q : List Int) (x : List Int × Int) (l : List Int) (k : Option α) : s_lb3 q x (l, ((64 : Nat) : Int)) k = k.map .inr := by
  unfold s_lb3
  exact condF (decide_eq_false (by show ¬ ((64 : Nat) : Int) < 64; omega)) rfl
theorem arr_succ (n : Nat) (f : Nat → Wd) : arr (n + 1) f = arr n f ++ [iv (f n)] := by unfold arr; rw [List.range_succ, List.map_append]; rfl
theorem s_lb4_step {α : Type} (v h : Nat → Wd) {i : Nat} (hi : i < 8) (c : Int) (k : Option α) : s_lb4 (arr 8 h) (arr 8 v, c) (arr i (fun j => h j + v j), (i : Int)) k = some (.inl (arr (i + 1) (fun j => h j + v j), ((i + 1 : Nat) : Int))) := by
  unfold s_lb4
  refine condT (decide_eq_true (by show (i : Int) < 8; omega)) ?_
  refine bnd (arr_idx h hi) ?_
  refine bnd (arr_idx v hi) ?_
  refine bnd (l3Word_eq _) ?_
  simp only [t32_wrap, t32_add, t32_iv]
  refine bnd (appP_ok (by show (arr i _).length + 1 ≤ _; rw [arr_len]; omega)) ?_
  show some (Sum.inl (_, IntKind.wrap .i64 ((i : Int) + 1))) = _
  rw [wrap_succ (by omega), arr_succ]
theorem s_lb4_end {α : Type} (q : List Int) (x : List Int × Int) (l : List Int) (k : Option α) : s_lb4 q x (l, ((8 : Nat) : Int)) k = k.map .inr := by
  unfold s_lb4
  exact condF (decide_eq_false (by show ¬ ((8 : Nat) : Int) < 8; omega)) rfl
theorem s_l3Block_eq {s : ByteArray} (hs : s.size = 64) (h : Nat → Wd) : s_l3Block (arr 8 h) s (arr 64 kW) = some (arr 8 (shaB h s)) := by
  rw [s_l3Block_open]
  refine bnd (a := arr 64 fun _ => 0) (by unfold mkP; rw [if_pos (by decide), ← arr_zero]; rfl) ?_
  refine whileP_n (fun (i : Nat) f => (arr 64 f, (i : Int))) (sch1 s) (n := 16) (t0 := fun _ => 0) rfl (fun i t hi => s_lb1_step hs hi t _) ?_
  refine (s_lb1_end _ _ _).trans (congrArg (Option.map Sum.inr) ?_)
  refine whileP_n (fun (i : Nat) f => (arr 64 f, ((i + 16 : Nat) : Int))) sch2 (n := 48) (t0 := it (sch1 s) 16 fun _ => 0) rfl (fun i t hi => s_lb2_step hi t _) ?_
  refine (s_lb2_end _ _).trans (congrArg (Option.map Sum.inr) ?_)
  refine bnd rfl (bnd (a := arr 8 h) (by rw [appP_ok (by rw [arr_len]; decide)]; rfl) ?_)
  refine whileP_n (fun (i : Nat) f => (arr 8 f, (i : Int))) (rnd (wAll s)) (n := 64) (t0 := h) rfl (fun i t hi => s_lb3_step _ t hi _ _) ?_
  refine (s_lb3_end _ _ _ _).trans (congrArg (Option.map Sum.inr) ?_)
  refine bnd rfl ?_
  refine whileP_n (fun (i : Nat) (_ : Unit) => (arr i (fun j => h j + it (rnd (wAll s)) 64 h j), (i : Int))) (fun _ _ => ()) (n := 8) (t0 := ()) rfl (fun i t hi => s_lb4_step _ h hi _ _) ?_
  refine (s_lb4_end _ _ _ _).trans (congrArg (Option.map Sum.inr) ?_)
  rfl
end Go.Proofs.SL
/- from PH5.lean -/
namespace Go.Proofs.SL
open Go
def be (k n : Nat) : List UInt8 := (List.range k).map fun j => UInt8.ofNat (n / 256 ^ (k - 1 - j))
theorem be_len (k n : Nat) : (be k n).length = k := by unfold be; simp
theorem and255 {m : Nat} (h : m < 9223372036854775808) : bits .and .i64 (m : Int) 255 = ((m % 256 : Nat) : Int) := by
  show IntKind.wrap .i64 (((BitVec.ofInt 64 (m : Int)) &&& (BitVec.ofInt 64 255)).toNat : Int) = _
  rw [BitVec.toNat_and, show (BitVec.ofInt 64 255).toNat = 2 ^ 8 - 1 by decide, Nat.and_two_pow_sub_one_eq_mod, BitVec.toNat_ofInt]
  rw [wrap64_in (by unfold inR; omega)]
  omega
theorem u8_mod (m : Nat) : u8P (IntKind.wrap .u8 ((m % 256 : Nat) : Int)) = some (UInt8.ofNat m) := by
  rw [IntKind.wrap_u8, show ((m % 256 : Nat) : Int) % 256 = ((m % 256 : Nat) : Int) by omega]
  unfold u8P
  rw [if_pos (by omega), show (((m % 256 : Nat) : Int)).toNat = m % 256 by omega]
  congr 1
  apply UInt8.toNat_inj.1
  simp
theorem u8_and {m : Nat} (h : m < 9223372036854775808) : u8P (IntKind.wrap .u8 (bits .and .i64 (m : Int) 255)) = some (UInt8.ofNat m) := by rw [and255 h, u8_mod]
end Go.Proofs.SL
/- from PH6.lean -/
namespace Go.Proofs.SL
open Go
noncomputable def s_sh1 {α : Type} (a0 : ByteArray) (s3 : (List UInt8)) (kk : Option α) : Option (((List UInt8)) ⊕ α) :=
  cond (!decide ((IntKind.wrap .i64 ((a0.size : Int) + (s3.length : Int))).tmod 64 = 56)) (Option.bind (appP s3 [(0 : UInt8)]) (fun y6 => some (.inl (y6)))) (Option.map .inr kk)
noncomputable def s_sh2 {α : Type} (a0 : ByteArray) (s8 : (List UInt8) × Int) (kk : Option α) : Option (((List UInt8) × Int) ⊕ α) :=
  cond (decide (s8.2 < 8)) (Option.bind (shrP .i64 (IntKind.wrap .i64 ((a0.size : Int) * 8)) (IntKind.wrap .u64 (IntKind.wrap .i64 (56 - IntKind.wrap .i64 (8 * s8.2))))) (fun y10 => Option.bind (u8P (IntKind.wrap .u8 (bits .and .i64 y10 255))) (fun y11 => Option.bind (appP s8.1 [y11]) (fun y13 => some (.inl ((y13, IntKind.wrap .i64 (s8.2 + 1)))))))) (Option.map .inr kk)
noncomputable def s_sh3 {α : Type} (y15 : ByteArray) (y18 : List Int) (s19 : (List Int) × Int) (kk : Option α) : Option (((List Int) × Int) ⊕ α) :=
  cond (decide (s19.2 < (y15.size : Int))) (Option.bind (sslP y15 s19.2 (IntKind.wrap .i64 (s19.2 + 64))) (fun y21 => Option.bind (s_l3Block s19.1 y21 y18) (fun y22 => some (.inl ((y22, IntKind.wrap .i64 (s19.2 + 64))))))) (Option.map .inr kk)
noncomputable def s_sh4 {α : Type} (s19 : (List Int) × Int) (s26 : (List UInt8) × Int) (kk : Option α) : Option (((List UInt8) × Int) ⊕ α) :=
  cond (decide (s26.2 < 8)) (Option.bind (idx s19.1 s26.2) (fun y28 => Option.bind (idx s19.1 s26.2) (fun y29 => Option.bind (idx s19.1 s26.2) (fun y30 => Option.bind (idx s19.1 s26.2) (fun y31 => Option.bind (u8P (IntKind.wrap .u8 (y28 / 2 ^ (24 : Int).toNat))) (fun y32 => Option.bind (u8P (IntKind.wrap .u8 (bits .and .i64 (y29 / 2 ^ (16 : Int).toNat) 255))) (fun y33 => Option.bind (u8P (IntKind.wrap .u8 (bits .and .i64 (y30 / 2 ^ (8 : Int).toNat) 255))) (fun y34 => Option.bind (u8P (IntKind.wrap .u8 (bits .and .i64 y31 255))) (fun y35 => Option.bind (some ([y32, y33, y34, y35] : List UInt8)) (fun y36 => Option.bind (appP s26.1 y36) (fun y39 => some (.inl ((y39, IntKind.wrap .i64 (s26.2 + 1))))))))))))))) (Option.map .inr kk)
theorem s_Sha_open (a0 : ByteArray) : s_Sha a0 =
  Option.bind (some ([(128 : UInt8)] : List UInt8)) (fun y1 => whileP (fun s3 : (List UInt8) => s_sh1 a0 s3 (whileP (fun s8 : (List UInt8) × Int => s_sh2 a0 s8 (Option.bind (catP a0 (strP s8.1)) (fun y15 => Option.bind (some ([1779033703, 3144134277, 1013904242, 2773480762, 1359893119, 2600822924, 528734635, 1541459225] : List Int)) (fun y16 => Option.bind (s_l3Keys ) (fun y18 => whileP (fun s19 : (List Int) × Int => s_sh3 y15 y18 s19 (Option.bind (some ([] : List UInt8)) (fun y25 => whileP (fun s26 : (List UInt8) × Int => s_sh4 s19 s26 (some (strP s26.1))) (y25, 0)))) (y16, 0)))))) (s3, 0))) y1) := rfl
theorem strP_size (a : List UInt8) : (strP a).size = a.length := rfl
def h0l : List Int := [1779033703, 3144134277, 1013904242, 2773480762, 1359893119, 2600822924, 528734635, 1541459225]
def h0 (j : Nat) : Wd := t32 (h0l.getD j 0)
theorem h0_arr : h0l = arr 8 h0 := by kernel_rfl
def outN (f : Nat → Wd) (i : Nat) : List UInt8 := (List.range i).flatMap fun j => be 4 (f j).toNat
theorem outN_succ (f : Nat → Wd) (i : Nat) : outN f (i + 1) = outN f i ++ be 4 (f i).toNat := by unfold outN; rw [List.range_succ, List.flatMap_append]; simp
theorem outN_len (f : Nat → Wd) : ∀ i, (outN f i).length = 4 * i
  | 0 => rfl
  | i + 1 => by rw [outN_succ, List.length_append, outN_len f i, be_len]; omega
def padL (n : Nat) : List UInt8 := 128 :: List.replicate (55 - n) 0 ++ be 8 (8 * n)
def pad (s : ByteArray) : ByteArray := s ++ strP (padL s.size)
theorem pad_size {s : ByteArray} (h : s.size ≤ 55) : (pad s).size = 64 := by
  unfold pad padL
  rw [ByteArray.size_append, strP_size, List.length_append, List.length_cons, List.length_replicate, be_len]; omega
def sha (s : ByteArray) : ByteArray := strP (outN (shaB h0 (pad s)) 8)
theorem sha_size (s : ByteArray) : (sha s).size = 32 := by unfold sha; rw [strP_size, outN_len]
theorem ssl_all {t : ByteArray} (h : t.size = 64) : sslP t 0 64 = some t := by
  unfold sslP
  rw [if_pos (by omega)]
  congr 1
  apply ByteArray.ext
  rw [ByteArray.data_extract]
  show t.data.extract 0 64 = t.data
  have : t.data.size = 64 := h
  rw [← this, Array.extract_size]
/- the reference -/
theorem s_sh1_step {α : Type} {s : ByteArray} {i : Nat} (hs : s.size ≤ 55) (hi : i < 55 - s.size) (kk : Option α) : s_sh1 s (128 :: List.replicate i 0) kk = some (.inl (128 :: List.replicate (i + 1) 0)) := by
  unfold s_sh1
  refine condT ?_ ?_
  · rw [wrap64_in (by unfold inR; simp; omega), Int.tmod_eq_emod_of_nonneg (by omega), decide_eq_false (by simp; omega)]; rfl
  · refine bnd (appP_ok (by simp; omega)) ?_
    show some (Sum.inl (128 :: List.replicate i 0 ++ [0])) = _
    rw [List.cons_append, ← List.replicate_succ']
theorem s_sh1_end {α : Type} {s : ByteArray} (hs : s.size ≤ 55) (kk : Option α) : s_sh1 s (128 :: List.replicate (55 - s.size) 0) kk = kk.map .inr := by
  unfold s_sh1
  refine condF ?_ rfl
  rw [wrap64_in (by unfold inR; simp; omega), Int.tmod_eq_emod_of_nonneg (by omega), decide_eq_true (by simp; omega)]; rfl
def be8 (n i : Nat) : List UInt8 := (List.range i).map fun j => UInt8.ofNat (n / 256 ^ (8 - 1 - j))
theorem s_sh2_step {α : Type} {s : ByteArray} {i : Nat} (x : List UInt8) (hx : x.length ≤ 100) (hs : s.size ≤ 55) (hi : i < 8) (kk : Option α) : s_sh2 s (x ++ be8 (8 * s.size) i, (i : Int)) kk = some (.inl (x ++ be8 (8 * s.size) (i + 1), ((i + 1 : Nat) : Int))) := by
  unfold s_sh2
  refine condT (decide_eq_true (by show (i : Int) < 8; omega)) ?_
  refine bnd (a := ((8 * s.size / 256 ^ (7 - i) : Nat) : Int)) ?_ ?_
  · show shrP .i64 (IntKind.wrap .i64 ((s.size : Int) * 8)) (IntKind.wrap .u64 (IntKind.wrap .i64 (56 - IntKind.wrap .i64 (8 * (i : Int))))) = _
    rw [wrap64_in (n := (s.size : Int) * 8) (by unfold inR; omega), wrap64_in (n := 8 * (i : Int)) (by unfold inR; omega), wrap64_in (by unfold inR; omega), IntKind.wrap_u64, show (56 - 8 * (i : Int)) % 18446744073709551616 = ((8 * (7 - i) : Nat) : Int) by omega]
    unfold shrP
    rw [if_pos ⟨by omega, by show ((8 * (7 - i) : Nat) : Int) ≤ 64; omega⟩, show (((8 * (7 - i) : Nat) : Int)).toNat = 8 * (7 - i) by omega,
      show (s.size : Int) * 8 = ((8 * s.size : Nat) : Int) by omega, show (256 : Nat) ^ (7 - i) = 2 ^ (8 * (7 - i)) by rw [Nat.pow_mul]]
    simp
  refine bnd (u8_and (Nat.lt_of_le_of_lt (Nat.div_le_self _ _) (by omega))) ?_
  refine bnd (appP_ok (by simp [be8]; omega)) ?_
  show some (Sum.inl (_, IntKind.wrap .i64 ((i : Int) + 1))) = _
  rw [wrap_succ (by omega), List.append_assoc]
  unfold be8
  rw [List.range_succ, List.map_append]
  rfl
theorem s_sh2_end {α : Type} (s : ByteArray) (x : List UInt8) (kk : Option α) : s_sh2 s (x, ((8 : Nat) : Int)) kk = kk.map .inr := by
  unfold s_sh2
  exact condF (decide_eq_false (by show ¬ ((8 : Nat) : Int) < 8; omega)) rfl
theorem s_sh3_step {α : Type} {t : ByteArray} (ht : t.size = 64) (h : Nat → Wd) (kk : Option α) : s_sh3 t (arr 64 kW) (arr 8 h, 0) kk = some (.inl (arr 8 (shaB h t), 64)) := by
  unfold s_sh3
  refine condT (decide_eq_true (by show (0 : Int) < (t.size : Int); omega)) ?_
  refine bnd (ssl_all ht) ?_
  exact bnd (s_l3Block_eq ht h) rfl
theorem s_sh3_end {α : Type} {t : ByteArray} (ht : t.size = 64) (q : List Int) (l : List Int) (kk : Option α) : s_sh3 t q (l, 64) kk = kk.map .inr := by
  unfold s_sh3
  exact condF (decide_eq_false (by show ¬ (64 : Int) < (t.size : Int); omega)) rfl
theorem u8_24 (w : Wd) : u8P (IntKind.wrap .u8 (iv w / 2 ^ 24)) = some (UInt8.ofNat (w.toNat / 16777216)) := by
  have h := w.isLt
  rw [show iv w / 2 ^ 24 = ((w.toNat / 16777216 % 256 : Nat) : Int) by unfold iv; omega, u8_mod]
theorem be4 (n : Nat) : be 4 n = [UInt8.ofNat (n / 16777216), UInt8.ofNat (n / 65536), UInt8.ofNat (n / 256), UInt8.ofNat n] := by
  show [UInt8.ofNat (n / 256 ^ 3), UInt8.ofNat (n / 256 ^ 2), UInt8.ofNat (n / 256 ^ 1), UInt8.ofNat (n / 256 ^ 0)] = _
  rw [Nat.pow_zero, Nat.div_one]
theorem s_sh4_step {α : Type} (f : Nat → Wd) {i : Nat} (hi : i < 8) (c : Int) (kk : Option α) : s_sh4 (arr 8 f, c) (outN f i, (i : Int)) kk = some (.inl (outN f (i + 1), ((i + 1 : Nat) : Int))) := by
  have hw : ∀ d, (f i).toNat / d < 9223372036854775808 := fun d => Nat.lt_of_le_of_lt (Nat.div_le_self _ _) (by have := (f i).isLt; omega)
  unfold s_sh4
  refine condT (decide_eq_true (by show (i : Int) < 8; omega)) ?_
  refine bnd (arr_idx f hi) (bnd (arr_idx f hi) (bnd (arr_idx f hi) (bnd (arr_idx f hi) ?_)))
  refine bnd (u8_24 _) ?_
  refine bnd (a := UInt8.ofNat ((f i).toNat / 65536)) (by rw [show iv (f i) / 2 ^ (16 : Int).toNat = (((f i).toNat / 65536 : Nat) : Int) by unfold iv; rw [i16]; omega]; exact u8_and (hw _)) ?_
  refine bnd (a := UInt8.ofNat ((f i).toNat / 256)) (by rw [show iv (f i) / 2 ^ (8 : Int).toNat = (((f i).toNat / 256 : Nat) : Int) by unfold iv; rw [i8']; omega]; exact u8_and (hw _)) ?_
  refine bnd (a := UInt8.ofNat (f i).toNat) (by have := hw 1; rw [Nat.div_one] at this; exact u8_and this) ?_
  refine bnd rfl ?_
  refine bnd (appP_ok (by rw [outN_len]; show 4 * i + 4 ≤ _; omega)) ?_
  show some (Sum.inl (_, IntKind.wrap .i64 ((i : Int) + 1))) = _
  rw [wrap_succ (by omega), outN_succ, be4]
theorem s_sh4_end {α : Type} (q : List Int × Int) (l : List UInt8) (kk : Option α) : s_sh4 q (l, ((8 : Nat) : Int)) kk = kk.map .inr := by
  unfold s_sh4
  exact condF (decide_eq_false (by show ¬ ((8 : Nat) : Int) < 8; omega)) rfl
theorem s_Sha_eq {s : ByteArray} (hs : s.size ≤ 55) : s_Sha s = some (sha s) := by
  rw [s_Sha_open]
  refine bnd rfl ?_
  refine whileP_n (fun (i : Nat) (_ : Unit) => 128 :: List.replicate i 0) (fun _ _ => ()) (n := 55 - s.size) (t0 := ()) rfl (fun i t hi => s_sh1_step hs hi _) ?_
  refine (s_sh1_end hs _).trans (congrArg (Option.map Sum.inr) ?_)
  refine whileP_n (fun (i : Nat) (_ : Unit) => (128 :: List.replicate (55 - s.size) 0 ++ be8 (8 * s.size) i, (i : Int))) (fun _ _ => ()) (n := 8) (t0 := ()) ?_ (fun i t hi => s_sh2_step _ (by simp; omega) hs hi _) ?_
  · show _ = (128 :: List.replicate (55 - s.size) 0 ++ [], ((0 : Nat) : Int))
    rw [List.append_nil]; rfl
  refine (s_sh2_end _ _ _).trans (congrArg (Option.map Sum.inr) ?_)
  refine bnd (a := pad s) (by rw [catP_ok (by rw [strP_size]; simp [be8]; omega)]; rfl) ?_
  refine bnd rfl (bnd s_l3Keys_eq ?_)
  refine whileP_n (fun (i : Nat) (h : Nat → Wd) => (arr 8 h, ((64 * i : Nat) : Int))) (fun _ h => shaB h (pad s)) (n := 1) (t0 := h0) ?_ (fun i t hi => ?_) ?_
  · exact congrArg (fun q => (q, (0 : Int))) h0_arr
  · obtain rfl : i = 0 := by omega
    exact s_sh3_step (pad_size hs) t _
  refine (s_sh3_end (pad_size hs) _ _ _).trans (congrArg (Option.map Sum.inr) ?_)
  refine bnd rfl ?_
  refine whileP_n (fun (i : Nat) (_ : Unit) => (outN (shaB h0 (pad s)) i, (i : Int))) (fun _ _ => ()) (n := 8) (t0 := ()) rfl (fun i t hi => s_sh4_step _ hi _ _) ?_
  exact s_sh4_end _ _ _
def short (s : ByteArray) : ByteArray := (sha s).extract 0 8
theorem short_size (s : ByteArray) : (short s).size = 8 := by unfold short; rw [ByteArray.size_extract, sha_size]; rfl
theorem ssl_8 (s : ByteArray) : sslP (sha s) 0 8 = some (short s) := by
  unfold sslP; rw [if_pos (by rw [sha_size]; omega)]; rfl
theorem s_Short_eq {s : ByteArray} (hs : s.size ≤ 55) : s_Short s = some (short s) := by
  unfold s_Short; exact bnd (s_Sha_eq hs) (bnd (ssl_8 s) rfl)
end Go.Proofs.SL
/- from PMs.lean -/
namespace Go.Proofs.SL
open Go
def wordIfB (s : ByteArray) (is : Bool) : Bool := if is then isWordB s else decide (s = ByteArray.empty)
theorem s_l4May_eq {s : ByteArray} {b : Bool} (hl : s.size ≤ 9223372036854775807) : s_l4May s b = some (wordIfB s b) := by
  unfold s_l4May wordIfB
  rw [s_l4Word_eq hl]
  cases b <;> rfl
theorem s_l4Texts_eq {a b : List ByteArray} (hl : a.length ≤ 9223372036854775807) : s_l4Texts a b = some (decide (a = b)) := by
  unfold s_l4Texts
  by_cases h : a.length = b.length
  · rw [show decide ((a.length : Int) = (b.length : Int)) = true by simp; omega]
    simp only [Bool.not_true, cond_false]
    rw [whileP_all (n := a.length) (fun k => decide (a[k]? = b[k]?)) (some false) (some true)]
    · by_cases e : a = b
      · subst e; simp
      · rw [decide_eq_false e]
        have : (List.range a.length).all (fun k => decide (a[k]? = b[k]?)) = false := by
          rw [Bool.eq_false_iff]
          intro hh
          refine e (List.ext_getElem? fun i => ?_)
          by_cases hi : i < a.length
          · simpa using List.all_eq_true.1 hh i (List.mem_range.2 hi)
          · rw [List.getElem?_eq_none (by omega), List.getElem?_eq_none (by omega)]
        rw [this]; rfl
    · intro k hk
      have h1 : a[k]? = some a[k] := List.getElem?_eq_getElem hk
      have h2 : b[k]? = some (b[k]'(by omega)) := List.getElem?_eq_getElem (by omega)
      simp only [lt_dec hk, cond_true, idx_nat, h1, h2, Option.bind_some, wrap_succ (show k < 9223372036854775807 by omega), Option.some.injEq]
      cases decide (a[k] = b[k]'(by omega)) <;> rfl
    · simp only [ge_dec]; rfl
  · rw [show decide ((a.length : Int) = (b.length : Int)) = false by simp; omega, decide_eq_false (fun e => h (by rw [e]))]; rfl
theorem s_SameCmd_eq {a b : D_Cmd} (ho : Ok.ok a) : s_SameCmd a b = some (pB (a = b)) := by
  obtain ⟨a1, a2, a3, a4, a5, a6, a7, a8⟩ := a
  obtain ⟨b1, b2, b3, b4, b5, b6, b7, b8⟩ := b
  have hl : a8.length ≤ 9223372036854775807 := ho.2.2.2.2.2.2.2.1
  unfold s_SameCmd
  rw [s_l4Texts_eq hl, gb_some (fun h => by rw [h]; simp)]
  congr 1
  rw [Bool.eq_iff_iff, pB_iff]
  simp [and_assoc]
def noCmd : D_Cmd := (0, 0, 0, ByteArray.empty, ByteArray.empty, ByteArray.empty, 0, [])
noncomputable def cmdOkB (c : D_Cmd) : Bool :=
  if c.1 = 0 then pB (c = noCmd) else
    decide (1 ≤ c.1 ∧ c.1 ≤ 7) && decide (1 ≤ c.2.1 ∧ c.2.1 ≤ 9) && decide (1 ≤ c.2.2.1 ∧ c.2.2.1 ≤ 1000) && wordIfB c.2.2.2.1 (!decide (c.1 = 7)) && wordIfB c.2.2.2.2.1 (decide (c.1 = 3) || decide (c.1 = 4)) && wordIfB c.2.2.2.2.2.1 (decide (c.1 = 4)) &&
    (decide (c.2.2.2.2.2.2.1 = 0) || (decide (c.1 = 5) && decide (0 ≤ c.2.2.2.2.2.2.1 ∧ c.2.2.2.2.2.2.1 ≤ 9))) && (if c.1 = 3 then decide (1 ≤ (c.2.2.2.2.2.2.2.length : Int) ∧ (c.2.2.2.2.2.2.2.length : Int) ≤ 4) && areChunksB c.2.2.2.2.2.2.2 else decide ((c.2.2.2.2.2.2.2.length : Int) = 0))
set_option maxHeartbeats 1000000 in
theorem s_CmdOk_eq {c : D_Cmd} (ho : Ok.ok c) : s_CmdOk c = some (cmdOkB c) := by
  have hl : c.2.2.2.2.2.2.2.length ≤ 9223372036854775807 := ho.2.2.2.2.2.2.2.1
  have h4 : c.2.2.2.1.size ≤ 9223372036854775807 := ho.2.2.2.1
  have h5 : c.2.2.2.2.1.size ≤ 9223372036854775807 := ho.2.2.2.2.1
  have h6 : c.2.2.2.2.2.1.size ≤ 9223372036854775807 := ho.2.2.2.2.2.1
  unfold s_CmdOk cmdOkB
  simp only [s_SameCmd_eq ho, l1In_eq, s_l4May_eq h4, s_l4May_eq h5, s_l4May_eq h6, Option.bind_some, gbs]
  rw [each_loop (p := fun c => decide ((c.size : Int) = 8)) (no := some false) (yes := some true) hl]
  rotate_left
  · intro k x hx
    simp only [lt_dec (List.getElem?_eq_some_iff.1 hx).1, cond_true, idx_nat, hx, Option.bind_some]
    cases decide ((x.size : Int) = 8) <;> rfl
  · simp only [ge_dec]; rfl
  by_cases h0 : c.1 = 0
  · rw [if_pos h0, decide_eq_true h0, decide_eq_true (show 0 ≤ c.1 ∧ c.1 ≤ 7 by omega)]; rfl
  · rw [if_neg h0, decide_eq_false h0]
    have e7 : decide (0 ≤ c.1 ∧ c.1 ≤ 7) = decide (1 ≤ c.1 ∧ c.1 ≤ 7) := by rw [Bool.eq_iff_iff]; simp; omega
    rw [e7]
    show _ = some (_ && (if c.1 = 3 then _ && c.2.2.2.2.2.2.2.all (fun c => decide ((c.size : Int) = 8)) else _))
    generalize wordIfB c.2.2.2.1 _ = W1
    generalize wordIfB c.2.2.2.2.1 _ = W2
    generalize wordIfB c.2.2.2.2.2.1 _ = W3
    generalize c.2.2.2.2.2.2.2.all _ = W4
    by_cases h5 : c.1 = 5
    · simp only [h5]
      cases decide (1 ≤ c.2.1 ∧ c.2.1 ≤ 9) <;> cases decide (1 ≤ c.2.2.1 ∧ c.2.2.1 ≤ 1000) <;> cases W1 <;> cases W2 <;> cases W3 <;> cases decide (c.2.2.2.2.2.2.1 = 0) <;> cases decide (0 ≤ c.2.2.2.2.2.2.1 ∧ c.2.2.2.2.2.2.1 ≤ 9) <;> simp
    · by_cases h3 : c.1 = 3
      · simp only [h3]
        cases decide (1 ≤ c.2.1 ∧ c.2.1 ≤ 9) <;> cases decide (1 ≤ c.2.2.1 ∧ c.2.2.1 ≤ 1000) <;> cases W1 <;> cases W2 <;> cases W3 <;> cases decide (c.2.2.2.2.2.2.1 = 0) <;> cases decide (1 ≤ (c.2.2.2.2.2.2.2.length : Int) ∧ (c.2.2.2.2.2.2.2.length : Int) ≤ 4) <;> cases W4 <;> simp
      · rw [decide_eq_false h5, decide_eq_false h3, if_neg h3]
        cases decide (1 ≤ c.1 ∧ c.1 ≤ 7) <;> cases decide (1 ≤ c.2.1 ∧ c.2.1 ≤ 9) <;> cases decide (1 ≤ c.2.2.1 ∧ c.2.2.1 ≤ 1000) <;> cases W1 <;> cases W2 <;> cases W3 <;> cases decide (c.2.2.2.2.2.2.1 = 0) <;> simp
end Go.Proofs.SL
/- from PJ.lean -/
namespace Go.Proofs.SL
open Go
theorem firstI_get {α : Type} (p : α → Bool) (l : List α) : (firstI p l = -1 ∧ l.findIdx? p = none) ∨ ∃ (k : Nat) (x : α), firstI p l = (k : Int) ∧ l.findIdx? p = some k ∧ l[k]? = some x ∧ p x = true := by
  cases h : l.findIdx? p with
  | none => exact .inl ⟨firstI_none h, rfl⟩
  | some k =>
    obtain ⟨h1, h2, _⟩ := List.findIdx?_eq_some_iff_getElem.1 h
    exact .inr ⟨k, l[k], firstI_some h, rfl, List.getElem?_eq_getElem h1, h2⟩
end Go.Proofs.SL
/- from PCt.lean -/
namespace Go.Proofs.SL
open Go
theorem loop_pass {α β τ σ : Type} {f : σ → Option (σ ⊕ α)} {l : List β} (mk : Nat → τ → σ) (h : τ → β → τ) (g : τ → Option α) (I : Nat → τ → Prop) (t0 : τ) {s0 : σ} (h0 : mk 0 t0 = s0) (hI : I 0 t0)
    (hs : ∀ k t x, l[k]? = some x → I k t → f (mk k t) = some (.inl (mk (k + 1) (h t x))) ∧ I (k + 1) (h t x)) (he : ∀ t, I l.length t → f (mk l.length t) = (g t).map .inr) : whileP f s0 = g (l.foldl h t0) := by
  rw [whileP_for (l := l) mk (fun t x => .inl (h t x)) g I t0 h0 hI (fun k t x hx hi => .inl ⟨_, rfl, hs k t x hx hi⟩) he, goE_fold]
/-! Names -/
theorem word_size {s : ByteArray} (h : isWordB s = true) : s.size ≤ 8 := by
  unfold isWordB at h
  simp only [Bool.and_eq_true, decide_eq_true_eq] at h
  omega
structure CBnd (c : D_Catalog) : Prop where
  len : c.length ≤ 6
  name : ∀ s, s ∈ c → s.1.size ≤ 8
  snaps : ∀ s, s ∈ c → s.2.length ≤ 6
  snap : ∀ s, s ∈ c → ∀ p, p ∈ s.2 → p.1.size ≤ 8 ∧ p.2.1.size ≤ 8 ∧ p.2.2.length ≤ 4 ∧ ∀ x, x ∈ p.2.2 → x.size ≤ 8
theorem CBnd.ok {c : D_Catalog} (h : CBnd c) : Ok.ok c :=
  ⟨by have := h.len; omega, fun s hs => ⟨by have := h.name s hs; show s.1.size ≤ _; omega, by have := h.snaps s hs; omega, fun p hp => by
    obtain ⟨h1, h2, h3, h4⟩ := h.snap s hs p hp
    exact ⟨by show p.1.size ≤ _; omega, by show p.2.1.size ≤ _; omega, by omega, fun x hx => by have := h4 x hx; show x.size ≤ _; omega⟩⟩⟩
theorem catOk_bnd {c : D_Catalog} (h : catOkB c = true) : CBnd c ∧ c.length ≤ 5 ∧ ∀ s, s ∈ c → s.2.length ≤ 5 := by
  have h0 := catOk_facts h
  unfold catOkB at h
  simp only [Bool.and_eq_true, decide_eq_true_eq, List.all_eq_true, List.mem_range] at h
  have hset : ∀ s, s ∈ c → setOkB s = true := fun s hs => by
    obtain ⟨k, hk⟩ := List.getElem?_of_mem hs
    have h1 := h.2 k (List.getElem?_eq_some_iff.1 hk).1
    unfold setAt at h1
    rw [hk] at h1
    simp only [Bool.and_eq_true] at h1
    exact h1.1
  refine ⟨⟨by omega, fun s hs => ?_, fun s hs => by have := (h0.2 s hs).1; omega, fun s hs p hp => ?_⟩, h0.1, fun s hs => (h0.2 s hs).1⟩
  · have h2 := hset s hs
    unfold setOkB at h2
    simp only [Bool.and_eq_true] at h2
    exact word_size h2.1.1
  · have h2 := hset s hs
    unfold setOkB at h2
    simp only [Bool.and_eq_true, decide_eq_true_eq, List.all_eq_true, List.mem_range] at h2
    obtain ⟨j, hj⟩ := List.getElem?_of_mem hp
    have h3 := h2.2 j (List.getElem?_eq_some_iff.1 hj).1
    unfold snapAt at h3
    rw [hj] at h3
    simp only [Bool.and_eq_true] at h3
    have h4 := h3.1
    unfold snapOkB areChunksB at h4
    simp only [Bool.and_eq_true, Bool.or_eq_true, decide_eq_true_eq, List.all_eq_true] at h4
    refine ⟨word_size h4.1.1.1, ?_, by omega, fun x hx => by have := h4.2 x hx; omega⟩
    rcases h4.1.1.2 with h5 | h5
    · rw [h5]; decide
    · exact word_size h5
/-! A copy -/
theorem s_l15Copy_eq {c : D_Catalog} (h : CBnd c) : s_l15Copy c = some c := by
  have hlen := h.len
  unfold s_l15Copy
  rw [loop_pass (l := c) (fun k (t : List D_CSet) => ((k : Int), t)) (fun t x => t ++ [x]) (fun t => some t) (fun k t => t.length ≤ k) [] (s0 := (0, [])) rfl (Nat.le_refl _)]
  · have : ∀ (xs acc : List D_CSet), xs.foldl (fun t x => t ++ [x]) acc = acc ++ xs := fun xs => by
      induction xs with
      | nil => intro acc; simp
      | cons x xs ih => intro acc; rw [List.foldl_cons, ih]; simp
    rw [this, List.nil_append]
  · intro k t s hs ht
    have hk := (List.getElem?_eq_some_iff.1 hs).1
    have hmem := List.mem_of_getElem? hs
    have hsl := h.snaps s hmem
    refine ⟨?_, by simp; omega⟩
    simp only [lt_dec hk, cond_true, idx_nat, hs, Option.bind_some]
    rw [loop_pass (l := s.2) (fun j (t : List D_CSnap) => ((j : Int), t)) (fun t x => t ++ [x]) (fun u => Option.bind (appP t [(s.1, u)]) fun y17 => some (.inl (IntKind.wrap .i64 ((k : Int) + 1), y17))) (fun k t => t.length ≤ k) [] (s0 := (0, [])) rfl (Nat.le_refl _)]
    · have : ∀ (xs acc : List D_CSnap), xs.foldl (fun t x => t ++ [x]) acc = acc ++ xs := fun xs => by
        induction xs with
        | nil => intro acc; simp
        | cons x xs ih => intro acc; rw [List.foldl_cons, ih]; simp
      rw [this, List.nil_append, appP_ok (by simp; omega), Option.bind_some, wrap_succ (by omega)]
    · intro j u p hp hu
      have hj := (List.getElem?_eq_some_iff.1 hp).1
      obtain ⟨_, _, h3, _⟩ := h.snap s hmem p (List.mem_of_getElem? hp)
      refine ⟨?_, by simp; omega⟩
      simp only [lt_dec hj, cond_true, idx_nat, hp, Option.bind_some]
      rw [appP_ok (by simp; omega), Option.bind_some, List.nil_append, appP_ok (by simp; omega), Option.bind_some, wrap_succ (by omega)]
    · intro u hu
      simp only [ge_dec, cond_false]
  · intro t ht
    simp only [ge_dec, cond_false]
/-! A new set -/
def gtN (s : D_CSet) (n : ByteArray) : Bool := !sLt s.1 n && !decide (s.1 = n)
def insSet (n : ByteArray) : List D_CSet → List D_CSet
  | [] => [(n, [])]
  | s :: r => if gtN s n then (n, []) :: s :: r else s :: insSet n r
def stepC (n : ByteArray) (t : List D_CSet × Bool) (s : D_CSet) : List D_CSet × Bool :=
  if !t.2 && gtN s n then (t.1 ++ [(n, [])] ++ [s], true) else (t.1 ++ [s], t.2)
theorem stepC_true (n : ByteArray) : ∀ (ys acc : List D_CSet), ys.foldl (stepC n) (acc, true) = (acc ++ ys, true)
  | [], acc => by simp
  | y :: ys, acc => by
    rw [List.foldl_cons, show stepC n (acc, true) y = (acc ++ [y], true) by simp [stepC], stepC_true n ys]; simp
theorem stepC_false (n : ByteArray) : ∀ (ys acc : List D_CSet), (if !(ys.foldl (stepC n) (acc, false)).2 then (ys.foldl (stepC n) (acc, false)).1 ++ [(n, [])] else (ys.foldl (stepC n) (acc, false)).1) = acc ++ insSet n ys
  | [], acc => by simp [insSet]
  | y :: ys, acc => by
    rw [List.foldl_cons]
    cases hg : gtN y n with
    | true =>
      rw [show stepC n (acc, false) y = (acc ++ [(n, [])] ++ [y], true) by simp [stepC, hg], stepC_true n ys]
      simp [insSet, hg]
    | false =>
      rw [show stepC n (acc, false) y = (acc ++ [y], false) by simp [stepC, hg], stepC_false n ys]
      simp [insSet, hg]
def tOk : ByteArray := ByteArray.mk #[111, 107]
def tExists : ByteArray := ByteArray.mk #[101, 120, 105, 115, 116, 115]
def tFull : ByteArray := ByteArray.mk #[102, 117, 108, 108]
def tNone : ByteArray := ByteArray.mk #[110, 111, 110, 101]
def createD (c : D_Catalog) (n : ByteArray) : D_Catalog × ByteArray := if c.any (fun s => decide (s.1 = n)) then (c, tExists) else if 5 ≤ c.length then (c, tFull) else (insSet n c, tOk)
theorem s_l15At_eq' {c : D_Catalog} {n : ByteArray} (h : c.length ≤ 9223372036854775807) : s_l15At c n = some (firstI (fun s : D_CSet => decide (s.1 = n)) c) := by
  unfold s_l15At
  rw [whileP_find (fun s : D_CSet => decide (s.1 = n)) (fun i => some i) h]
  · intro k x hx
    simp only [lt_dec (List.getElem?_eq_some_iff.1 hx).1, cond_true, idx_nat, hx, Option.bind_some]
    cases decide (x.1 = n) <;> rfl
  · simp only [ge_dec]; rfl
theorem s_l15Create_eq {c : D_Catalog} {n : ByteArray} (h : c.length ≤ 1000000) : s_l15Create c n = some (createD c n) := by
  unfold s_l15Create createD
  rw [s_l15At_eq' (by omega), Option.bind_some, firstI_any]
  cases c.any (fun s => decide (s.1 = n)) with
  | true => rfl
  | false =>
    by_cases h5 : 5 ≤ c.length
    · rw [if_neg (by simp), cond_false, decide_eq_true (show (5 : Int) ≤ (c.length : Int) by omega), if_pos h5]; rfl
    rw [if_neg (by simp), cond_false, decide_eq_false (show ¬ (5 : Int) ≤ (c.length : Int) by omega), if_neg h5, cond_false, Option.bind_some]
    rw [loop_pass (l := c) (fun k (t : List D_CSet × Bool) => (t.1, t.2, (k : Int))) (stepC n) (fun t => some ((if !t.2 then t.1 ++ [(n, [])] else t.1), tOk)) (fun k t => t.1.length ≤ 2 * k) ([], false) (s0 := ([], false, 0)) rfl (Nat.le_refl _)]
    · rw [stepC_false, List.nil_append]
    · intro k t s hs ht
      have hk := (List.getElem?_eq_some_iff.1 hs).1
      obtain ⟨acc, b⟩ := t
      dsimp only at ht ⊢
      simp only [lt_dec hk, cond_true, idx_nat, hs, Option.bind_some, gbs]
      constructor
      · unfold stepC gtN
        cases b with
        | true => simp only [Bool.not_true, Bool.false_and, cond_false]; rw [appP_ok (by simp; omega), Option.bind_some, wrap_succ (by omega)]; rfl
        | false =>
          simp only [Bool.not_false, Bool.true_and, if_true]
          cases hg : (!sLt s.1 n && !decide (s.1 = n)) with
          | true =>
            rw [cond_true, appP_ok (by simp; omega), Option.bind_some, appP_ok (by simp; omega), Option.bind_some, wrap_succ (by omega)]; rfl
          | false => rw [cond_false, appP_ok (by simp; omega), Option.bind_some, wrap_succ (by omega)]; rfl
      · unfold stepC
        split <;> simp <;> omega
    · intro t ht
      obtain ⟨acc, b⟩ := t
      simp only [ge_dec, cond_false]
      cases b with
      | true => rfl
      | false => simp only [Bool.not_false, cond_true, if_true]; rw [appP_ok (by simp at ht ⊢; omega)]; rfl
end Go.Proofs.SL
/- from PCu.lean -/
namespace Go.Proofs.SL
open Go
theorem whileP_step {σ α : Type} {f : σ → Option (σ ⊕ α)} {s s' : σ} (h : f s = some (.inl s')) : whileP f s = whileP f s' := by rw [whileP_eq, h]
theorem whileP_done {σ α : Type} {f : σ → Option (σ ⊕ α)} {s : σ} {a : α} (h : f s = some (.inr a)) : whileP f s = some a := by rw [whileP_eq, h]
def digit (k : Nat) : ByteArray := ByteArray.mk #[UInt8.ofNat (48 + k)]
theorem s_Dec_small : ∀ k : Nat, k ≤ 5 → s_Dec (k : Int) = some (digit k)
  | 0, _ => rfl
  | 1, _ => by unfold s_Dec; rw [decide_eq_false (by decide), cond_false, whileP_step (s' := (0, digit 1)) (by kernel_rfl), whileP_done (by kernel_rfl)]
  | 2, _ => by unfold s_Dec; rw [decide_eq_false (by decide), cond_false, whileP_step (s' := (0, digit 2)) (by kernel_rfl), whileP_done (by kernel_rfl)]
  | 3, _ => by unfold s_Dec; rw [decide_eq_false (by decide), cond_false, whileP_step (s' := (0, digit 3)) (by kernel_rfl), whileP_done (by kernel_rfl)]
  | 4, _ => by unfold s_Dec; rw [decide_eq_false (by decide), cond_false, whileP_step (s' := (0, digit 4)) (by kernel_rfl), whileP_done (by kernel_rfl)]
  | 5, _ => by unfold s_Dec; rw [decide_eq_false (by decide), cond_false, whileP_step (s' := (0, digit 5)) (by kernel_rfl), whileP_done (by kernel_rfl)]
  | n + 6, h => by omega
def tSp : ByteArray := ByteArray.mk #[32]
def tCol : ByteArray := ByteArray.mk #[58]
def readStep (t : Bool × ByteArray) (p : D_CSnap) : Bool × ByteArray := (true, (if t.1 then t.2 ++ tSp else t.2) ++ p.1 ++ tCol ++ p.2.1)
def readD (s : D_CSet) : ByteArray := (s.2.foldl readStep (false, ByteArray.empty)).2
theorem sz_sp : tSp.size = 1 := rfl
theorem sz_col : tCol.size = 1 := rfl
theorem s_l15Read_eq {s : D_CSet} (h : s.2.length ≤ 1000) (hp : ∀ p, p ∈ s.2 → p.1.size ≤ 8 ∧ p.2.1.size ≤ 8) : s_l15Read s = some (readD s) := by
  unfold s_l15Read readD
  rw [loop_pass (l := s.2) (fun k (t : Bool × ByteArray) => (t.2, (k : Int))) readStep (fun t => some t.2) (fun k t => t.1 = decide (0 < k) ∧ t.2.size ≤ 18 * k) (false, ByteArray.empty) (s0 := (ByteArray.empty, 0)) rfl ⟨rfl, Nat.le_refl _⟩]
  · intro k t p hx ht
    have hk := (List.getElem?_eq_some_iff.1 hx).1
    obtain ⟨b, a⟩ := t
    obtain ⟨rfl, ha⟩ := ht
    dsimp only at ha ⊢
    obtain ⟨h1, h2⟩ := hp p (List.mem_of_getElem? hx)
    simp only [lt_dec hk, cond_true, idx_nat, hx, Option.bind_some]
    rcases Nat.eq_zero_or_pos k with h0 | h0
    · subst h0
      rw [decide_eq_false (show ¬ (0 : Int) < ((0 : Nat) : Int) by omega), cond_false]
      show Option.bind (catP a p.1) _ = _ ∧ _
      rw [catP_ok (by omega), Option.bind_some, show (ByteArray.mk #[58]) = tCol from rfl, catP_ok (by simp [ByteArray.size_append, sz_col]; omega), Option.bind_some, catP_ok (by simp [ByteArray.size_append, sz_col]; omega), Option.bind_some, wrap_succ (by omega)]
      exact ⟨rfl, by simp [readStep], by simp [readStep, ByteArray.size_append, sz_col]; omega⟩
    · rw [decide_eq_true (show (0 : Int) < (k : Int) by omega), cond_true, show (ByteArray.mk #[32]) = tSp from rfl, catP_ok (by rw [sz_sp]; omega), Option.bind_some]
      show Option.bind (catP (a ++ tSp) p.1) _ = _ ∧ _
      rw [catP_ok (by simp [ByteArray.size_append, sz_sp]; omega), Option.bind_some, show (ByteArray.mk #[58]) = tCol from rfl, catP_ok (by simp [ByteArray.size_append, sz_col, sz_sp]; omega), Option.bind_some, catP_ok (by simp [ByteArray.size_append, sz_col, sz_sp]; omega), Option.bind_some, wrap_succ (by omega)]
      refine ⟨?_, by simp [readStep], ?_⟩
      · simp [readStep, decide_eq_true h0]
      · simp [readStep, decide_eq_true h0, ByteArray.size_append, sz_col, sz_sp]; omega
  · intro t ht
    simp only [ge_dec, cond_false]
def listStep (t : Bool × ByteArray) (p : D_CSet) : Bool × ByteArray := (true, (if t.1 then t.2 ++ tSp else t.2) ++ p.1)
def listD (c : D_Catalog) : ByteArray := (c.foldl listStep (false, ByteArray.empty)).2
/-! Pruning -/
def bareN (l : List D_CSnap) : Nat := (l.filter fun p => decide (p.2.1 = ByteArray.empty)).length
def pruneStep (n : Int) (t : Int × List D_CSnap) (p : D_CSnap) : Int × List D_CSnap :=
  if p.2.1 = ByteArray.empty then (if n ≤ t.1 - 1 then (t.1 - 1, t.2) else (t.1 - 1, t.2 ++ [p])) else (t.1, t.2 ++ [p])
def pruneD (l : List D_CSnap) (n : Int) : List D_CSnap := (l.foldl (pruneStep n) ((bareN l : Int), [])).2
theorem prune_len (n : Int) : ∀ (l : List D_CSnap) (t : Int × List D_CSnap), (l.foldl (pruneStep n) t).2.length ≤ t.2.length + l.length ∧ ∀ p, p ∈ (l.foldl (pruneStep n) t).2 → p ∈ t.2 ∨ p ∈ l
  | [], t => ⟨by simp, fun p hp => .inl hp⟩
  | x :: l, t => by
    rw [List.foldl_cons]
    obtain ⟨h1, h2⟩ := prune_len n l (pruneStep n t x)
    have h3 : (pruneStep n t x).2 = t.2 ∨ (pruneStep n t x).2 = t.2 ++ [x] := by unfold pruneStep; split <;> (try split) <;> simp
    refine ⟨?_, fun p hp => ?_⟩
    · rcases h3 with h3 | h3 <;> rw [h3] at h1 <;> simp at h1 ⊢ <;> omega
    · rcases h2 p hp with h4 | h4
      · rcases h3 with h3 | h3 <;> rw [h3] at h4
        · exact .inl h4
        · rcases List.mem_append.1 h4 with h5 | h5
          · exact .inl h5
          · exact .inr (by rw [List.mem_singleton.1 h5]; exact List.mem_cons_self ..)
      · exact .inr (List.mem_cons_of_mem _ h4)
theorem s_l15Prune_eq {l : List D_CSnap} {n : Int} (h : l.length ≤ 1000) : s_l15Prune l n = some (pruneD l n, ((l.length - (pruneD l n).length : Nat) : Int)) := by
  unfold s_l15Prune
  rw [loop_pass (l := l) (fun k (t : Nat) => ((t : Int), (k : Int))) (fun t p => if p.2.1 = ByteArray.empty then t + 1 else t) (fun t => if t = bareN l then some (pruneD l n, ((l.length - (pruneD l n).length : Nat) : Int)) else
      whileP (fun s8 : Int × (List D_CSnap) × Int => cond (decide (s8.2.2 < (l.length : Int))) (Option.bind (idx l s8.2.2) (fun y10 => cond (decide (y10.2.1 = ByteArray.empty)) (cond (decide (n ≤ IntKind.wrap .i64 (s8.1 - 1))) (some (.inl ((IntKind.wrap .i64 (s8.1 - 1), s8.2.1, IntKind.wrap .i64 (s8.2.2 + 1))))) (Option.bind (idx l s8.2.2) (fun y13 => Option.bind (appP s8.2.1 [(y13.1, y13.2.1, y13.2.2)]) (fun y15 => some (.inl ((IntKind.wrap .i64 (s8.1 - 1), y15, IntKind.wrap .i64 (s8.2.2 + 1)))))))) (Option.bind (idx l s8.2.2) (fun y16 => Option.bind (appP s8.2.1 [(y16.1, y16.2.1, y16.2.2)]) (fun y18 => some (.inl ((s8.1, y18, IntKind.wrap .i64 (s8.2.2 + 1))))))))) (Option.map .inr (some (s8.2.1, IntKind.wrap .i64 ((l.length : Int) - (s8.2.1.length : Int)))))) ((t : Int), [], 0))
      (fun k t => t ≤ k) 0 (s0 := (0, 0)) rfl (Nat.le_refl _)]
  · have hb : l.foldl (fun t p => if p.2.1 = ByteArray.empty then t + 1 else t) 0 = bareN l := by
      have : ∀ (l : List D_CSnap) (t : Nat), l.foldl (fun t p => if p.2.1 = ByteArray.empty then t + 1 else t) t = t + bareN l := fun l => by
        induction l with
        | nil => intro t; rfl
        | cons p l ih =>
          intro t
          rw [List.foldl_cons, ih]
          unfold bareN
          by_cases hp : p.2.1 = ByteArray.empty
          · rw [if_pos hp, List.filter_cons_of_pos (by simpa using hp), List.length_cons]; omega
          · rw [if_neg hp, List.filter_cons_of_neg (by simpa using hp)]
      rw [this, Nat.zero_add]
    rw [hb, if_pos rfl]
  · intro k t p hx ht
    have hk := (List.getElem?_eq_some_iff.1 hx).1
    simp only [lt_dec hk, cond_true, idx_nat, hx, Option.bind_some]
    by_cases hp : p.2.1 = ByteArray.empty
    · rw [decide_eq_true hp, cond_true, wrap_succ (by omega), wrap_succ (by omega), if_pos hp]; exact ⟨rfl, by omega⟩
    · rw [decide_eq_false hp, cond_false, wrap_succ (by omega), if_neg hp]; exact ⟨rfl, by omega⟩
  · intro t ht
    simp only [ge_dec, cond_false, Option.bind_some]
    congr 1
    split
    · rename_i hb
      subst hb
      have hbl : bareN l ≤ l.length := List.length_filter_le _ _
      rw [loop_pass (l := l) (fun k (t : Int × List D_CSnap) => (t.1, t.2, (k : Int))) (pruneStep n) (fun t => some (t.2, ((l.length - t.2.length : Nat) : Int))) (fun k t => -(k : Int) ≤ t.1 ∧ t.1 ≤ 1000 ∧ t.2.length ≤ k) ((bareN l : Int), []) (s0 := ((bareN l : Int), [], 0)) rfl ⟨by omega, by omega, Nat.le_refl _⟩]
      · rfl
      · intro k t p hx ht
        have hk := (List.getElem?_eq_some_iff.1 hx).1
        obtain ⟨b, a⟩ := t
        dsimp only at ht ⊢
        simp only [lt_dec hk, cond_true, idx_nat, hx, Option.bind_some]
        have hw : IntKind.wrap .i64 (b - 1) = b - 1 := wrap64_in (by unfold inR; omega)
        rw [hw, appP_ok (by simp; omega), wrap_succ (by omega)]
        unfold pruneStep
        by_cases hp : p.2.1 = ByteArray.empty
        · rw [decide_eq_true hp, cond_true, if_pos hp]
          by_cases hn : n ≤ b - 1
          · rw [decide_eq_true hn, cond_true, if_pos hn]; exact ⟨rfl, by dsimp only; omega⟩
          · rw [decide_eq_false hn, cond_false, if_neg hn]; exact ⟨rfl, by simp; omega⟩
        · rw [decide_eq_false hp, cond_false, if_neg hp]; exact ⟨rfl, by simp; omega⟩
      · intro t ht
        simp only [ge_dec, cond_false]
        rw [wrap64_in (by unfold inR; omega)]
        have e : (l.length : Int) - (t.2.length : Int) = ((l.length - t.2.length : Nat) : Int) := by omega
        rw [e]
    · rfl
end Go.Proofs.SL
/- from PCv.lean -/
namespace Go.Proofs.SL
open Go
def catSetD (c : D_Catalog) (a : Nat) (s : D_CSet) (m : D_Cmd) : D_Catalog × ByteArray :=
  if m.1 = 2 then (c.eraseIdx a, tOk)
  else if m.1 = 3 then (if s.2.any (fun p => decide (p.1 = m.2.2.2.2.1)) then (c, tExists) else if 5 ≤ s.2.length then (c, tFull) else (c.set a (s.1, s.2 ++ [(m.2.2.2.2.1, ByteArray.empty, m.2.2.2.2.2.2.2)]), tOk))
  else if m.1 = 4 then (match s.2.findIdx? (fun p => decide (p.1 = m.2.2.2.2.1)) with
    | none => (c, tNone)
    | some k => match s.2[k]? with
      | none => (c, tNone)
      | some p => (c.set a (s.1, s.2.set k (p.1, m.2.2.2.2.2.1, p.2.2)), tOk))
  else if m.1 = 5 then (c.set a (s.1, pruneD s.2 m.2.2.2.2.2.2.1), digit (s.2.length - (pruneD s.2 m.2.2.2.2.2.2.1).length))
  else (c, readD s)
theorem slcP_pos {α : Type} {l : List α} {a b : Int} (h : 0 ≤ a ∧ a ≤ b ∧ b ≤ l.length) : slcP l a b = some ((l.drop a.toNat).take (b.toNat - a.toNat)) := if_pos h
theorem s_l15Set_eq {c : D_Catalog} {a : Nat} {s : D_CSet} {m : D_Cmd} (hc : c.length ≤ 1000) (ha : c[a]? = some s) (hs : s.2.length ≤ 5) (hp : ∀ p, p ∈ s.2 → p.1.size ≤ 8 ∧ p.2.1.size ≤ 8) (hm : m.2.2.2.2.2.2.2.length ≤ 1000) : s_l15Set c (a : Int) m = some (catSetD c a s m) := by
  have hal := (List.getElem?_eq_some_iff.1 ha).1
  unfold s_l15Set catSetD
  simp only [idx_nat, ha, Option.bind_some, Prod.eta]
  rw [s_l15Find_eq (by omega), Option.bind_some]
  by_cases h2 : m.1 = 2
  · rw [if_pos h2, decide_eq_true h2, cond_true, slcP_pos (by omega), Option.bind_some]
    have e1 : chkP (decide (0 ≤ ((0 : Int)).toNat)) = some () := rfl
    have e2 : chkP (decide ((a : Int).toNat ≤ (IntKind.wrap .i64 ((a : Int) + 1)).toNat)) = some () := by
      rw [wrap_succ (by omega)]; unfold chkP; rw [if_pos (by simp)]
    rw [e1, Option.bind_some, appP_ok (by simp; omega), Option.bind_some, e2, wrap_succ (by omega), slcP_pos (by omega), Option.bind_some, Option.bind_some, appP_ok (by simp; omega), Option.bind_some, List.eraseIdx_eq_take_drop_succ]
    congr 2
    simp only [Int.toNat_zero, List.drop_zero, Int.toNat_natCast, Nat.sub_zero, List.nil_append]
    rw [List.take_of_length_le (l := c.drop (a + 1)) (by simp)]
  rw [if_neg h2, decide_eq_false h2, cond_false]
  by_cases h3 : m.1 = 3
  · rw [if_pos h3, decide_eq_true h3, cond_true, firstI_any]
    cases s.2.any (fun p => decide (p.1 = m.2.2.2.2.1)) with
    | true => rfl
    | false =>
      rw [cond_false, if_neg (by simp)]
      by_cases h5 : 5 ≤ s.2.length
      · rw [decide_eq_true (show (5 : Int) ≤ (s.2.length : Int) by omega), if_pos h5]; rfl
      rw [decide_eq_false (show ¬ (5 : Int) ≤ (s.2.length : Int) by omega), if_neg h5, cond_false]
      rw [appP_ok (by simp; omega), Option.bind_some, appP_ok (by simp; omega), Option.bind_some, List.nil_append, appP_ok (by simp; omega), Option.bind_some]
      rfl
  rw [if_neg h3, decide_eq_false h3, cond_false]
  by_cases h4 : m.1 = 4
  · rw [if_pos h4, decide_eq_true h4, cond_true]
    rcases firstI_get (fun p : D_CSnap => decide (p.1 = m.2.2.2.2.1)) s.2 with ⟨e1, e2⟩ | ⟨k, p, e1, e2, e3, _⟩
    · rw [e1, e2]; rfl
    · rw [e1, e2, decide_eq_false (show ¬ ((k : Int) < 0) by omega), cond_false]
      simp only [idx_nat, e3, Option.bind_some, Int.toNat_natCast]
      rfl
  rw [if_neg h4, decide_eq_false h4, cond_false]
  by_cases h5 : m.1 = 5
  · rw [if_pos h5, decide_eq_true h5, cond_true, s_l15Prune_eq (by omega), Option.bind_some]
    dsimp only
    rw [s_Dec_small _ (by omega)]
    rfl
  rw [if_neg h5, decide_eq_false h5, cond_false, s_l15Read_eq (by omega) hp]
  rfl
noncomputable def catDoD (c : D_Catalog) (m : D_Cmd) : D_Catalog × ByteArray :=
  if catOkB c then (if !cmdOkB m || decide (m.1 = 0) then (c, ByteArray.empty) else if m.1 = 1 then createD c m.2.2.2.1 else if m.1 = 7 then (c, listD c) else
    match c.findIdx? (fun s => decide (s.1 = m.2.2.2.1)) with
    | none => (c, tNone)
    | some a => match c[a]? with
      | none => (c, tNone)
      | some s => catSetD c a s m) else ([], ByteArray.empty)
theorem cmdOk_bnd {m : D_Cmd} (h : cmdOkB m = true) : m.2.2.2.1.size ≤ 8 ∧ m.2.2.2.2.1.size ≤ 8 ∧ m.2.2.2.2.2.1.size ≤ 8 ∧ m.2.2.2.2.2.2.2.length ≤ 4 ∧ ∀ x, x ∈ m.2.2.2.2.2.2.2 → x.size ≤ 8 := by
  have hw : ∀ {s : ByteArray} {b : Bool}, wordIfB s b = true → s.size ≤ 8 := by
    intro s b hb
    unfold wordIfB at hb
    split at hb
    · exact word_size hb
    · rw [of_decide_eq_true hb]; decide
  unfold cmdOkB at h
  split at h
  · rw [pB_iff] at h
    subst h
    exact ⟨by decide, by decide, by decide, by decide, fun x hx => by cases hx⟩
  · simp only [Bool.and_eq_true] at h
    obtain ⟨⟨⟨⟨⟨_, h4⟩, h5⟩, h6⟩, _⟩, h8⟩ := h
    refine ⟨hw h4, hw h5, hw h6, ?_⟩
    split at h8
    · unfold areChunksB at h8
      simp only [Bool.and_eq_true, decide_eq_true_eq, List.all_eq_true] at h8
      exact ⟨by omega, fun x hx => by have := h8.2 x hx; omega⟩
    · simp only [decide_eq_true_eq] at h8
      have : m.2.2.2.2.2.2.2 = [] := by apply List.eq_nil_of_length_eq_zero; omega
      rw [this]; exact ⟨by decide, fun x hx => by cases hx⟩
theorem s_CatDo_eq {c : D_Catalog} {m : D_Cmd} (hc : Ok.ok c) (hm : Ok.ok m) : s_CatDo c m = some (catDoD c m) := by
  unfold s_CatDo catDoD
  simp only [Prod.eta]
  rw [s_CatOk_eq hc, Option.bind_some]
  cases hk : catOkB c with
  | false => rfl
  | true =>
    obtain ⟨hb, h5, h6⟩ := catOk_bnd hk
    rw [Bool.not_true, cond_false, s_l15Copy_eq hb, Option.bind_some, s_CmdOk_eq hm, Option.bind_some, if_pos rfl]
    cases hq : (!cmdOkB m || decide (m.1 = 0)) with
    | true => rfl
    | false =>
      have hmk : cmdOkB m = true := by
        cases h : cmdOkB m with
        | true => rfl
        | false => rw [h] at hq; simp at hq
      obtain ⟨_, _, _, m4, _⟩ := cmdOk_bnd hmk
      rw [cond_false, if_neg (by simp)]
      by_cases h1 : m.1 = 1
      · rw [decide_eq_true h1, cond_true, if_pos h1, s_l15Create_eq (by omega)]; rfl
      rw [decide_eq_false h1, cond_false, if_neg h1]
      by_cases h7 : m.1 = 7
      · rw [decide_eq_true h7, cond_true, if_pos h7]
        rw [loop_pass (l := c) (fun k (t : Bool × ByteArray) => (t.2, (k : Int))) listStep (fun t => some (c, t.2)) (fun k t => t.1 = decide (0 < k) ∧ t.2.size ≤ 9 * k) (false, ByteArray.empty) (s0 := (ByteArray.empty, 0)) rfl ⟨rfl, Nat.le_refl _⟩]
        · rfl
        · intro k t p hx ht
          have hkl := (List.getElem?_eq_some_iff.1 hx).1
          obtain ⟨b, a⟩ := t
          obtain ⟨rfl, ha⟩ := ht
          dsimp only at ha ⊢
          have h2 := hb.name p (List.mem_of_getElem? hx)
          simp only [lt_dec hkl, cond_true, idx_nat, hx, Option.bind_some]
          rcases Nat.eq_zero_or_pos k with h0 | h0
          · subst h0
            rw [decide_eq_false (show ¬ (0 : Int) < ((0 : Nat) : Int) by omega), cond_false, catP_ok (by omega), Option.bind_some, wrap_succ (by omega)]
            exact ⟨rfl, by simp [listStep], by simp [listStep, ByteArray.size_append]; omega⟩
          · rw [decide_eq_true (show (0 : Int) < (k : Int) by omega), cond_true, show (ByteArray.mk #[32]) = tSp from rfl, catP_ok (by rw [sz_sp]; omega), Option.bind_some, catP_ok (by simp [ByteArray.size_append, sz_sp]; omega), Option.bind_some, wrap_succ (by omega)]
            refine ⟨?_, by simp [listStep], ?_⟩
            · simp [listStep, decide_eq_true h0]
            · simp [listStep, decide_eq_true h0, ByteArray.size_append, sz_sp]; omega
        · intro t ht
          simp only [ge_dec, cond_false]
      rw [decide_eq_false h7, cond_false, if_neg h7, s_l15At_eq' (by omega), Option.bind_some]
      rcases firstI_get (fun p : D_CSet => decide (p.1 = m.2.2.2.1)) c with ⟨e1, e2⟩ | ⟨k, p, e1, e2, e3, _⟩
      · rw [e1, e2]; rfl
      · have hp := List.mem_of_getElem? e3
        rw [e1, e2, decide_eq_false (show ¬ ((k : Int) < 0) by omega), cond_false, s_l15Set_eq (by omega) e3 (h6 p hp) (fun q hq => ⟨(hb.snap p hp q hq).1, (hb.snap p hp q hq).2.1⟩) (by omega), Option.bind_some]
        dsimp only
        rw [e3]
theorem insSet_mem (n : ByteArray) : ∀ (c : D_Catalog) (s : D_CSet), s ∈ insSet n c → s = (n, []) ∨ s ∈ c
  | [], s, h => .inl (List.mem_singleton.1 h)
  | x :: c, s, h => by
    unfold insSet at h
    split at h
    · rcases List.mem_cons.1 h with rfl | h
      · exact .inl rfl
      · exact .inr h
    · rcases List.mem_cons.1 h with rfl | h
      · exact .inr (List.mem_cons_self ..)
      · rcases insSet_mem n c s h with h | h
        · exact .inl h
        · exact .inr (List.mem_cons_of_mem _ h)
theorem insSet_len (n : ByteArray) : ∀ c : D_Catalog, (insSet n c).length = c.length + 1
  | [] => rfl
  | x :: c => by unfold insSet; split <;> simp [insSet_len n c]
theorem mem_set' {α : Type} {l : List α} {k : Nat} {x y : α} (h : y ∈ l.set k x) : y = x ∨ y ∈ l := by
  rcases List.mem_or_eq_of_mem_set h with h | h
  · exact .inr h
  · exact .inl h
theorem bnd_set {c : D_Catalog} (h : CBnd c) {k : Nat} {s : D_CSet} (h1 : s.1.size ≤ 8) (h2 : s.2.length ≤ 6) (h3 : ∀ p, p ∈ s.2 → p.1.size ≤ 8 ∧ p.2.1.size ≤ 8 ∧ p.2.2.length ≤ 4 ∧ ∀ x, x ∈ p.2.2 → x.size ≤ 8) : CBnd (c.set k s) :=
  ⟨by rw [List.length_set]; exact h.len, fun z hz => by
    rcases mem_set' hz with rfl | hz
    · exact h1
    · exact h.name z hz, fun z hz => by
    rcases mem_set' hz with rfl | hz
    · exact h2
    · exact h.snaps z hz, fun z hz => by
    rcases mem_set' hz with rfl | hz
    · exact h3
    · exact h.snap z hz⟩
theorem bnd_nil : CBnd [] := ⟨by decide, fun s h => (by cases h), fun s h => (by cases h), fun s h => by cases h⟩
theorem catDo_bnd (c : D_Catalog) (m : D_Cmd) : CBnd (catDoD c m).1 := by
  unfold catDoD
  split
  · rename_i hk
    obtain ⟨hb, h5, h6⟩ := catOk_bnd hk
    split
    · exact hb
    · rename_i hq
      have hmk : cmdOkB m = true := by
        cases h : cmdOkB m with
        | true => rfl
        | false => rw [h] at hq; simp at hq
      obtain ⟨m1, m2, m3, m4, m5⟩ := cmdOk_bnd hmk
      split
      · unfold createD
        split
        · exact hb
        · split
          · exact hb
          · refine ⟨by rw [insSet_len]; omega, fun s hs => ?_, fun s hs => ?_, fun s hs => ?_⟩
            all_goals rcases insSet_mem _ _ _ hs with rfl | hs
            · exact m1
            · exact hb.name s hs
            · exact Nat.zero_le _
            · exact hb.snaps s hs
            · exact fun p hp => by cases hp
            · exact hb.snap s hs
      · split
        · exact hb
        · split
          · exact hb
          · split
            · exact hb
            · rename_i s hs
              have hmem := List.mem_of_getElem? hs
              have n1 := hb.name s hmem
              have n2 := h6 s hmem
              have n3 := hb.snap s hmem
              unfold catSetD
              split
              · refine ⟨Nat.le_trans (List.length_eraseIdx_le _ _) hb.len, fun z hz => hb.name z (List.mem_of_mem_eraseIdx hz), fun z hz => hb.snaps z (List.mem_of_mem_eraseIdx hz), fun z hz => hb.snap z (List.mem_of_mem_eraseIdx hz)⟩
              · split
                · split
                  · exact hb
                  · split
                    · exact hb
                    · refine bnd_set hb n1 (by simp; omega) fun p hp => ?_
                      rcases List.mem_append.1 hp with hp | hp
                      · exact n3 p hp
                      · rw [List.mem_singleton.1 hp]; exact ⟨m2, Nat.zero_le _, m4, m5⟩
                · split
                  · split
                    · exact hb
                    · split
                      · exact hb
                      · rename_i p hpk
                        obtain ⟨q1, q2, q3, q4⟩ := n3 p (List.mem_of_getElem? hpk)
                        refine bnd_set hb n1 (by rw [List.length_set]; omega) fun p' hp' => ?_
                        rcases mem_set' hp' with rfl | hp'
                        · exact ⟨q1, m3, q3, q4⟩
                        · exact n3 p' hp'
                  · split
                    · refine bnd_set hb n1 ?_ fun p hp => ?_
                      · have := (prune_len m.2.2.2.2.2.2.1 s.2 ((bareN s.2 : Int), [])).1
                        show (pruneD s.2 _).length ≤ 6
                        unfold pruneD; simp at this; omega
                      · rcases (prune_len m.2.2.2.2.2.2.1 s.2 ((bareN s.2 : Int), [])).2 p hp with h | h
                        · cases h
                        · exact n3 p h
                    · exact hb
  · exact bnd_nil
end Go.Proofs.SL
/- from PRa.lean -/
namespace Go.Proofs.SL
open Go
theorem jbind_rule {σ α : Type} {o : Option (σ ⊕ α)} {k : σ → Option α} {Q : Option α → Prop} (P : σ → Prop) (h : ∃ s, o = some (.inl s) ∧ P s) (hk : ∀ s, P s → Q (k s)) : Q (jbind o k) := by
  obtain ⟨s, rfl, hs⟩ := h
  exact hk s hs
structure MB (m : D_Cmd) : Prop where
  k : inR m.1
  cl : inR m.2.1
  no : inR m.2.2.1
  s1 : m.2.2.2.1.size ≤ 9
  s2 : m.2.2.2.2.1.size ≤ 9
  s3 : m.2.2.2.2.2.1.size ≤ 9
  n : inR m.2.2.2.2.2.2.1
  len : m.2.2.2.2.2.2.2.length ≤ 5
  ch : ∀ x, x ∈ m.2.2.2.2.2.2.2 → x.size ≤ 9
theorem MB.ok {m : D_Cmd} (h : MB m) : Ok.ok m :=
  ⟨h.k, h.cl, h.no, by have := h.s1; show _ ≤ _; omega, by have := h.s2; show _ ≤ _; omega, by have := h.s3; show _ ≤ _; omega, h.n, by have := h.len; omega, fun x hx => by have := h.ch x hx; show x.size ≤ _; omega⟩
theorem mb_none : MB noCmd := ⟨by unfold inR noCmd; decide, by unfold inR noCmd; decide, by unfold inR noCmd; decide, by decide, by decide, by decide, by unfold inR noCmd; decide, by decide, fun x hx => by cases hx⟩
theorem small {n : Int} (h : -10000 ≤ n ∧ n ≤ 10000) : inR n := by unfold inR; omega
theorem sz9 {l : List ByteArray} {x : ByteArray} (hx : x ∈ l) (h : l.all (fun s => decide (s.size ≤ 9)) = true) : x.size ≤ 9 := by simpa using List.all_eq_true.1 h x hx
theorem right_ok {d : D_l1Cur} (h : CurOk d) : ∃ m d', s_l4Right d = some (m, d') ∧ MB m ∧ m.2.2.2.2.2.2.2.length ≤ 3 ∧ CurOk d' ∧ d'.1 = d.1 := by
  unfold s_l4Right
  simp only [Prod.eta]
  obtain ⟨y1, d1, e1, g1, c1, f1⟩ := below_ok' h 7
  rw [e1, Option.bind_some]; dsimp only
  obtain ⟨y2, d2, e2, g2, c2, f2⟩ := below_ok' c1 3
  rw [e2, Option.bind_some]; dsimp only
  obtain ⟨y3, d3, e3, g3, c3, f3⟩ := below_ok' c2 6
  rw [e3, Option.bind_some]; dsimp only
  have k1 := g1.2.1 (by omega); have k2 := g2.2.1 (by omega); have k3 := g3.2.1 (by omega)
  have w1 : IntKind.wrap .i64 (1 + y1) = 1 + y1 := wrap64_in (by unfold inR; omega)
  have w2 : IntKind.wrap .i64 (1 + y2) = 1 + y2 := wrap64_in (by unfold inR; omega)
  have w3 : IntKind.wrap .i64 (1 + y3) = 1 + y3 := wrap64_in (by unfold inR; omega)
  rw [w1, w2, w3]
  refine jbind_rule (Q := fun o => ∃ m d', o = some (m, d') ∧ MB m ∧ m.2.2.2.2.2.2.2.length ≤ 3 ∧ CurOk d' ∧ d'.1 = d.1) (fun s : Int × Int × Int => CurOk (d3.1, s.1, s.2.1) ∧ 1 ≤ s.2.2 ∧ s.2.2 ≤ 7) ?_ ?_
  · obtain ⟨b, d5, e5, c5, f5⟩ := once_ok' c3 4
    rw [e5, Option.bind_some]; dsimp only
    rw [f5.symm]
    cases b
    · exact ⟨_, rfl, c5, by dsimp only; omega, by dsimp only; omega⟩
    · exact ⟨_, rfl, c5, by dsimp only; omega, by dsimp only; omega⟩
  rintro ⟨p4, q4, k4⟩ ⟨c4, l4, u4⟩
  dsimp only at c4 l4 u4 ⊢
  refine jbind_rule (Q := fun o => ∃ m d', o = some (m, d') ∧ MB m ∧ m.2.2.2.2.2.2.2.length ≤ 3 ∧ CurOk d' ∧ d'.1 = d.1) (fun s : Int × Int × ByteArray => CurOk (d3.1, s.1, s.2.1) ∧ s.2.2.size ≤ 9) ?_ ?_
  · cases (!decide (k4 = 7))
    · exact ⟨_, rfl, c4, Nat.zero_le _⟩
    · rw [cond_true, Option.bind_some]
      obtain ⟨x, d6, e6, g6, c6, f6⟩ := pick_ok' c4 (l := [(ByteArray.mk #[97]), (ByteArray.mk #[98]), (ByteArray.mk #[97, 98])]) (by decide)
      rw [e6, Option.bind_some]; dsimp only at f6 ⊢
      exact ⟨_, rfl, by dsimp only; rw [← f6]; exact c6, sz9 g6 (by decide)⟩
  rintro ⟨p7, q7, s7⟩ ⟨c7, z7⟩
  dsimp only at c7 z7 ⊢
  refine jbind_rule (Q := fun o => ∃ m d', o = some (m, d') ∧ MB m ∧ m.2.2.2.2.2.2.2.length ≤ 3 ∧ CurOk d' ∧ d'.1 = d.1) (fun s : Int × Int × ByteArray => CurOk (d3.1, s.1, s.2.1) ∧ s.2.2.size ≤ 9) ?_ ?_
  · cases (decide (k4 = 3) || decide (k4 = 4))
    · exact ⟨_, rfl, c7, Nat.zero_le _⟩
    · rw [cond_true, Option.bind_some]
      obtain ⟨x, d6, e6, g6, c6, f6⟩ := pick_ok' c7 (l := [(ByteArray.mk #[120]), (ByteArray.mk #[121]), (ByteArray.mk #[122])]) (by decide)
      rw [e6, Option.bind_some]; dsimp only at f6 ⊢
      exact ⟨_, rfl, by dsimp only; rw [← f6]; exact c6, sz9 g6 (by decide)⟩
  rintro ⟨p8, q8, s8⟩ ⟨c8, z8⟩
  dsimp only at c8 z8 ⊢
  refine jbind_rule (Q := fun o => ∃ m d', o = some (m, d') ∧ MB m ∧ m.2.2.2.2.2.2.2.length ≤ 3 ∧ CurOk d' ∧ d'.1 = d.1) (fun s : Int × Int × ByteArray => CurOk (d3.1, s.1, s.2.1) ∧ s.2.2.size ≤ 9) ?_ ?_
  · cases (decide (k4 = 4))
    · exact ⟨_, rfl, c8, Nat.zero_le _⟩
    · rw [cond_true, Option.bind_some]
      obtain ⟨x, d6, e6, g6, c6, f6⟩ := pick_ok' c8 (l := [(ByteArray.mk #[107, 101, 101, 112]), (ByteArray.mk #[116])]) (by decide)
      rw [e6, Option.bind_some]; dsimp only at f6 ⊢
      exact ⟨_, rfl, by dsimp only; rw [← f6]; exact c6, sz9 g6 (by decide)⟩
  rintro ⟨p9, q9, s9⟩ ⟨c9, z9⟩
  dsimp only at c9 z9 ⊢
  refine jbind_rule (Q := fun o => ∃ m d', o = some (m, d') ∧ MB m ∧ m.2.2.2.2.2.2.2.length ≤ 3 ∧ CurOk d' ∧ d'.1 = d.1) (fun s : Int × Int × Int => CurOk (d3.1, s.1, s.2.1) ∧ 0 ≤ s.2.2 ∧ s.2.2 ≤ 4) ?_ ?_
  · cases (decide (k4 = 5))
    · exact ⟨_, rfl, c9, by dsimp only; omega, by dsimp only; omega⟩
    · rw [cond_true]
      obtain ⟨x, d6, e6, g6, c6, f6⟩ := below_ok' c9 4
      have := g6.2.1 (by omega)
      rw [e6, Option.bind_some]; dsimp only at f6 ⊢
      exact ⟨_, rfl, by dsimp only; rw [← f6]; exact c6, by dsimp only; omega, by dsimp only; omega⟩
  rintro ⟨p10, q10, n10⟩ ⟨c10, l10, u10⟩
  dsimp only at c10 l10 u10 ⊢
  have hf : d3.1 = d.1 := by rw [f3, f2, f1]
  cases (decide (k4 = 3)) with
  | false => exact ⟨_, _, rfl, ⟨small (by dsimp only; omega), small (by dsimp only; omega), small (by dsimp only; omega), z7, z8, z9, small (by dsimp only; omega), Nat.zero_le _, fun x hx => by cases hx⟩, Nat.zero_le _, c10, hf⟩
  | true =>
    rw [cond_true]
    obtain ⟨y26, d26, e26, g26, c26, f26⟩ := below_ok' c10 3
    have k26 := g26.2.1 (by omega)
    rw [e26, Option.bind_some]; dsimp only at f26 ⊢
    rw [wrap64_in (n := 1 + y26) (by unfold inR; omega)]
    refine (fun ⟨r, hr, hq⟩ => ⟨r.1, r.2, hr, hq⟩ : (∃ r : D_Cmd × D_l1Cur, _ = some r ∧ (MB r.1 ∧ r.1.2.2.2.2.2.2.2.length ≤ 3 ∧ CurOk r.2 ∧ r.2.1 = d.1)) → _) (whileP_rule (fun s : Int × Int × Int × (List ByteArray) => 0 ≤ s.1 ∧ s.1 + (s.2.2.2.length : Int) ≤ 3 ∧ CurOk (d26.1, s.2.1, s.2.2.1) ∧ ∀ x, x ∈ s.2.2.2 → x.size ≤ 9) (fun s => s.1.toNat) (fun r : D_Cmd × D_l1Cur => MB r.1 ∧ r.1.2.2.2.2.2.2.2.length ≤ 3 ∧ CurOk r.2 ∧ r.2.1 = d.1) ?_ (1 + y26, d26.2.1, d26.2.2, []) ⟨by dsimp only; omega, by simp; omega, c26, fun x hx => by cases hx⟩)
    rintro ⟨k, p, q, l⟩ ⟨i1, i2, i3, i4⟩
    dsimp only at i1 i2 i3 i4 ⊢
    by_cases hk : 0 < k
    · left
      rw [decide_eq_true hk, cond_true]
      obtain ⟨y29, d29, e29, g29, c29, f29⟩ := below_ok' i3 4
      rw [e29, Option.bind_some]; dsimp only at f29 ⊢
      obtain ⟨b, eb⟩ := u8P_wrap y29
      rw [eb, Option.bind_some, Option.bind_some, s_Short_eq (by rw [strP_size]; simp), Option.bind_some, appP_ok (by simp; omega), Option.bind_some, wrap64_in (n := k - 1) (by unfold inR; omega)]
      refine ⟨_, rfl, ⟨by dsimp only; omega, by simp; omega, by dsimp only; rw [← f29]; exact c29, fun x hx => ?_⟩, by dsimp only; omega⟩
      rcases List.mem_append.1 hx with hx | hx
      · exact i4 x hx
      · rw [List.mem_singleton.1 hx, short_size]; omega
    · right
      rw [decide_eq_false hk, cond_false]
      exact ⟨_, rfl, ⟨small (by dsimp only; omega), small (by dsimp only; omega), small (by dsimp only; omega), z7, z8, z9, small (by dsimp only; omega), by dsimp only; omega, i4⟩, by dsimp only; omega, i3, by dsimp only; rw [f26, hf]⟩
end Go.Proofs.SL
/- from PRb.lean -/
namespace Go.Proofs.SL
open Go
theorem cmd_ok {d : D_l1Cur} (h : CurOk d) : ∃ m d', s_l4Cmd d = some (m, d') ∧ MB m ∧ CurOk d' ∧ d'.1 = d.1 := by
  unfold s_l4Cmd
  simp only [Prod.eta]
  obtain ⟨b, d1, e1, c1, f1⟩ := once_ok' h 12
  rw [e1, Option.bind_some]; dsimp only
  cases b with
  | true => exact ⟨_, _, rfl, mb_none, c1, f1⟩
  | false =>
    rw [cond_false]
    obtain ⟨m, d3, e3, hm, l3, c3, f3⟩ := right_ok c1
    rw [e3, Option.bind_some]; dsimp only
    obtain ⟨b, d4, e4, c4, f4⟩ := once_ok' c3 8
    rw [e4, Option.bind_some]; dsimp only
    have hf4 : d4.1 = d.1 := by rw [f4, f3, f1]
    cases b with
    | false => exact ⟨_, _, rfl, hm, c4, hf4⟩
    | true =>
      rw [cond_true]
      obtain ⟨y6, d6, e6, g6, c6, f6⟩ := below_ok' c4 6
      rw [e6, Option.bind_some]; dsimp only
      have hf6 : d6.1 = d.1 := by rw [f6, hf4]
      have hpi : ∀ l : List Int, 0 < l.length → (∀ x, x ∈ l → -10000 ≤ x ∧ x ≤ 10000) → ∃ x d', s_l1PickInt d6 l = some (x, d') ∧ inR x ∧ CurOk d' ∧ d'.1 = d.1 := fun l h0 hl => by
        obtain ⟨x, d', e, g, c, f⟩ := pickint_ok' c6 h0
        exact ⟨x, d', e, small (hl x g), c, by rw [f, hf6]⟩
      cases decide (y6 = 0) with
      | true =>
        rw [cond_true, Option.bind_some]
        obtain ⟨x, d7, e7, i7, c7, f7⟩ := hpi [(-1), 0, 8, 3] (by decide) (by decide)
        rw [e7, Option.bind_some]
        exact ⟨_, _, rfl, ⟨i7, hm.cl, hm.no, hm.s1, hm.s2, hm.s3, hm.n, hm.len, hm.ch⟩, c7, f7⟩
      | false =>
      rw [cond_false]
      cases decide (y6 = 1) with
      | true =>
        rw [cond_true, Option.bind_some]
        obtain ⟨x, d7, e7, i7, c7, f7⟩ := hpi [0, 9, 10] (by decide) (by decide)
        rw [e7, Option.bind_some]
        exact ⟨_, _, rfl, ⟨hm.k, i7, hm.no, hm.s1, hm.s2, hm.s3, hm.n, hm.len, hm.ch⟩, c7, f7⟩
      | false =>
      rw [cond_false]
      cases decide (y6 = 2) with
      | true =>
        rw [cond_true, Option.bind_some]
        obtain ⟨x, d7, e7, i7, c7, f7⟩ := hpi [0, 1000, 1001] (by decide) (by decide)
        rw [e7, Option.bind_some]
        exact ⟨_, _, rfl, ⟨hm.k, hm.cl, i7, hm.s1, hm.s2, hm.s3, hm.n, hm.len, hm.ch⟩, c7, f7⟩
      | false =>
      rw [cond_false]
      cases decide (y6 = 3) with
      | true =>
        rw [cond_true, Option.bind_some]
        obtain ⟨x, d7, e7, g7, c7, f7⟩ := pick_ok' c6 (l := [ByteArray.empty, (ByteArray.mk #[65]), (ByteArray.mk #[97, 98, 99, 100, 101, 102, 103, 104]), (ByteArray.mk #[97, 98, 99, 100, 101, 102, 103, 104, 105])]) (by decide)
        rw [e7, Option.bind_some]
        exact ⟨_, _, rfl, ⟨hm.k, hm.cl, hm.no, sz9 g7 (by decide), hm.s2, hm.s3, hm.n, hm.len, hm.ch⟩, c7, by rw [f7, hf6]⟩
      | false =>
      rw [cond_false]
      cases decide (y6 = 4) with
      | true =>
        rw [cond_true, Option.bind_some]
        obtain ⟨x, d7, e7, i7, c7, f7⟩ := hpi [(-1), 9, 10] (by decide) (by decide)
        rw [e7, Option.bind_some]
        exact ⟨_, _, rfl, ⟨hm.k, hm.cl, hm.no, hm.s1, hm.s2, hm.s3, i7, hm.len, hm.ch⟩, c7, f7⟩
      | false =>
        rw [cond_false]
        obtain ⟨t, d7, e7, g7, c7, f7⟩ := text_ok' c6 (n := 9) (by omega) (by omega)
        rw [e7, Option.bind_some]; dsimp only
        rw [appP_ok (by simp; omega), Option.bind_some]
        refine ⟨_, _, rfl, ⟨hm.k, hm.cl, hm.no, hm.s1, hm.s2, hm.s3, hm.n, by simp; omega, fun x hx => ?_⟩, c7, by rw [f7, hf6]⟩
        rcases List.mem_append.1 hx with hx | hx
        · exact hm.ch x hx
        · rw [List.mem_singleton.1 hx]; omega
theorem cmds_ok {d : D_l1Cur} (h : CurOk d) {n : Int} (hn : n ≤ 1000) : ∃ l d', s_l15Cmds d n = some (l, d') ∧ (l.length ≤ 1000 ∧ ∀ m, m ∈ l → MB m) ∧ CurOk d' ∧ d'.1 = d.1 := by
  unfold s_l15Cmds
  simp only [Prod.eta, Option.bind_some]
  obtain ⟨y3, d3, e3, g3, c3, f3⟩ := below_ok' h n
  rw [e3, Option.bind_some]; dsimp only
  have k3 : y3 ≤ 1000 := by
    by_cases h0 : 0 < n
    · have := g3.2.1 h0; omega
    · have := g3.2.2 (by omega); omega
  have k0 := g3.1
  refine (fun ⟨r, hr, hq⟩ => ⟨r.1, r.2, hr, hq⟩ : (∃ r : List D_Cmd × D_l1Cur, _ = some r ∧ ((r.1.length ≤ 1000 ∧ ∀ m, m ∈ r.1 → MB m) ∧ CurOk r.2 ∧ r.2.1 = d.1)) → _) (whileP_rule (fun s : (List D_Cmd) × Int × Int × Int => 0 ≤ s.2.1 ∧ (s.1.length : Int) + s.2.1 ≤ 1000 ∧ CurOk (d3.1, s.2.2.1, s.2.2.2) ∧ ∀ m, m ∈ s.1 → MB m) (fun s => s.2.1.toNat) (fun r : List D_Cmd × D_l1Cur => (r.1.length ≤ 1000 ∧ ∀ m, m ∈ r.1 → MB m) ∧ CurOk r.2 ∧ r.2.1 = d.1) ?_ ([], y3, d3.2.1, d3.2.2) ⟨by dsimp only; omega, by simp; omega, c3, fun m hm => by cases hm⟩)
  rintro ⟨l, k, p, q⟩ ⟨i1, i2, i3, i4⟩
  dsimp only at i1 i2 i3 i4 ⊢
  by_cases hk : 0 < k
  · left
    rw [decide_eq_true hk, cond_true]
    have key : ∀ (m : D_Cmd) (d' : D_l1Cur), MB m → CurOk d' → d'.1 = d3.1 → ∃ s', Option.bind (appP l [m]) (fun y => (some (.inl (y, IntKind.wrap .i64 (k - 1), d'.2.1, d'.2.2)) : Option ((List D_Cmd × Int × Int × Int) ⊕ (List D_Cmd × D_l1Cur)))) = some (.inl s') ∧ (0 ≤ s'.2.1 ∧ (s'.1.length : Int) + s'.2.1 ≤ 1000 ∧ CurOk (d3.1, s'.2.2.1, s'.2.2.2) ∧ ∀ m, m ∈ s'.1 → MB m) ∧ s'.2.1.toNat < k.toNat := fun m d' hm hc hd => by
      rw [appP_ok (by simp; omega), Option.bind_some, wrap64_in (n := k - 1) (by unfold inR; omega)]
      refine ⟨_, rfl, ⟨by dsimp only; omega, by simp; omega, by dsimp only; rw [← hd]; exact hc, fun z hz => ?_⟩, by dsimp only; omega⟩
      rcases List.mem_append.1 hz with hz | hz
      · exact i4 z hz
      · rw [List.mem_singleton.1 hz]; exact hm
    obtain ⟨m, d6, e6, hm, _, c6, f6⟩ := right_ok i3
    rw [e6, Option.bind_some]; dsimp only
    obtain ⟨b, d7, e7, c7, f7⟩ := once_ok' c6 4
    rw [e7, Option.bind_some]; dsimp only
    cases b with
    | true =>
      rw [cond_true]
      obtain ⟨x, d9, e9, g9, c9, f9⟩ := pick_ok' c7 (l := [(ByteArray.mk #[97]), (ByteArray.mk #[98]), (ByteArray.mk #[97, 98]), (ByteArray.mk #[99]), (ByteArray.mk #[100]), (ByteArray.mk #[101]), (ByteArray.mk #[102])]) (by decide)
      rw [e9, Option.bind_some]; dsimp only
      obtain ⟨b, d12, e12, c12, f12⟩ := once_ok' c9 15
      rw [e12, Option.bind_some]; dsimp only
      cases b with
      | true =>
        rw [cond_true]
        obtain ⟨m2, d14, e14, hm2, c14, f14⟩ := cmd_ok c12
        rw [e14, Option.bind_some]
        exact key m2 d14 hm2 c14 (by rw [f14, f12, f9, f7, f6])
      | false =>
        rw [cond_false]
        exact key (1, m.2.1, m.2.2.1, x, ByteArray.empty, ByteArray.empty, 0, []) d12 ⟨small (by dsimp only; omega), hm.cl, hm.no, sz9 g9 (by decide), Nat.zero_le _, Nat.zero_le _, small (by dsimp only; omega), Nat.zero_le _, fun x hx => by cases hx⟩ c12 (by rw [f12, f9, f7, f6])
    | false =>
      rw [cond_false]
      obtain ⟨b, d12, e12, c12, f12⟩ := once_ok' c7 15
      rw [e12, Option.bind_some]; dsimp only
      cases b with
      | true =>
        rw [cond_true]
        obtain ⟨m2, d14, e14, hm2, c14, f14⟩ := cmd_ok c12
        rw [e14, Option.bind_some]
        exact key m2 d14 hm2 c14 (by rw [f14, f12, f7, f6])
      | false =>
        rw [cond_false]
        exact key m d12 hm c12 (by rw [f12, f7, f6])
  · right
    rw [decide_eq_false hk, cond_false]
    exact ⟨_, rfl, ⟨by dsimp only; omega, i4⟩, i3, f3⟩
noncomputable def playStep (t : List ByteArray × D_Catalog) (m : D_Cmd) : List ByteArray × D_Catalog := (t.1 ++ [(catDoD t.2 m).2], (catDoD t.2 m).1)
noncomputable def catPlayD (l : List D_Cmd) : D_Catalog × List ByteArray := ((l.foldl playStep ([], [])).2, (l.foldl playStep ([], [])).1)
theorem s_CatPlay_eq {l : List D_Cmd} (h : l.length ≤ 1000000) (hm : ∀ m, m ∈ l → Ok.ok m) : s_CatPlay l = some (catPlayD l) := by
  unfold s_CatPlay catPlayD
  rw [Option.bind_some]
  rw [loop_pass (l := l) (fun k (t : List ByteArray × D_Catalog) => (t.1, (k : Int), t.2)) playStep (fun t => some (t.2, t.1)) (fun k t => t.1.length ≤ k ∧ Ok.ok t.2) ([], []) (s0 := ([], 0, [])) rfl ⟨Nat.le_refl _, bnd_nil.ok⟩]
  · intro k t m hx ht
    have hk := (List.getElem?_eq_some_iff.1 hx).1
    obtain ⟨a, c⟩ := t
    dsimp only at ht ⊢
    simp only [lt_dec hk, cond_true, idx_nat, hx, Option.bind_some, Prod.eta]
    rw [s_CatDo_eq ht.2 (hm m (List.mem_of_getElem? hx)), Option.bind_some, appP_ok (by simp; omega), Option.bind_some, wrap_succ (by omega)]
    exact ⟨rfl, by simp [playStep]; omega, (catDo_bnd c m).ok⟩
  · intro t ht
    simp only [ge_dec, cond_false]
theorem play_bnd : ∀ (l : List D_Cmd) (t : List ByteArray × D_Catalog), CBnd t.2 → CBnd (l.foldl playStep t).2
  | [], t, h => h
  | m :: l, t, _ => by rw [List.foldl_cons]; exact play_bnd l _ (catDo_bnd t.2 m)
theorem catPlay_bnd (l : List D_Cmd) : CBnd (catPlayD l).1 := play_bnd l _ bnd_nil
theorem gm_once {d : D_l1Cur} (h : CurOk d) (g : Bool) (n : Int) : ∃ x d', gm g (false, d) (s_l1Once d n) = some (x, d') ∧ CurOk d' ∧ d'.1 = d.1 := by
  cases g with
  | true => exact once_ok' h n
  | false => exact ⟨_, _, rfl, h, rfl⟩
theorem some15_ok {d : D_l1Cur} (h : CurOk d) : ∃ c d', s_l15Some d = some (c, d') ∧ (Ok.ok c ∧ c.length ≤ 7) ∧ CurOk d' ∧ d'.1 = d.1 := by
  unfold s_l15Some
  simp only [Prod.eta]
  obtain ⟨l, d1, e1, ⟨l1, m1⟩, c1, f1⟩ := cmds_ok h (n := 24) (by omega)
  rw [e1, Option.bind_some, s_CatPlay_eq (by omega) (fun m hm => (m1 m hm).ok), Option.bind_some]
  have hb := catPlay_bnd l
  generalize (catPlayD l).1 = c at hb
  have hlen := hb.len
  have hok := hb.ok
  obtain ⟨b, d3, e3, c3, f3⟩ := gm_once c1 (decide (0 < (c.length : Int))) 10
  rw [e3, Option.bind_some]; dsimp only
  have hf3 : d3.1 = d.1 := by rw [f3, f1]
  cases hc : c with
  | nil => exact ⟨_, _, rfl, ⟨⟨by simp, fun x hx => by cases hx⟩, by simp⟩, c3, hf3⟩
  | cons s r =>
    subst hc
    rw [decide_eq_true (show (0 : Int) < (((s :: r).length : Nat) : Int) by simp only [List.length_cons]; omega), Bool.true_and]
    cases b with
    | false => exact ⟨_, _, rfl, ⟨hok, by omega⟩, c3, hf3⟩
    | true =>
      rw [cond_true]
      obtain ⟨y5, d5, e5, g5, c5, f5⟩ := below_ok' c3 3
      rw [e5, Option.bind_some]; dsimp only
      have hs := hb.name s (List.mem_cons_self ..)
      have hsn := hb.snaps s (List.mem_cons_self ..)
      have hso := hok.2 s (List.mem_cons_self ..)
      cases decide (y5 = 0) with
      | true =>
        rw [cond_true, Option.bind_some]
        obtain ⟨x, d7, e7, g7, c7, f7⟩ := pick_ok' c5 (l := [(ByteArray.mk #[97]), (ByteArray.mk #[122, 122]), (ByteArray.mk #[90])]) (by decide)
        rw [e7, Option.bind_some, appP_ok (by simp at hlen ⊢; omega), Option.bind_some]
        refine ⟨_, _, rfl, ⟨⟨by simp at hlen ⊢; omega, fun z hz => ?_⟩, by simp at hlen ⊢; omega⟩, c7, by rw [f7, f5, hf3]⟩
        rcases List.mem_append.1 hz with hz | hz
        · exact hok.2 z hz
        · rw [List.mem_singleton.1 hz]
          have := sz9 g7 (by decide)
          exact ⟨by show x.size ≤ _; omega, by simp, fun p hp => by cases hp⟩
      | false =>
        rw [cond_false]
        have hset : ∀ z : D_CSet, Ok.ok z → Ok.ok ((s :: r).set 0 z) := fun z hz => ⟨by rw [List.length_set]; exact hok.1, fun q hq => by
          rcases mem_set' hq with rfl | hq
          · exact hz
          · exact hok.2 q hq⟩
        cases decide (y5 = 1) with
        | true =>
          rw [cond_true, show idx (s :: r) 0 = some s from rfl, Option.bind_some, appP_ok (by simp; omega), Option.bind_some, Option.bind_some, Option.bind_some]
          refine ⟨_, _, rfl, ⟨hset _ ⟨hso.1, by simp; omega, fun p hp => ?_⟩, by rw [List.length_set]; omega⟩, c5, by rw [f5, hf3]⟩
          rcases List.mem_append.1 hp with hp | hp
          · exact hso.2.2 p hp
          · rw [List.mem_singleton.1 hp]
            exact ⟨by show (1 : Nat) ≤ _; omega, by show (0 : Nat) ≤ _; omega, by simp, fun x hx => by cases hx⟩
        | false =>
          rw [cond_false, show idx (s :: r) 0 = some s from rfl, Option.bind_some, Option.bind_some]
          exact ⟨_, _, rfl, ⟨hset _ ⟨by show (0 : Nat) ≤ _; omega, hso.2⟩, by rw [List.length_set]; omega⟩, c5, by rw [f5, hf3]⟩
theorem chunk_ok {d : D_l1Cur} (h : CurOk d) : ∃ s d', s_l18Chunk d = some (s, d') ∧ s.size ≤ 9 ∧ CurOk d' ∧ d'.1 = d.1 := by
  unfold s_l18Chunk
  simp only [Prod.eta]
  obtain ⟨b, d1, e1, c1, f1⟩ := once_ok' h 25
  rw [e1, Option.bind_some]; dsimp only
  cases b with
  | true =>
    rw [cond_true]
    obtain ⟨t, d3, e3, g3, c3, f3⟩ := text_ok' c1 (n := 9) (by omega) (by omega)
    rw [e3, Option.bind_some]
    exact ⟨_, _, rfl, by omega, c3, by rw [f3, f1]⟩
  | false =>
    rw [cond_false]
    obtain ⟨y4, d4, e4, _, c4, f4⟩ := below_ok' c1 5
    rw [e4, Option.bind_some]; dsimp only
    obtain ⟨b, eb⟩ := u8P_wrap y4
    rw [eb, Option.bind_some, Option.bind_some, s_Short_eq (by rw [strP_size]; simp), Option.bind_some]
    exact ⟨_, _, rfl, by rw [short_size]; omega, c4, by rw [f4, f1]⟩
end Go.Proofs.SL
/- from PRc.lean -/
namespace Go.Proofs.SL
open Go
end Go.Proofs.SL
namespace Go.Proofs.SL
open Go
theorem whileP_to {σ α : Type} {f : σ → Option (σ ⊕ α)} {s : σ} (G : Option α → Prop) (I : σ → Prop) (μ : σ → Nat) (Q : α → Prop) (hg : ∀ a, Q a → G (some a)) (hs : I s)
    (h : ∀ s, I s → (∃ s', f s = some (.inl s') ∧ I s' ∧ μ s' < μ s) ∨ ∃ a, f s = some (.inr a) ∧ Q a) : G (whileP f s) := by
  obtain ⟨a, ha, hq⟩ := whileP_rule I μ Q h s hs
  rw [ha]; exact hg a hq
/-- What draws hand out of uploads. -/
def UF (u : D_Ups) : Prop := Ok.ok u ∧ u.2.length ≤ 30
theorem uf_nil : UF (0, []) := ⟨⟨by show inR 0; unfold inR; omega, by simp, fun x hx => by cases hx⟩, by simp⟩
def upNextD (d : D_Ups) : D_Ups × Bool := if upsOkB d then (if 1000 ≤ d.1 then (d, false) else ((d.1 + 1, d.2), true)) else ((0, []), false)
theorem s_UpNext_eq {d : D_Ups} (ho : Ok.ok d) : s_UpNext d = some (upNextD d) := by
  unfold s_UpNext upNextD
  rw [show s_UpsOk (d.1, d.2) = some (upsOkB d) from s_UpsOk_eq ho, Option.bind_some]
  cases h : upsOkB d with
  | false => rfl
  | true =>
    have hb := (upsOk_facts h).1
    rw [show s_l18Copy (d.1, d.2) = some d from (ups_copy h).1, Option.bind_some]
    simp only [Bool.not_true, cond_false, if_true]
    by_cases hc : 1000 ≤ d.1
    · rw [decide_eq_true hc, if_pos hc]; rfl
    · rw [decide_eq_false hc, if_neg hc, wrap64_in (n := d.1 + 1) (by unfold inR; omega)]; rfl
theorem next_uf {d : D_Ups} (h : UF d) : UF (upNextD d).1 := by
  unfold upNextD
  split
  · rename_i hk
    have hb := (upsOk_facts hk).1
    split
    · exact h
    · exact ⟨⟨by show inR (d.1 + 1); unfold inR; omega, h.1.2⟩, h.2⟩
  · exact uf_nil
theorem ack_uf {d : D_Ups} {c : ByteArray} {n : Int} (h : UF d) (hc : c.size ≤ 9223372036854775807) : UF (upAckD d c n).1 := by
  unfold upAckD
  split
  · split
    · rename_i hk
      have := (upsOk_facts (Bool.and_eq_true_iff.1 hk).2).2.1
      exact ⟨ackSet_ok h.1 (by have := h.2; omega) hc, by dsimp only; omega⟩
    · exact h
  · exact uf_nil
theorem lost_uf {d : D_Ups} {c : ByteArray} {n : Int} (h : UF d) : UF (upLostD d c n).1 := by
  unfold upLostD
  split
  · split
    · exact h
    · rename_i k hk
      split
      · exact h
      · rename_i x hx
        have hxo := h.1.2.2 x (List.mem_of_getElem? hx)
        split
        · dsimp only
          split
          · refine ⟨⟨h.1.1, by have := List.length_eraseIdx_le d.2 k; have := h.2; show (d.2.eraseIdx k).length ≤ _; omega, fun y hy => h.1.2.2 y (List.mem_of_mem_eraseIdx hy)⟩, by have := List.length_eraseIdx_le d.2 k; have := h.2; show (d.2.eraseIdx k).length ≤ _; omega⟩
          · refine ⟨⟨h.1.1, by have := h.2; show (d.2.set k _).length ≤ _; rw [List.length_set]; omega, fun y hy => ?_⟩, by show (d.2.set k _).length ≤ _; rw [List.length_set]; exact h.2⟩
            rcases List.mem_or_eq_of_mem_set hy with hy | rfl
            · exact h.1.2.2 y hy
            · exact ⟨hxo.1, ⟨Nat.le_trans (List.length_filter_le _ _) hxo.2.1.1, fun z hz => hxo.2.1.2 z (List.mem_filter.1 hz).1⟩, hxo.2.2⟩
        · exact h
  · exact uf_nil
theorem some18_ok {c : D_l1Cur} (hc : CurOk c) : ∃ u c', s_l18Some c = some (u, c') ∧ (Ok.ok u ∧ u.2.length ≤ 31) ∧ CurOk c' := by
  unfold s_l18Some
  simp only [Prod.eta]
  obtain ⟨n, c1, e1, g1, hc1, k1⟩ := below_ok' hc 16
  rw [e1, Option.bind_some]
  dsimp only
  refine whileP_to (fun o => ∃ u c', o = some (u, c') ∧ (Ok.ok u ∧ u.2.length ≤ 31) ∧ CurOk c') (fun s : Int × Int × Int × Int × List D_Up => CurOk (c1.1, s.2.1, s.2.2.1) ∧ UF (s.2.2.2.1, s.2.2.2.2) ∧ s.1 ≤ 16) (fun s => s.1.toNat) (fun r : D_Ups × D_l1Cur => (Ok.ok r.1 ∧ r.1.2.length ≤ 31) ∧ CurOk r.2)
    (fun a ha => ⟨a.1, a.2, rfl, ha.1, ha.2⟩) ?_ ?_
  · have := g1.2.1 (by omega)
    exact ⟨hc1, uf_nil, by dsimp only; omega⟩
  rintro ⟨n, p, q, ep, l⟩ ⟨hcur, hu, hn⟩
  dsimp only at hcur hu hn ⊢
  by_cases h0 : 0 < n
  · left
    simp only [decide_eq_true h0, cond_true]
    have hw : IntKind.wrap .i64 (n - 1) = n - 1 := wrap64_in (by unfold inR; omega)
    have fin : ∀ (c' : D_l1Cur) (u : D_Ups), CurOk c' → c'.1 = c1.1 → UF u → ∃ s' : Int × Int × Int × Int × List D_Up, some (Sum.inl (IntKind.wrap .i64 (n - 1), c'.2.1, c'.2.2, u.1, u.2) : (Int × Int × Int × Int × List D_Up) ⊕ (D_Ups × D_l1Cur)) = some (.inl s') ∧ (CurOk (c1.1, s'.2.1, s'.2.2.1) ∧ UF (s'.2.2.2.1, s'.2.2.2.2) ∧ s'.1 ≤ 16) ∧ s'.1.toNat < n.toNat := by
      intro c' u h1 h2 h3
      refine ⟨_, rfl, ⟨by rw [← h2]; exact h1, h3, ?_⟩, ?_⟩ <;> dsimp only <;> omega
    obtain ⟨x, c2, e2, g2, hc2, k2⟩ := below_ok' hcur 6
    rw [e2, Option.bind_some]
    dsimp only
    cases decide (x = 0) with
    | true =>
      rw [cond_true, s_UpNext_eq hu.1, Option.bind_some]
      exact fin c2 _ hc2 k2 (next_uf hu)
    | false =>
      rw [cond_false]
      obtain ⟨t, c3, e3, g3, hc3, k3⟩ := chunk_ok hc2
      obtain ⟨y, c4, e4, g4, hc4, k4⟩ := below_ok' hc3 3
      cases decide (x = 1) with
      | true =>
        rw [cond_true, e3, Option.bind_some]
        dsimp only
        rw [e4, Option.bind_some]
        dsimp only
        rw [s_UpLost_eq hu.1, Option.bind_some]
        exact fin c4 _ hc4 (by rw [k4, k3, k2]) (lost_uf hu)
      | false =>
        rw [cond_false, e3, Option.bind_some]
        dsimp only
        rw [e4, Option.bind_some]
        dsimp only
        rw [s_UpAck_eq hu.1 (show Ok.ok t from by show t.size ≤ _; omega), Option.bind_some]
        exact fin c4 _ hc4 (by rw [k4, k3, k2]) (ack_uf hu (by omega))
  · right
    simp only [decide_eq_false h0, cond_false]
    have hu2 : (Ok.ok ((ep, l) : D_Ups) ∧ l.length ≤ 31) := ⟨hu.1, by have := hu.2; dsimp only at this; omega⟩
    obtain ⟨b, c2, e2, hc2⟩ := once_ok hcur 10
    rw [e2, Option.bind_some]
    dsimp only
    cases b with
    | false => rw [cond_false]; exact ⟨_, rfl, hu2, hc2⟩
    | true =>
      rw [cond_true]
      obtain ⟨x, c3, e3, g3, hc3, k3⟩ := below_ok' hc2 3
      rw [e3, Option.bind_some]
      dsimp only
      cases decide (x = 0) with
      | true =>
        rw [cond_true, Option.bind_some]
        obtain ⟨y, c4, e4, m4, hc4, k4⟩ := pickint_ok' hc3 (l := [(-1), 0, 1000, 1001]) (by simp)
        rw [e4, Option.bind_some]
        refine ⟨_, rfl, ⟨⟨?_, hu2.1.2⟩, hu2.2⟩, hc4⟩
        simp only [List.mem_cons, List.not_mem_nil, or_false] at m4
        show inR y
        unfold inR; omega
      | false =>
        rw [cond_false]
        cases decide (x = 1) with
        | true =>
          rw [cond_true]
          obtain ⟨t, c4, e4, g4, hc4, k4⟩ := chunk_ok hc3
          rw [e4, Option.bind_some]
          dsimp only
          obtain ⟨y, c5, e5, g5, hc5, k5⟩ := below_ok' hc4 4
          rw [e5, Option.bind_some]
          dsimp only [Option.bind_some]
          have hl := hu.2
          dsimp only at hl
          rw [appP_ok (by simp; omega)]
          refine ⟨_, rfl, ⟨⟨hu2.1.1, by show (l ++ _).length ≤ _; simp; omega, fun z hz => ?_⟩, by show (l ++ _).length ≤ _; simp; omega⟩, hc5⟩
          rcases List.mem_append.1 hz with hz | hz
          · exact hu2.1.2.2 z hz
          · obtain rfl := List.mem_singleton.1 hz
            have := g5.2.1 (by omega)
            refine ⟨by show t.size ≤ _; omega, ⟨by simp, fun w hw => ?_⟩, by show inR 0; unfold inR; omega⟩
            obtain rfl := List.mem_singleton.1 hw
            show inR w
            unfold inR; omega
        | false =>
          rw [cond_false]
          cases l with
          | nil => exact ⟨_, rfl, hu2, hc3⟩
          | cons s l =>
            have hd : decide (0 < ((s :: l).length : Int)) = true := by simp
            have hx : idx (s :: l) 0 = some s := by rw [show (0 : Int) = ((0 : Nat) : Int) from rfl, idx_nat]; rfl
            rw [hd]
            simp only [cond_true, hx, Option.bind_some]
            refine ⟨_, rfl, ⟨⟨hu2.1.1, hu2.1.2.1, fun z hz => ?_⟩, hu2.2⟩, hc3⟩
            rcases List.mem_or_eq_of_mem_set hz with hz | rfl
            · exact hu2.1.2.2 z hz
            · have := hu2.1.2.2 s (List.mem_cons_self)
              exact ⟨this.1, ⟨by simp, fun w hw => by cases hw⟩, this.2.2⟩
end Go.Proofs.SL
namespace Go.Proofs.SL
open Go
theorem upsOk_of {d : D_Ups} (h1 : 0 ≤ d.1 ∧ d.1 ≤ 1000) (h2 : d.2.length ≤ 20) (h3 : ∀ x, x ∈ d.2 → x.1.size = 8 ∧ x.2.1.length ≠ 0 ∧ (0 ≤ x.2.2 ∧ x.2.2 ≤ d.1) ∧ nodesOk x.2.1 = true) (h4 : d.2.Pairwise (fun a b => sLt a.1 b.1 = true)) : upsOkB d = true := by
  unfold upsOkB
  simp only [Bool.and_eq_true, decide_eq_true_eq, List.all_eq_true, List.mem_range]
  refine ⟨⟨h1, h2⟩, fun k hk => ?_⟩
  unfold upOk
  rw [List.getElem?_eq_getElem hk]
  obtain ⟨g1, g2, g3, g4⟩ := h3 _ (List.getElem_mem hk)
  simp only [Bool.and_eq_true, Bool.or_eq_true, decide_eq_true_eq, Bool.not_eq_true', decide_eq_false_iff_not]
  refine ⟨⟨⟨⟨by omega, ?_⟩, by omega⟩, g3⟩, g4⟩
  rcases Nat.eq_zero_or_pos k with h0 | h0
  · exact .inl h0
  · right
    rw [List.getElem?_eq_getElem (by omega)]
    exact List.pairwise_iff_getElem.1 h4 (k - 1) k (by omega) hk (by omega)
/-- Of what is listed once. -/
theorem up_uniq {l : List D_Up} (h : l.Pairwise (fun a b => sLt a.1 b.1 = true)) {a b : D_Up} (ha : a ∈ l) (hb : b ∈ l) (e : a.1 = b.1) : a = b := by
  induction l with
  | nil => cases ha
  | cons x l ih =>
    obtain ⟨h1, h2⟩ := List.pairwise_cons.1 h
    rcases List.mem_cons.1 ha with ea | ha
    · rcases List.mem_cons.1 hb with eb | hb
      · rw [ea, eb]
      · have := h1 b hb; rw [← ea, e] at this; exact absurd this (by rw [sLt_irrefl]; simp)
    · rcases List.mem_cons.1 hb with eb | hb
      · have := h1 a ha; rw [← eb, e] at this; exact absurd this (by rw [sLt_irrefl]; simp)
      · exact ih h2 ha hb
end Go.Proofs.SL
namespace Go.Proofs.SL
open Go
theorem hasText_eq {l : List ByteArray} {t : ByteArray} (h : l.length ≤ 9223372036854775807) : w_hasText l t = some (l.any fun x => decide (x = t)) := by
  unfold w_hasText
  rw [whileP_find (l := l) (fun x : ByteArray => decide (x = t)) (fun i => some (decide (0 ≤ i))) h]
  · rw [firstI_any]
  · intro k x hx
    have hlt := (List.getElem?_eq_some_iff.1 hx).1
    simp only [lt_dec hlt, cond_true, idx_nat, hx, Option.bind_some]
    cases decide (x = t) with
    | true => simp only [cond_true, if_true]; rw [decide_eq_true (show (0 : Int) ≤ (k : Int) by omega)]
    | false => rfl
  · simp only [ge_dec]; rfl
theorem sameTexts_refl {l : List ByteArray} (hl : l.length ≤ 1000000) : w_sameTexts l l = some true := by
  unfold w_sameTexts
  rw [decide_eq_true rfl]
  simp only [Bool.not_true, cond_false]
  refine whileP_is (fun s => 0 ≤ s ∧ s ≤ l.length) (fun s => (l.length - s).toNat) (fun s hs => ?_) (by omega)
  by_cases h1 : s < (l.length : Int)
  · left
    obtain ⟨k, rfl⟩ := Int.eq_ofNat_of_zero_le hs.1
    have hk : l[k]? = some (l[k]'(by omega)) := List.getElem?_eq_getElem _
    rw [decide_eq_true h1, cond_true, idx_nat, hk]
    simp only [Option.bind_some, decide_true, Bool.not_true, cond_false]
    refine ⟨((k : Int) + 1), ?_, by omega, by omega⟩
    rw [wrap64_in (by unfold inR; omega)]
  · right
    rw [decide_eq_false h1, cond_false]; rfl
end Go.Proofs.SL
namespace Go.Proofs.SL
open Go
/-- The copy that one chunk asks for: from whom, to whom. -/
def cpO (ns : List Int) (up : List Bool) : Option (Int × Int) :=
  let h := ns.filter fun n => (up[n.toNat]?).getD false
  if h.length = 1 then (([0, 1, 2] : List Int).find? fun k => (up[k.toNat]?).getD false && !(h.any fun z => decide (z = k))).map fun k => (h.headD 0, k) else none
/-- The nodes of a chunk behind its copy. -/
def nfO (ns : List Int) (up : List Bool) : List Int := match cpO ns up with
  | none => ns
  | some p => withL ns p.2 true
def cpL (u : D_Ups) (up : List Bool) (x : ByteArray) : List D_Copy := match cpO (upNodes u x) up with
  | none => []
  | some p => [(x, p.1, p.2)]
theorem repsI_zero {x : ByteArray} {up : List Bool} {h : List Int} {n : Int} (hn : n ≤ 0) : ∀ (ks : List Int) (t : List D_Copy), repsI x up h ks t n = t
  | [], t => rfl
  | k :: ks, t => by unfold repsI; rw [if_neg (by omega)]
theorem repsI_one {x : ByteArray} {up : List Bool} {h : List Int} : ∀ (ks : List Int) (t : List D_Copy), repsI x up h ks t 1 = t ++ (match ks.find? (fun k => (up[k.toNat]?).getD false && !(h.any fun z => decide (z = k))) with | none => [] | some k => [(x, h.headD 0, k)])
  | [], t => by unfold repsI; simp
  | k :: ks, t => by
    unfold repsI
    rw [if_pos (by omega)]
    cases hc : ((up[k.toNat]?).getD false && !(h.any fun z => decide (z = k))) with
    | true =>
      rw [if_pos rfl, repsI_zero (by omega), List.find?_cons_of_pos (p := fun k => (up[k.toNat]?).getD false && !(h.any fun z => decide (z = k))) hc]
    | false =>
      rw [if_neg (by simp), repsI_one ks t, List.find?_cons_of_neg (p := fun k => (up[k.toNat]?).getD false && !(h.any fun z => decide (z = k))) (by simp [hc])]
theorem repsO_cp {u : D_Ups} {up : List Bool} {t : List D_Copy} {x : ByteArray} : repsO u up t x = t ++ cpL u up x := by
  unfold repsO cpL cpO
  show _ = t ++ (match (if (haveL u x up).length = 1 then (([0, 1, 2] : List Int).find? fun k => (up[k.toNat]?).getD false && !((haveL u x up).any fun z => decide (z = k))).map fun k => ((haveL u x up).headD 0, k) else none) with | none => [] | some p => [(x, p.1, p.2)])
  by_cases h0 : (haveL u x up).length = 0
  · rw [if_pos h0, if_neg (by omega)]; simp
  · rw [if_neg h0]
    by_cases h1 : (haveL u x up).length = 1
    · rw [if_pos h1, h1, show (2 - ((1 : Nat) : Int)) = 1 from rfl, repsI_one]
      cases ([0, 1, 2] : List Int).find? (fun k => (up[k.toNat]?).getD false && !((haveL u x up).any fun z => decide (z = k))) <;> rfl
    · rw [if_neg h1, repsI_zero (by omega)]; simp
theorem foldl_cp (u : D_Ups) (up : List Bool) : ∀ (xs : List ByteArray) (t : List D_Copy), xs.foldl (repsO u up) t = t ++ xs.flatMap (cpL u up)
  | [], t => by simp
  | x :: xs, t => by rw [List.foldl_cons, repsO_cp, foldl_cp u up xs]; simp
theorem repsL_cp {c : D_Catalog} {u : D_Ups} {up : List Bool} (h1 : catOkB c = true) (h2 : upsOkB u = true) (h3 : up.length = 3) : repsL c u up = (allL c).flatMap (cpL u up) := by
  unfold repsL
  rw [h1, h2, decide_eq_true h3]
  simp only [Bool.and_self, if_true]
  rw [foldl_cp]; rfl
theorem repsL_bad {c : D_Catalog} {u : D_Ups} {up : List Bool} (h : (catOkB c && upsOkB u && decide (up.length = 3)) = false) : repsL c u up = [] ∧ lostL c u up = [] := by
  unfold repsL lostL
  rw [h]; exact ⟨rfl, rfl⟩
/-- The sets of nodes. -/
def sub3 (a b c : Bool) : List Int := (if a then [0] else []) ++ ((if b then [1] else []) ++ (if c then [2] else []))
theorem nodes_sub {ns : List Int} (h1 : ∀ n, n ∈ ns → 0 ≤ n ∧ n < 3) (h2 : ns.Pairwise (· < ·)) : ∃ a b c, ns = sub3 a b c := by
  refine ⟨ns.any fun x => decide (x = 0), ns.any fun x => decide (x = 1), ns.any fun x => decide (x = 2), ?_⟩
  refine sorted_ext h2 ?_ fun x => ?_
  · cases (ns.any fun x => decide (x = 0)) <;> cases (ns.any fun x => decide (x = 1)) <;> cases (ns.any fun x => decide (x = 2)) <;> simp [sub3]
  · have e0 : (0 : Int) ∈ ns ↔ (ns.any fun x => decide (x = 0)) = true := any_mem.symm
    have e1 : (1 : Int) ∈ ns ↔ (ns.any fun x => decide (x = 1)) = true := any_mem.symm
    have e2 : (2 : Int) ∈ ns ↔ (ns.any fun x => decide (x = 2)) = true := any_mem.symm
    have hx : x ∈ ns ↔ ((x = 0 ∧ 0 ∈ ns) ∨ (x = 1 ∧ 1 ∈ ns) ∨ (x = 2 ∧ 2 ∈ ns)) := by
      constructor
      · intro h
        have := h1 x h
        have : x = 0 ∨ x = 1 ∨ x = 2 := by omega
        rcases this with rfl | rfl | rfl
        · exact .inl ⟨rfl, h⟩
        · exact .inr (.inl ⟨rfl, h⟩)
        · exact .inr (.inr ⟨rfl, h⟩)
      · rintro (⟨rfl, h⟩ | ⟨rfl, h⟩ | ⟨rfl, h⟩) <;> exact h
    rw [hx, e0, e1, e2]
    cases (ns.any fun x => decide (x = 0)) <;> cases (ns.any fun x => decide (x = 1)) <;> cases (ns.any fun x => decide (x = 2)) <;> simp [sub3]
def upF (up : List Bool) (ns : List Int) : List Int := ns.filter fun n => (up[n.toNat]?).getD false
def cnt3 (p q r : Bool) : Nat := (if p then 1 else 0) + ((if q then 1 else 0) + (if r then 1 else 0))
theorem all64 : ∀ a b c p q r : Bool,
    (decide ((upF [p, q, r] (nfO (sub3 a b c) [p, q, r])).length = 0) = decide ((upF [p, q, r] (sub3 a b c)).length = 0))
    ∧ cpO (nfO (sub3 a b c) [p, q, r]) [p, q, r] = none
    ∧ (2 ≤ cnt3 p q r → (upF [p, q, r] (sub3 a b c)).length ≠ 0 → 2 ≤ (nfO (sub3 a b c) [p, q, r]).length)
    ∧ (nfO (sub3 a b c) [p, q, r]).length ≤ 3 ∧ ((sub3 a b c).length ≠ 0 → (nfO (sub3 a b c) [p, q, r]).length ≠ 0)
    ∧ (∀ x, x ∈ nfO (sub3 a b c) [p, q, r] → 0 ≤ x ∧ x < 3) ∧ (nfO (sub3 a b c) [p, q, r]).Pairwise (· < ·) := by
  intro a b c p q r
  cases a <;> cases b <;> cases c <;> cases p <;> cases q <;> cases r <;> decide
theorem len3 {up : List Bool} (h : up.length = 3) : ∃ p q r, up = [p, q, r] := by
  match up, h with
  | [p, q, r], _ => exact ⟨p, q, r, rfl⟩
theorem cpO_facts {ns : List Int} {up : List Bool} {p : Int × Int} (h : cpO ns up = some p) : p.1 ∈ ns ∧ 0 ≤ p.2 ∧ p.2 < 3 := by
  unfold cpO at h
  dsimp only at h
  split at h
  · rename_i h1
    obtain ⟨k, hk, rfl⟩ := Option.map_eq_some_iff.1 h
    have hm := List.mem_of_find?_eq_some hk
    refine ⟨?_, by simp at hm; dsimp only; omega⟩
    generalize hh : (ns.filter fun n => (up[n.toNat]?).getD false) = l at h1
    match l, h1 with
    | [x], _ =>
      have : x ∈ ns.filter fun n => (up[n.toNat]?).getD false := by rw [hh]; exact List.mem_singleton.2 rfl
      exact (List.mem_filter.1 this).1
  · cases h
/-- One upload behind the repairs. -/
def fixU (up : List Bool) (s : List ByteArray) (y : D_Up) : D_Up := if s.any (fun x => decide (x = y.1)) then (y.1, nfO y.2.1 up, y.2.2) else y
theorem fixU_name (up : List Bool) (s : List ByteArray) (y : D_Up) : (fixU up s y).1 = y.1 := by unfold fixU; split <;> rfl
theorem find_at {l : List D_Up} (h : l.Pairwise (fun a b => sLt a.1 b.1 = true)) {x : D_Up} {c : ByteArray} (hx : x ∈ l) (hc : x.1 = c) : ∃ k : Nat, l.findIdx? (fun y => decide (y.1 = c)) = some k ∧ l[k]? = some x := by
  cases hf : l.findIdx? (fun y => decide (y.1 = c)) with
  | none => have := List.findIdx?_eq_none_iff.1 hf x hx; simp [hc] at this
  | some k =>
    obtain ⟨h1, h2, _⟩ := List.findIdx?_eq_some_iff_getElem.1 hf
    refine ⟨k, rfl, ?_⟩
    rw [List.getElem?_eq_getElem h1]
    have h2 : l[k].1 = c := of_decide_eq_true h2
    rw [up_uniq h (List.getElem_mem h1) hx (by rw [h2, hc])]
theorem upNodes_find {u : D_Ups} {x : ByteArray} (h : upNodes u x ≠ []) : ∃ y, y ∈ u.2 ∧ y.1 = x ∧ y.2.1 = upNodes u x := by
  unfold upNodes upFind at *
  cases hf : u.2.find? (fun s : D_Up => decide (s.1 = x)) with
  | none => rw [hf] at h; exact (h rfl).elim
  | some y =>
    have := List.find?_some hf
    exact ⟨y, List.mem_of_find?_eq_some hf, of_decide_eq_true this, rfl⟩
theorem upNodes_mem {u : D_Ups} (h : upsOkB u = true) {y : D_Up} (hy : y ∈ u.2) : upNodes u y.1 = y.2.1 := by
  obtain ⟨b1, b2, b3, b4⟩ := upsOk_facts h
  obtain ⟨k, h1, h2⟩ := find_at b4 hy rfl
  unfold upNodes upFind
  cases hf : u.2.find? (fun s : D_Up => decide (s.1 = y.1)) with
  | none => have := List.find?_eq_none.1 hf y hy; simp at this
  | some z =>
    have := List.find?_some hf
    dsimp only
    rw [up_uniq b4 (List.mem_of_find?_eq_some hf) hy (of_decide_eq_true this)]
theorem fixU_skip {u : D_Ups} {up : List Bool} (h : upsOkB u = true) {x : ByteArray} {s : List ByteArray} (hc : cpO (upNodes u x) up = none) : u.2.map (fixU up (x :: s)) = u.2.map (fixU up s) := by
  refine List.map_congr_left fun y hy => ?_
  unfold fixU
  rw [List.any_cons]
  by_cases hx : x = y.1
  · subst hx
    rw [upNodes_mem h hy] at hc
    have : nfO y.2.1 up = y.2.1 := by unfold nfO; rw [hc]
    rw [this]
    cases (s.any fun x => decide (x = y.1)) <;> simp
  · rw [decide_eq_false hx, Bool.false_or]
theorem rep_go {u : D_Ups} {up : List Bool} (h : upsOkB u = true) (g : List D_Up → Option (D_Ups × Bool)) : ∀ (xs s : List ByteArray), xs.Pairwise (fun a b => sLt a b = true) → (∀ x, x ∈ xs → ¬ x ∈ s) →
    ∃ s', (∀ z, z ∈ s' ↔ z ∈ xs ∨ z ∈ s) ∧ goE (repStep u) g (xs.flatMap (cpL u up)) (u.2.map (fixU up s)) = g (u.2.map (fixU up s'))
  | [], s, _, _ => ⟨s, fun z => by simp, rfl⟩
  | x :: xs, s, hp, hn => by
    obtain ⟨b1, b2, b3, b4⟩ := upsOk_facts h
    obtain ⟨hp1, hp2⟩ := List.pairwise_cons.1 hp
    have hns : ∀ z, z ∈ xs → ¬ z ∈ x :: s := fun z hz hm => by
      rcases List.mem_cons.1 hm with rfl | hm
      · have := hp1 z hz; rw [sLt_irrefl] at this; cases this
      · exact hn z (List.mem_cons_of_mem _ hz) hm
    obtain ⟨s', e1, e2⟩ := rep_go h g xs (x :: s) hp2 hns
    refine ⟨s', fun z => ?_, ?_⟩
    · rw [e1, List.mem_cons, List.mem_cons]
      constructor
      · rintro (hh | hh | hh)
        · exact .inl (.inr hh)
        · exact .inl (.inl hh)
        · exact .inr hh
      · rintro ((hh | hh) | hh)
        · exact .inr (.inl hh)
        · exact .inl hh
        · exact .inr (.inr hh)
    rw [← e2, List.flatMap_cons]
    unfold cpL
    cases hc : cpO (upNodes u x) up with
    | none => rw [fixU_skip h hc]; rfl
    | some p =>
      obtain ⟨m1, m2, m3⟩ := cpO_facts hc
      obtain ⟨y, hy, hyx, hyn⟩ := upNodes_find (u := u) (x := x) (fun e => by rw [e] at m1; cases m1)
      obtain ⟨k, hk1, hk2⟩ := find_at b4 hy hyx
      have hxs : ¬ x ∈ s := hn x (List.mem_cons_self ..)
      have hfy : fixU up s y = y := by
        unfold fixU
        rw [if_neg]
        simp only [List.any_eq_true, decide_eq_true_eq, not_exists, not_and]
        intro z hz e; rw [e, hyx] at hz; exact hxs hz
      have hg1 : (u.2.map (fixU up s)).findIdx? (fun z => decide (z.1 = x)) = some k := by
        rw [List.findIdx?_map, ← hk1]
        congr 1
        funext z
        show decide ((fixU up s z).1 = x) = _
        rw [fixU_name]
      have hg2 : (u.2.map (fixU up s))[k]? = some y := by rw [List.getElem?_map, hk2, Option.map_some, hfy]
      have hst : repStep u (u.2.map (fixU up s)) (x, p.1, p.2) = .inl ((u.2.map (fixU up s)).set k (y.1, withL y.2.1 p.2 true, y.2.2)) := by
        unfold repStep
        rw [hg1]
        dsimp only
        rw [hg2]
        dsimp only
        rw [if_pos]
        simp only [Bool.and_eq_true, decide_eq_true_eq]
        exact ⟨any_mem.2 (by rw [hyn]; exact m1), m2, m3⟩
      show goE (repStep u) g ((x, p.1, p.2) :: _) _ = _
      conv => lhs; unfold goE
      rw [hst]
      dsimp only
      congr 1
      apply List.ext_getElem?
      intro i
      rw [List.getElem?_set, List.getElem?_map]
      obtain ⟨hlt, hke⟩ := List.getElem?_eq_some_iff.1 hk2
      by_cases hi : k = i
      · subst hi
        rw [if_pos rfl, if_pos (by rw [List.length_map]; exact hlt), List.getElem?_map, hk2, Option.map_some]
        have : fixU up (x :: s) y = (y.1, withL y.2.1 p.2 true, y.2.2) := by
          unfold fixU
          rw [List.any_cons, decide_eq_true hyx.symm, Bool.true_or, if_pos rfl]
          unfold nfO
          rw [hyn, hc]
        rw [this]
      · rw [if_neg hi, List.getElem?_map]
        cases hz : u.2[i]? with
        | none => rfl
        | some z =>
          rw [Option.map_some, Option.map_some]
          congr 1
          unfold fixU
          rw [List.any_cons]
          by_cases hxz : x = z.1
          · have := up_uniq b4 hy (List.mem_of_getElem? hz) (by rw [hyx, hxz])
            obtain ⟨hlt2, hze⟩ := List.getElem?_eq_some_iff.1 hz
            rcases Nat.lt_or_gt_of_ne hi with hl | hl
            · have hh := List.pairwise_iff_getElem.1 b4 k i hlt hlt2 hl
              rw [hke, hze, ← this, sLt_irrefl] at hh; cases hh
            · have hh := List.pairwise_iff_getElem.1 b4 i k hlt2 hlt hl
              rw [hke, hze, ← this, sLt_irrefl] at hh; cases hh
          · rw [decide_eq_false hxz, Bool.false_or]
theorem allL_sorted (c : D_Catalog) : (allL c).Pairwise (fun a b => sLt a b = true) := by
  unfold allL
  split
  · exact (foldPut_facts (chunksOf c) [] List.Pairwise.nil).1
  · exact List.Pairwise.nil
theorem fixU_congr {up : List Bool} {s s' : List ByteArray} (h : ∀ z, z ∈ s ↔ z ∈ s') : fixU up s = fixU up s' := by
  funext y
  unfold fixU
  have : (s.any fun x => decide (x = y.1)) = (s'.any fun x => decide (x = y.1)) := by rw [Bool.eq_iff_iff, any_memS, any_memS, h]
  rw [this]
theorem fixU_nil (up : List Bool) (l : List D_Up) : l.map (fixU up []) = l := by
  have : fixU up [] = id := by funext y; rfl
  rw [this, List.map_id]
def fixed (c : D_Catalog) (u : D_Ups) (up : List Bool) : D_Ups := (u.1, u.2.map (fixU up (allL c)))
theorem repair_eq {c : D_Catalog} {u : D_Ups} {up : List Bool} (h1 : catOkB c = true) (h2 : upsOkB u = true) (h3 : up.length = 3) : repairAllD u (repsL c u up) = (fixed c u up, true) := by
  obtain ⟨s', e1, e2⟩ := rep_go h2 (up := up) (fun t => some ((u.1, t), true)) (allL c) [] (allL_sorted c) (fun x _ hx => by cases hx)
  unfold repairAllD
  rw [if_pos h2, repsL_cp h1 h2 h3]
  rw [fixU_nil] at e2
  rw [e2]
  show ((u.1, u.2.map (fixU up s')), true) = _
  rw [fixU_congr (s' := allL c) (fun z => by rw [e1]; simp)]
  rfl
theorem count3 (p q r : Bool) : [p, q, r].count true = cnt3 p q r := by cases p <;> cases q <;> cases r <;> rfl
theorem nf_facts {ns : List Int} {up : List Bool} (h1 : ∀ n, n ∈ ns → 0 ≤ n ∧ n < 3) (h2 : ns.Pairwise (· < ·)) (h3 : up.length = 3) :
    (decide ((upF up (nfO ns up)).length = 0) = decide ((upF up ns).length = 0)) ∧ cpO (nfO ns up) up = none ∧ (2 ≤ up.count true → (upF up ns).length ≠ 0 → 2 ≤ (nfO ns up).length)
    ∧ (nfO ns up).length ≤ 3 ∧ (ns.length ≠ 0 → (nfO ns up).length ≠ 0) ∧ (∀ x, x ∈ nfO ns up → 0 ≤ x ∧ x < 3) ∧ (nfO ns up).Pairwise (· < ·) := by
  obtain ⟨a, b, c, rfl⟩ := nodes_sub h1 h2
  obtain ⟨p, q, r, rfl⟩ := len3 h3
  obtain ⟨f1, f2, f3, f4⟩ := all64 a b c p q r
  refine ⟨f1, f2, fun hc => f3 (by rw [count3] at hc; exact hc), f4⟩
theorem nodesOk_of {l : List Int} (h1 : ∀ n, n ∈ l → 0 ≤ n ∧ n < 3) (h2 : l.Pairwise (· < ·)) : nodesOk l = true := by
  unfold nodesOk
  rw [List.all_eq_true]
  intro k hk
  have hk := List.mem_range.1 hk
  unfold nodeOk
  rw [List.getElem?_eq_getElem hk]
  have := h1 _ (List.getElem_mem hk)
  simp only [Bool.and_eq_true, Bool.or_eq_true, decide_eq_true_eq]
  refine ⟨this, ?_⟩
  rcases Nat.eq_zero_or_pos k with h0 | h0
  · exact .inl h0
  · right
    rw [List.getElem?_eq_getElem (by omega)]
    simpa using List.pairwise_iff_getElem.1 h2 (k - 1) k (by omega) hk (by omega)
theorem fixed_ok {c : D_Catalog} {u : D_Ups} {up : List Bool} (h : upsOkB u = true) (h3 : up.length = 3) : upsOkB (fixed c u up) = true := by
  obtain ⟨b1, b2, b3, b4⟩ := upsOk_facts h
  refine upsOk_of b1 (by show (u.2.map _).length ≤ _; rw [List.length_map]; exact b2) (fun x hx => ?_) ?_
  · obtain ⟨y, hy, rfl⟩ := List.mem_map.1 hx
    obtain ⟨g1, g2, g3, g4⟩ := b3 y hy
    unfold fixU
    split
    · obtain ⟨n1, n2⟩ := nodesOk_facts g4
      obtain ⟨_, _, _, _, f5, f6, f7⟩ := nf_facts n1 n2 h3
      exact ⟨g1, f5 g2, g3, nodesOk_of f6 f7⟩
    · exact ⟨g1, g2, g3, g4⟩
  · refine List.pairwise_map.2 ?_
    refine b4.imp fun {a b} hab => ?_
    rw [fixU_name, fixU_name]; exact hab
theorem fixed_okk {c : D_Catalog} {u : D_Ups} {up : List Bool} (ho : Ok.ok u) (h : upsOkB u = true) (h3 : up.length = 3) : Ok.ok (fixed c u up) := by
  obtain ⟨b1, b2, b3, b4⟩ := upsOk_facts h
  refine ⟨ho.1, by show (u.2.map _).length ≤ _; rw [List.length_map]; exact ho.2.1, fun x hx => ?_⟩
  obtain ⟨y, hy, rfl⟩ := List.mem_map.1 hx
  obtain ⟨g1, g2, g3, g4⟩ := b3 y hy
  have hyo := ho.2.2 y hy
  unfold fixU
  split
  · obtain ⟨n1, n2⟩ := nodesOk_facts g4
    obtain ⟨_, _, _, f4, f5, f6, f7⟩ := nf_facts n1 n2 h3
    refine ⟨hyo.1, ⟨by show (nfO y.2.1 up).length ≤ _; omega, fun x hx => ?_⟩, hyo.2.2⟩
    have := f6 x hx
    show inR x
    unfold inR; omega
  · exact hyo
theorem fixed_nodes {c : D_Catalog} {u : D_Ups} {up : List Bool} {x : ByteArray} (hx : x ∈ allL c) : upNodes (fixed c u up) x = nfO (upNodes u x) up := by
  unfold upNodes upFind fixed
  dsimp only
  rw [List.find?_map]
  have : ((fun s : D_Up => decide (s.1 = x)) ∘ fixU up (allL c)) = fun s : D_Up => decide (s.1 = x) := by funext z; show decide ((fixU up (allL c) z).1 = x) = _; rw [fixU_name]
  rw [this]
  cases hf : u.2.find? (fun s : D_Up => decide (s.1 = x)) with
  | none => rfl
  | some y =>
    rw [Option.map_some]
    dsimp only
    have hy : y.1 = x := of_decide_eq_true (List.find?_some (p := fun s : D_Up => decide (s.1 = x)) hf)
    unfold fixU
    rw [if_pos (any_memS.2 (by rw [hy]; exact hx))]
theorem fixed_lost {c : D_Catalog} {u : D_Ups} {up : List Bool} (h1 : catOkB c = true) (h2 : upsOkB u = true) (h3 : up.length = 3) : lostL c (fixed c u up) up = lostL c u up := by
  unfold lostL
  rw [h1, h2, fixed_ok h2 h3]
  split
  · refine List.filter_congr fun x hx => ?_
    obtain ⟨n1, n2⟩ := upNodes_facts (x := x) h2
    have := (nf_facts n1 n2 h3).1
    show decide (((upNodes (fixed c u up) x).filter _).length = 0) = _
    rw [fixed_nodes hx]
    exact this
  · rfl
theorem fixed_reps {c : D_Catalog} {u : D_Ups} {up : List Bool} (h1 : catOkB c = true) (h2 : upsOkB u = true) (h3 : up.length = 3) : repsL c (fixed c u up) up = [] := by
  rw [repsL_cp h1 (fixed_ok h2 h3) h3]
  refine List.flatMap_eq_nil_iff.2 fun x hx => ?_
  obtain ⟨n1, n2⟩ := upNodes_facts (x := x) h2
  have := (nf_facts n1 n2 h3).2.1
  unfold cpL
  rw [fixed_nodes hx, this]
theorem l20Up_ok {d : D_l1Cur} (h : CurOk d) : ∃ l d', s_l20Up d = some (l, d') ∧ l.length ≤ 4 ∧ CurOk d' := by
  unfold s_l20Up
  obtain ⟨b, c1, e1, h1, k1⟩ := once_ok' (d := (d.1, d.2.1, d.2.2)) h 20
  rw [e1, Option.bind_some]
  cases b with
  | true =>
    rw [cond_true]
    obtain ⟨n, c2, e2, g2, h2, k2⟩ := below_ok' (d := (c1.1, c1.2.1, c1.2.2)) h1 5
    dsimp only
    rw [e2, Option.bind_some]
    have := g2.2.1 (by omega)
    unfold mkP
    dsimp only
    rw [if_pos (by omega), Option.bind_some]
    exact ⟨_, _, rfl, by simp; omega, h2⟩
  | false =>
    rw [cond_false]
    obtain ⟨x2, c2, e2, h2, k2⟩ := once_ok' (d := (c1.1, c1.2.1, c1.2.2)) h1 4
    dsimp only
    rw [e2, Option.bind_some]
    obtain ⟨x3, c3, e3, h3, k3⟩ := once_ok' (d := (c2.1, c2.2.1, c2.2.2)) h2 4
    dsimp only
    rw [e3, Option.bind_some]
    obtain ⟨x4, c4, e4, h4, k4⟩ := once_ok' (d := (c3.1, c3.2.1, c3.2.2)) h3 4
    dsimp only
    rw [e4, Option.bind_some, Option.bind_some]
    exact ⟨_, _, rfl, by simp, h4⟩
theorem drawRepairs_ok {l : List UInt8} (h : l.length ≤ 1048576) : ∃ c u up, s_DrawRepairs l = some (c, u, up) ∧ Ok.ok c ∧ Ok.ok u ∧ up.length ≤ 4 := by
  unfold s_DrawRepairs
  obtain ⟨c0, e0, h0⟩ := new_ok h
  rw [e0, Option.bind_some]
  obtain ⟨c, c1, e1, g1, h1, k1⟩ := some15_ok (d := (c0.1, c0.2.1, c0.2.2)) h0
  rw [e1, Option.bind_some]
  obtain ⟨u, c2, e2, g2, h2⟩ := some18_ok (c := (c1.1, c1.2.1, c1.2.2)) h1
  dsimp only
  rw [e2, Option.bind_some]
  obtain ⟨up, c3, e3, g3, h3⟩ := l20Up_ok (d := (c2.1, c2.2.1, c2.2.2)) h2
  dsimp only
  rw [e3, Option.bind_some]
  exact ⟨_, _, _, rfl, g1.1, g2.1, g3⟩
theorem repsL_len {c : D_Catalog} {u : D_Ups} {up : List Bool} (ho : Ok.ok c) : (repsL c u up).length ≤ 300 := by
  have hl := allL_len ho
  unfold repsL
  split
  · have : ∀ (xs : List ByteArray) (t : List D_Copy), (xs.foldl (repsO u up) t).length ≤ t.length + 3 * xs.length := by
      intro xs
      induction xs with
      | nil => intro t; simp
      | cons x xs ih => intro t; rw [List.foldl_cons]; have := ih (repsO u up t x); have := repsO_len u up t x; simp only [List.length_cons]; omega
    have := this (allL c) []
    simp only [List.length_nil] at this
    omega
  · simp
theorem drawRepairAll_ok {l : List UInt8} (h : l.length ≤ 1048576) : ∃ u t, s_DrawRepairAll l = some (u, t) ∧ Ok.ok u ∧ t.length ≤ 1000 := by
  unfold s_DrawRepairAll
  obtain ⟨c0, e0, h0⟩ := new_ok h
  rw [e0, Option.bind_some]
  obtain ⟨c, c1, e1, g1, h1, k1⟩ := some15_ok (d := (c0.1, c0.2.1, c0.2.2)) h0
  rw [e1, Option.bind_some]
  obtain ⟨u, c2, e2, g2, h2⟩ := some18_ok (c := (c1.1, c1.2.1, c1.2.2)) h1
  dsimp only
  rw [e2, Option.bind_some, Option.bind_some]
  dsimp only
  rw [show s_Repairs c (u.1, u.2) [true, true, true] = some (repsL c u [true, true, true]) from s_Repairs_eq g1.1 g2.1 (by simp), Option.bind_some]
  have hr := repsL_len (u := u) (up := [true, true, true]) g1.1
  obtain ⟨b, c3, e3, h3⟩ := once_ok (d := (c2.1, c2.2.1, c2.2.2)) h2 4
  rw [e3, Option.bind_some]
  dsimp only
  cases b with
  | false => rw [cond_false]; exact ⟨_, _, rfl, g2.1, by omega⟩
  | true =>
    rw [cond_true]
    obtain ⟨x, c4, e4, g4, h4, k4⟩ := chunk_ok (d := (c3.1, c3.2.1, c3.2.2)) h3
    rw [e4, Option.bind_some]
    dsimp only
    obtain ⟨n, c5, e5, g5, h5, k5⟩ := below_ok' (d := (c4.1, c4.2.1, c4.2.2)) h4 3
    rw [e5, Option.bind_some]
    dsimp only
    obtain ⟨m, c6, e6, g6, h6, k6⟩ := below_ok' (d := (c5.1, c5.2.1, c5.2.2)) h5 4
    rw [e6, Option.bind_some]
    dsimp only
    rw [appP_ok (by simp; omega), Option.bind_some]
    exact ⟨_, _, rfl, g2.1, by simp; omega⟩
end Go.Proofs.SL
namespace Go.Proofs.SL
open Go
theorem count_take {up : List Bool} {j : Nat} {b : Bool} (h : up[j]? = some b) : ((up.take (j + 1)).count true : Int) = ((up.take j).count true : Int) + (if b then 1 else 0) := by
  rw [List.take_add_one, h]
  cases b <;> simp
theorem fnRepair_true (l : List UInt8) : w_FnRepair l = some true := by
  unfold w_FnRepair w_big
  rw [Option.bind_some]
  by_cases hl : 1048576 < (l.length : Int)
  · rw [decide_eq_true hl, cond_true]
  rw [decide_eq_false hl, cond_false]
  obtain ⟨c, u, up, e, hc, hu, hup⟩ := drawRepairs_ok (l := l) (by omega)
  rw [e, Option.bind_some]
  dsimp only
  rw [show i_Repairs c (u.1, u.2) up = some (repsL c u up) from i_Repairs_eq hc hu (by omega), Option.bind_some, show s_Repairs c (u.1, u.2) up = some (repsL c u up) from s_Repairs_eq hc hu (by omega), Option.bind_some, decide_eq_true rfl]
  simp only [Bool.not_true, cond_false]
  have hrl := repsL_len (u := u) (up := up) hc
  refine whileP_is (fun s => 0 ≤ s ∧ s ≤ (repsL c u up).length) (fun s => ((repsL c u up).length - s).toNat) (fun s hs => ?_) (by omega)
  by_cases hlt : s < ((repsL c u up).length : Int)
  · left
    obtain ⟨k, rfl⟩ := Int.eq_ofNat_of_zero_le hs.1
    have hg : (repsL c u up)[k]? = some ((repsL c u up)[k]'(by omega)) := List.getElem?_eq_getElem _
    rw [decide_eq_true hlt, cond_true, idx_nat, hg]
    simp only [Option.bind_some, decide_true, Bool.and_self, Bool.not_true, cond_false]
    refine ⟨(k : Int) + 1, ?_, by omega, by omega⟩
    rw [wrap64_in (n := (k : Int) + 1) (by unfold inR; omega)]
  right
  rw [decide_eq_false hlt, cond_false, s_CatOk_eq hc, Option.bind_some, show s_UpsOk (u.1, u.2) = some (upsOkB u) from s_UpsOk_eq hu]
  by_cases hall : (catOkB c && upsOkB u && decide (up.length = 3)) = false
  · obtain ⟨r1, r2⟩ := repsL_bad hall
    rw [r1, show i_Lost c (u.1, u.2) up = some (lostL c u up) from i_Lost_eq hc hu (by omega), r2]
    have h3 : decide ((up.length : Int) = 3) = decide (up.length = 3) := by rw [Bool.eq_iff_iff]; simp; omega
    rw [h3]
    revert hall
    cases catOkB c <;> cases upsOkB u <;> cases decide (up.length = 3) <;> intro hall <;> first | rfl | cases hall
  have hall : (catOkB c && upsOkB u && decide (up.length = 3)) = true := (Bool.not_eq_false _).mp hall
  simp only [Bool.and_eq_true, decide_eq_true_eq] at hall
  obtain ⟨⟨h1, h2⟩, h3⟩ := hall
  rw [h1, h2, show decide ((up.length : Int) = 3) = true from decide_eq_true (by omega)]
  simp only [Bool.not_true, Bool.not_false, gb_true, Option.bind_some, Bool.or_self, cond_false]
  rw [show i_RepairAll (u.1, u.2) (repsL c u up) = some (repairAllD u (repsL c u up)) from i_RepairAll_eq hu (by omega), Option.bind_some, repair_eq h1 h2 h3]
  dsimp only
  have fo := fixed_ok (c := c) h2 h3
  have fk := fixed_okk (c := c) hu h2 h3
  generalize hX : fixed c u up = X at fo fk
  have hlost : lostL c X up = lostL c u up := by rw [← hX]; exact fixed_lost h1 h2 h3
  have hreps : repsL c X up = [] := by rw [← hX]; exact fixed_reps h1 h2 h3
  have hal := allL_len hc
  have hll : (lostL c u up).length ≤ 100 := by
    unfold lostL
    split
    · exact Nat.le_trans (List.length_filter_le _ _) hal
    · simp
  rw [show i_Lost c (X.1, X.2) up = some (lostL c X up) from i_Lost_eq hc fk (by omega), Option.bind_some, hlost]
  refine congrArg (Option.map Sum.inr) (a₂ := some true) ?_
  refine whileP_is (s := ((0, 0) : Int × Int)) (fun s : Int × Int => ∃ j : Nat, j ≤ 3 ∧ s.2 = (j : Int) ∧ s.1 = ((up.take j).count true : Int)) (fun s => (3 - s.2).toNat) ?_ ⟨0, by omega, rfl, by simp⟩
  rintro ⟨n, i⟩ ⟨j, hj, hi, hn⟩
  dsimp only at hi hn ⊢
  subst hi
  subst hn
  by_cases hj3 : j < 3
  · left
    rw [show decide ((j : Int) < 3) = true from decide_eq_true (by omega), cond_true, idx_nat]
    have hb : up[j]? = some (up[j]'(by omega)) := List.getElem?_eq_getElem _
    generalize up[j]'(by omega) = b at hb
    have ht := count_take hb
    have hc0 : (up.take j).count true ≤ 3 := by have := List.count_le_length (a := true) (l := up.take j); rw [List.length_take] at this; omega
    rw [hb, Option.bind_some]
    rw [wrap64_in (n := (j : Int) + 1) (by unfold inR; omega), wrap64_in (n := ((up.take j).count true : Int) + 1) (by unfold inR; omega)]
    cases b with
    | true => exact ⟨(((up.take j).count true : Int) + 1, (j : Int) + 1), rfl, ⟨j + 1, by omega, rfl, by rw [ht]; rfl⟩, by dsimp only; omega⟩
    | false => exact ⟨(((up.take j).count true : Int), (j : Int) + 1), rfl, ⟨j + 1, by omega, rfl, by rw [ht]; simp⟩, by dsimp only; omega⟩
  right
  have hj : j = 3 := by omega
  subst hj
  rw [show decide (((3 : Nat) : Int) < 3) = false from rfl, cond_false, List.take_of_length_le (by omega), s_AllChunks_eq hc, Option.bind_some]
  refine congrArg (Option.map Sum.inr) (a₂ := some true) ?_
  refine whileP_is (fun s => 0 ≤ s ∧ s ≤ (allL c).length) (fun s => ((allL c).length - s).toNat) (fun s hs => ?_) (by omega)
  by_cases hlt : s < ((allL c).length : Int) ∧ 2 ≤ (up.count true : Int)
  · left
    obtain ⟨k, rfl⟩ := Int.eq_ofNat_of_zero_le hs.1
    have hg : (allL c)[k]? = some ((allL c)[k]'(by omega)) := List.getElem?_eq_getElem _
    have hm : (allL c)[k]'(by omega) ∈ allL c := List.getElem_mem _
    generalize (allL c)[k]'(by omega) = x at hg hm
    rw [decide_eq_true hlt.1, decide_eq_true hlt.2, Bool.and_self, cond_true, idx_nat, hg, Option.bind_some, hasText_eq (by omega), Option.bind_some]
    refine ⟨(k : Int) + 1, ?_, by omega, by omega⟩
    rw [wrap64_in (n := (k : Int) + 1) (by unfold inR; omega)]
    cases hla : (lostL c u up).any (fun y => decide (y = x)) with
    | true => rfl
    | false =>
      obtain ⟨n1, n2⟩ := upNodes_facts (x := x) h2
      have hne : (upF up (upNodes u x)).length ≠ 0 := fun hz => by
        have : x ∈ lostL c u up := by
          unfold lostL
          rw [h1, h2, decide_eq_true h3]
          exact List.mem_filter.2 ⟨hm, decide_eq_true hz⟩
        rw [any_memS.2 this] at hla; cases hla
      have h22 := (nf_facts n1 n2 h3).2.2.1 (by omega) hne
      simp only [Bool.not_false, gb_true, Option.bind_some]
      rw [show i_UpHas (X.1, X.2) x = _ from i_UpHas_eq fk, upHas_ok fo, Option.bind_some, ← hX, fixed_nodes hm, show decide (((nfO (upNodes u x) up).length : Int) < 2) = false from decide_eq_false (by omega)]
      rfl
  · right
    have : (decide (s < ((allL c).length : Int)) && decide (2 ≤ (up.count true : Int))) = false := by
      rw [← Bool.decide_and]; exact decide_eq_false hlt
    rw [this, cond_false]
    obtain ⟨v, t, et, hv, htl⟩ := drawRepairAll_ok (l := l) (by omega)
    rw [et, Option.bind_some]
    dsimp only
    rw [show i_RepairAll (v.1, v.2) t = some (repairAllD v t) from i_RepairAll_eq hv (by omega), Option.bind_some, show s_RepairAll (v.1, v.2) t = some (repairAllD v t) from s_RepairAll_eq hv (by omega), Option.bind_some]
    rw [show i_Repairs c (X.1, X.2) up = some (repsL c X up) from i_Repairs_eq hc fk (by omega), hreps, show s_Lost c (u.1, u.2) up = some (lostL c u up) from s_Lost_eq hc hu (by omega), gb_true, Option.bind_some]
    simp only [List.length_nil]
    rw [show (true && decide (((0 : Nat) : Int) = 0)) = true from rfl, gb_true, Option.bind_some, gb_true, sameTexts_refl (by omega), Option.bind_some, beq_self_eq_true]
    rfl
end Go.Proofs.SL
namespace Go.Proofs.SL
open Go
theorem lawFnRepair (w : World) (t1 : TL UInt8) (h1 : GT.rd w [] t1) (ho1 : Ok.ok (GT.dat t1)) : Spec Tryz.prog 4 [t1.hdr].toArray w [] (IsV (.bool true)) := w_FnRepair_walk w t1 h1 true (fnRepair_true _)
end Go.Proofs.SL
