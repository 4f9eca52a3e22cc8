/- The base of the walks: what the laws themselves need. -/
import Derived.Test.YthebgoognabinaaBaseB
import Derived.Laws.StructEq
namespace Go.Proofs.SL
open Go

variable {Γ : Cx} {l : Envl} {M M' M1 M2 : List HP} {Q : Post} {K : Kont} {w0 w : World} {S0 : List Nat} {P : Program}
variable {rest : List Oper} {d : Nat} {ty : TypeId} {pos : String} {af : Array Edge}

theorem run_equal_bool {T : TypeId} (h : P.underlying T = some .bool) (a b : Bool) : (Op.equal T (.bool a) (.bool b)).run P w = .ok (a == b) w := run_equalIn_bool' w 9999 T a b h
theorem bv_beql {x y : Operand} {T : TypeId} {a b : Bool} (h : P.underlying T = some .bool) : BinV P .eql T x y (.bool a) (.bool b) (.bool (a == b)) := fun w => by simp [eqGuard, binOp, run_equal_bool h]
theorem bv_bneq {x y : Operand} {T : TypeId} {a b : Bool} (h : P.underlying T = some .bool) : BinV P .neq T x y (.bool a) (.bool b) (.bool (!(a == b))) := fun w => by simp [eqGuard, binOp, run_equal_bool h]

theorem Spec.to {f : FuncId} {args : Array Value} {R R' : Value → List HP → Prop} (h : Spec P f args w M R) (hr : ∀ v M, R v M → R' v M) : Spec P f args w M R' := fun hw =>
  (h hw).mono fun e w' ⟨v, M', h1, h2, h3⟩ => ⟨v, M', h1, hr v M' h2, h3⟩
theorem Spec.toFC {f : FuncId} {args : Array Value} {x : Value} (h : Spec P f args w M (IsV x)) : Spec P f args w M (FC True x) := h.to fun v M' h => ⟨h.2, fun _ => h.1, fun hn => (hn trivial).elim⟩

section
variable {ops : Array Oper} {Msh pool : List HP} {E : Fl} {rs : List (Option Nat × Rel)} {cs0 : List Nat} {KD : List (Option Nat × Rel) → List Nat → List HP → Prop}
/-- A call whose operands are known; its result by its contract. -/
theorem D_call1R {f : Nat} {xs : List Operand} {ats : Array TypeId} {vs : List Value} (R : Rel)
    (hf : IsFn Γ.P f) (hx : OpVs E True xs vs) (hc : ∀ w F, Holds Γ.w0 Γ.S0 F w → (∀ h, h ∈ Msh → h ∈ F) → Spec Γ.P f vs.toArray w [] R)
    (hk : DV Γ ops Msh pool ((d, R) :: E) ((some d, R) :: rs) cs0 rest KD) :
    DV Γ ops Msh pool E rs cs0 ({ dst := some d, op := .call { callee := .value (.func f), args := xs.toArray, argTypes := ats }, type := ty, pos := pos, after := af, guard := none } :: rest) KD := by
  refine ⟨R, [], pool, [], by simp, rfl, ?_, by rw [dropE_nil]; exact hk⟩
  intro a w F Mk _ _ hw hm hfa hcf
  have hMk : Mk = [] := hcf
  subst hMk
  rw [dropE_nil] at hfa
  simp only [List.nil_append] at hw ⊢
  rw [if_pos (by simp [Region.wanted])]
  have hw' : Holds Γ.w0 Γ.S0 F w := by simpa using hw
  have h2 : (#[] ++ xs.toArray.map a.eval ++ #[] : Array Value) = vs.toArray := by
    simp [OpVs.evals (o := { dst := some d, op := .call { callee := .value (.func f), args := xs.toArray, argTypes := ats }, type := ty, pos := pos, after := af, guard := none }) trivial hfa xs vs hx (fun x hx => by simp [Op.operands, Call.operands, hx])]
  rw [execOp_call_go, h2, hf.run]
  exact (hc w F hw' hm (Holds.split (M1 := []) (M2 := F) hw)).mono fun e w'' ⟨v, M', h1, h3, h4⟩ => ⟨v, M', h1, h3, Holds.frame (M1 := []) (M2 := F) hw h4⟩
end

theorem cells_of_blk {F : List HP} {b : Nat} {cs : List Value} {T : TypeId} (h : blk b cs T ∈ F) (hw : Sees w0 S0 F w) : Cells w [] b 0 cs := fun j v hv => by
  have hp : w.heap[b]? = some (.cells cs.toArray T (0, 0)) := hw.prs _ h
  refine ⟨?_, by simp⟩
  rw [cell_of_row _ _ _ _ _ _ hp, Nat.zero_add]
  simpa using hv
theorem Cells.carry {F : List HP} {g o : Nat} {cs : List Value} (h : Cells w0 S0 g o cs) (hw : Holds w0 S0 F w) : Cells w [] g o cs := fun j v hv => (h j v hv).carry (M1 := []) (M2 := F) hw

/-- Where the first element that passes stands, or -1. -/
def firstI {α : Type} (p : α → Bool) (xs : List α) : Int := match xs.findIdx? p with | some i => (i : Int) | none => -1
theorem firstI_hit {α : Type} {p : α → Bool} {xs : List α} {k : Nat} {u : α} (h : ∀ x, x ∈ xs.take k → p x = false) (hu : xs[k]? = some u) (hp : p u = true) : firstI p xs = k := by
  unfold firstI
  have hk := (List.getElem?_eq_some_iff.1 hu)
  obtain ⟨hlt, hk⟩ := hk
  have : xs.findIdx? p = some k := by
    rw [List.findIdx?_eq_some_iff_getElem]
    refine ⟨hlt, by rw [hk]; exact hp, fun j hj => ?_⟩
    have := h (xs[j]) (List.mem_iff_getElem?.2 ⟨j, by rw [List.getElem?_take_of_lt hj]; exact List.getElem?_eq_getElem _⟩)
    simp [this]
  rw [this]
theorem firstI_miss {α : Type} {p : α → Bool} {xs : List α} (h : ∀ x, x ∈ xs → p x = false) : firstI p xs = -1 := by
  unfold firstI
  rw [List.findIdx?_eq_none_iff.2 h]
theorem firstI_cases {α : Type} (p : α → Bool) (xs : List α) : firstI p xs = -1 ∨ ∃ (k : Nat) (u : α), firstI p xs = (k : Int) ∧ xs[k]? = some u ∧ p u = true := by
  unfold firstI
  split
  · rename_i i hi
    obtain ⟨h1, h2, _⟩ := List.findIdx?_eq_some_iff_getElem.1 hi
    exact .inr ⟨i, xs[i], rfl, List.getElem?_eq_getElem h1, h2⟩
  · exact .inl rfl
theorem firstI_find {α : Type} (p : α → Bool) (xs : List α) : (firstI p xs = -1 ∧ xs.find? p = none) ∨ ∃ (k : Nat) (u : α), firstI p xs = (k : Int) ∧ xs[k]? = some u ∧ xs.find? p = some u ∧ k < xs.length := by
  unfold firstI
  cases h : xs.findIdx? p with
  | none =>
    refine .inl ⟨rfl, ?_⟩
    rw [List.find?_eq_none]
    intro x hx
    have := List.findIdx?_eq_none_iff.1 h x hx
    simp [this]
  | some i =>
    obtain ⟨h1, h2, h3⟩ := List.findIdx?_eq_some_iff_getElem.1 h
    refine .inr ⟨i, xs[i], rfl, List.getElem?_eq_getElem h1, ?_, h1⟩
    rw [List.find?_eq_some_iff_getElem]
    exact ⟨h2, i, h1, rfl, fun j hj => by have := h3 j hj; simpa using this⟩
theorem firstI_map {α β : Type} (p : β → Bool) (f : α → β) (xs : List α) : firstI p (xs.map f) = firstI (fun x => p (f x)) xs := by
  unfold firstI
  rw [List.findIdx?_map]; rfl
noncomputable def pB (p : Prop) : Bool := @decide p (Classical.propDecidable p)
theorem pB_true {p : Prop} (h : p) : pB p = true := by unfold pB; exact @decide_eq_true p (Classical.propDecidable p) h
theorem pB_false {p : Prop} (h : ¬ p) : pB p = false := by unfold pB; exact @decide_eq_false p (Classical.propDecidable p) h
theorem pB_iff {p : Prop} : pB p = true ↔ p := by unfold pB; exact @decide_eq_true_iff p (Classical.propDecidable p)
theorem all_mem_succ {α : Type} {p : α → Prop} {xs : List α} {k : Nat} {u : α} (h : ∀ x, x ∈ xs.take k → p x) (hu : xs[k]? = some u) (hp : p u) : ∀ x, x ∈ xs.take (k + 1) → p x := by
  intro x hx
  rw [List.take_add_one, hu] at hx
  simp only [Option.toList_some, List.mem_append, List.mem_singleton] at hx
  rcases hx with hx | rfl
  · exact h x hx
  · exact hp
theorem all_lt_succ {α : Type} {p : Nat → α → Prop} {xs : List α} {k : Nat} {u : α} (h : ∀ i s, i < k → xs[i]? = some s → p i s) (hu : xs[k]? = some u) (hp : p k u) : ∀ i s, i < k + 1 → xs[i]? = some s → p i s := by
  intro i s hi hs
  rcases Nat.lt_or_ge i k with h1 | h1
  · exact h i s h1 hs
  · have : i = k := by omega
    subst this
    rw [hu] at hs; cases hs; exact hp
end Go.Proofs.SL
