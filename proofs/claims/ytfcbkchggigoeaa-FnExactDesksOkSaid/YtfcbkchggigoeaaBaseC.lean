/- The base of the walks: what the laws themselves need. -/
import Derived.Test.YtfcbkchggigoeaaBaseB
import Derived.Laws.StructEq
namespace Go.Proofs.SL
open Go

variable {Γ : Cx} {l : Envl} {M M' M1 M2 : List HP} {Q : Post} {K : Kont} {w0 w : World} {S0 : List Nat} {P : Program}
variable {rest : List Oper} {d : Nat} {ty : TypeId} {pos : String} {af : Array Edge}

theorem run_equal_bool {T : TypeId} (h : P.underlying T = some .bool) (a b : Bool) : (Op.equal T (.bool a) (.bool b)).run P w = .ok (a == b) w := run_equalIn_bool' w 9999 T a b h
theorem bv_beql {x y : Operand} {T : TypeId} {a b : Bool} (h : P.underlying T = some .bool) : BinV P .eql T x y (.bool a) (.bool b) (.bool (a == b)) := fun w => by simp [eqGuard, binOp, run_equal_bool h]
theorem bv_bneq {x y : Operand} {T : TypeId} {a b : Bool} (h : P.underlying T = some .bool) : BinV P .neq T x y (.bool a) (.bool b) (.bool (!(a == b))) := fun w => by simp [eqGuard, binOp, run_equal_bool h]

theorem Spec.to {f : FuncId} {args : Array Value} {R R' : Value → List HP → Prop} (h : Spec P f args w M R) (hr : ∀ v M, R v M → R' v M) : Spec P f args w M R' := fun hw =>
  (h hw).mono fun e w' ⟨v, M', h1, h2, h3⟩ => ⟨v, M', h1, hr v M' h2, h3⟩
theorem Spec.toFC {f : FuncId} {args : Array Value} {x : Value} (h : Spec P f args w M (IsV x)) : Spec P f args w M (FC True x) := h.to fun v M' h => ⟨h.2, fun _ => h.1, fun hn => (hn trivial).elim⟩

section
variable {ops : Array Oper} {Msh pool : List HP} {E : Fl} {rs : List (Option Nat × Rel)} {cs0 : List Nat} {KD : List (Option Nat × Rel) → List Nat → List HP → Prop}
/-- A call whose operands are known; its result by its contract. -/
theorem D_call1R {f : Nat} {xs : List Operand} {ats : Array TypeId} {vs : List Value} (R : Rel)
    (hf : IsFn Γ.P f) (hx : OpVs E True xs vs) (hc : ∀ w F, Holds Γ.w0 Γ.S0 F w → (∀ h, h ∈ Msh → h ∈ F) → Spec Γ.P f vs.toArray w [] R)
    (hk : DV Γ ops Msh pool ((d, R) :: E) ((some d, R) :: rs) cs0 rest KD) :
    DV Γ ops Msh pool E rs cs0 ({ dst := some d, op := .call { callee := .value (.func f), args := xs.toArray, argTypes := ats }, type := ty, pos := pos, after := af, guard := none } :: rest) KD := by
  refine ⟨R, [], pool, [], by simp, rfl, ?_, by rw [dropE_nil]; exact hk⟩
  intro a w F Mk _ _ hw hm hfa hcf
  have hMk : Mk = [] := hcf
  subst hMk
  rw [dropE_nil] at hfa
  simp only [List.nil_append] at hw ⊢
  rw [if_pos (by simp [Region.wanted])]
  have hw' : Holds Γ.w0 Γ.S0 F w := by simpa using hw
  have h2 : (#[] ++ xs.toArray.map a.eval ++ #[] : Array Value) = vs.toArray := by
    simp [OpVs.evals (o := { dst := some d, op := .call { callee := .value (.func f), args := xs.toArray, argTypes := ats }, type := ty, pos := pos, after := af, guard := none }) trivial hfa xs vs hx (fun x hx => by simp [Op.operands, Call.operands, hx])]
  rw [execOp_call_go, h2, hf.run]
  exact (hc w F hw' hm (Holds.split (M1 := []) (M2 := F) hw)).mono fun e w'' ⟨v, M', h1, h3, h4⟩ => ⟨v, M', h1, h3, Holds.frame (M1 := []) (M2 := F) hw h4⟩
end
end Go.Proofs.SL
