/- In a drawn region: a call that is given parts of memory. -/
import Derived.Test.YthebgoognabinaaBaseT
namespace Go.Proofs.SL
open Go
variable {Γ : Cx} {ops : Array Oper} {Msh pool pool' : List HP} {E : Fl} {rs : List (Option Nat × Rel)} {rest : List Oper} {KD : RKont} {cs0 : List Nat}
variable {d : Nat} {ty : TypeId} {pos : String} {af : Array Edge}
theorem D_callM {f : Nat} {xs : List Operand} {ats : Array TypeId} {vs : List Value} (R : Rel) (M1 : List HP) (hp : List.Perm pool (M1 ++ pool'))
    (hf : IsFn Γ.P f) (hx : OpVs E True xs vs) (hc : ∀ w F, Holds Γ.w0 Γ.S0 (M1 ++ F) w → (∀ h, h ∈ Msh → h ∈ F) → Spec Γ.P f vs.toArray w M1 R)
    (hk : DV Γ ops Msh pool' ((d, R) :: E) ((some d, R) :: rs) cs0 rest KD) :
    DV Γ ops Msh pool E rs cs0 ({ dst := some d, op := .call { callee := .value (.func f), args := xs.toArray, argTypes := ats }, type := ty, pos := pos, after := af, guard := none } :: rest) KD := by
  refine ⟨R, M1, pool', [], hp, rfl, ?_, by rw [dropE_nil]; exact hk⟩
  intro a w F Mk _ _ hw hm hfa hcf
  have hMk : Mk = [] := hcf
  subst hMk
  rw [dropE_nil] at hfa
  simp only [List.nil_append] at hw ⊢
  rw [if_pos (by simp [Region.wanted])]
  have h2 : (#[] ++ xs.toArray.map a.eval ++ #[] : Array Value) = vs.toArray := by
    simp [OpVs.evals (o := { dst := some d, op := .call { callee := .value (.func f), args := xs.toArray, argTypes := ats }, type := ty, pos := pos, after := af, guard := none }) trivial hfa xs vs hx (fun x hx => by simp [Op.operands, Call.operands, hx])]
  rw [execOp_call_go, h2, hf.run]
  exact (hc w F hw hm (Holds.split hw)).mono fun e w'' ⟨v, M', h1, h3, h4⟩ => ⟨v, M', h1, h3, Holds.frame hw h4⟩
variable {gd : Option (Nat × Bool)}
theorem D_makeFunc {fn : Fn} {cs : List Operand} {vs : List Value} {c : Prop} (hg : GC ops E { dst := some d, op := .makeFunc fn #[] cs.toArray, type := ty, pos := pos, after := af, guard := gd } c) (hx : OpVs E c cs vs)
    (hk : DV Γ ops Msh pool ((d, FC c (.func fn #[] vs.toArray)) :: E) ((some d, FC c (.func fn #[] vs.toArray)) :: rs) cs0 rest KD) :
    DV Γ ops Msh pool E rs cs0 ({ dst := some d, op := .makeFunc fn #[] cs.toArray, type := ty, pos := pos, after := af, guard := gd } :: rest) KD :=
  DV_pure c _ hg (fun a w F hc hfa _ => by
    have h2 : cs.map a.eval = vs := OpVs.evals (o := { dst := some d, op := .makeFunc fn #[] cs.toArray, type := ty, pos := pos, after := af, guard := gd }) hc hfa cs vs hx (fun x hx => by simp [Op.operands, hx])
    simp [execOp, Instr.makeFunc, ← h2]) hk
end Go.Proofs.SL
