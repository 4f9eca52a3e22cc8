/- The base of the walks: min in drawn regions. -/
import Derived.Test.YthebgoognabinaaBaseF
namespace Go.Proofs.SL
open Go
variable {Γ : Cx} {rest : List Oper} {d : Nat} {ty : TypeId} {pos : String} {af : Array Edge} {gd : Option (Nat × Bool)}
variable {ops : Array Oper} {Msh pool : List HP} {E : Fl} {rs : List (Option Nat × Rel)} {cs0 : List Nat} {KD : List (Option Nat × Rel) → List Nat → List HP → Prop}
theorem D_min {x y : Operand} {ats : Array TypeId} {k : IntKind} {a b : Int} {c : Prop} (hg : GC ops E { dst := some d, op := .call { callee := .builtin .min, args := #[x, y], argTypes := ats }, type := ty, pos := pos, after := af, guard := gd } c)
    (hx : OpV E x c (.int k a)) (hy : OpV E y c (.int k b))
    (hk : DV Γ ops Msh pool ((d, FC c (.int k (if b < a then b else a))) :: E) ((some d, FC c (.int k (if b < a then b else a))) :: rs) cs0 rest KD) :
    DV Γ ops Msh pool E rs cs0 ({ dst := some d, op := .call { callee := .builtin .min, args := #[x, y], argTypes := ats }, type := ty, pos := pos, after := af, guard := gd } :: rest) KD :=
  DV_pure c _ hg (fun a' w F hc hf _ => by
    have e1 := hx.eval hf (by simp [Op.operands, Call.operands]) hc
    have e2 := hy.eval hf (by simp [Op.operands, Call.operands]) hc
    simp [execOp, resolve, invoke, builtin, e1, e2, run_min_int2]) hk
theorem pow2_bd {n : Int} (h : n ≤ 12) : (1 : Int) ≤ 2 ^ n.toNat ∧ (2 : Int) ^ n.toNat ≤ 4096 := by
  have h1 : n.toNat ≤ 12 := by omega
  have h2 : (2 : Nat) ^ n.toNat ≤ 2 ^ 12 := Nat.pow_le_pow_right (by omega) h1
  have h3 : 0 < (2 : Nat) ^ n.toNat := Nat.pow_pos (by omega)
  have h4 : ((2 ^ n.toNat : Nat) : Int) = (2 : Int) ^ n.toNat := by rw [Int.natCast_pow]; rfl
  rw [← h4]
  omega
theorem pow2_mono {i j : Nat} (h : i ≤ j) : (2 : Int) ^ i ≤ 2 ^ j := by
  have h2 : (2 : Nat) ^ i ≤ 2 ^ j := Nat.pow_le_pow_right (by omega) h
  have e : ∀ n : Nat, ((2 ^ n : Nat) : Int) = (2 : Int) ^ n := fun n => by rw [Int.natCast_pow]; rfl
  rw [← e, ← e]; omega
theorem mul_bd {a b c d : Int} (h0 : 0 ≤ a) (h1 : a ≤ c) (h2 : 0 ≤ b) (h3 : b ≤ d) : 0 ≤ a * b ∧ a * b ≤ c * d :=
  ⟨Int.mul_nonneg h0 h2, Int.mul_le_mul h1 h3 h2 (by omega)⟩
end Go.Proofs.SL
