/- The base of the walks: bits and shifts; equality of structs of ints. -/
import Derived.Test.YthebgoognabinaaBaseE
namespace Go.Proofs.SL
open Go

variable {P : Program} {T : TypeId} {x y : Operand} {k : IntKind} {a b : Int}
theorem bv_and : BinV P .and T x y (.int k a) (.int k b) (.int k (bits .and k a b)) := fun w => by simp [eqGuard, binOp, intBits_and]
theorem bv_or : BinV P .or T x y (.int k a) (.int k b) (.int k (bits .or k a b)) := fun w => by simp [eqGuard, binOp, intBits_or]
theorem bv_xor : BinV P .xor T x y (.int k a) (.int k b) (.int k (bits .xor k a b)) := fun w => by simp [eqGuard, binOp, intBits_xor]
theorem bv_shr {yk : IntKind} (h0 : 0 ≤ b) (h1 : b ≤ k.bits) : BinV P .shr T x y (.int k a) (.int yk b) (.int k (a / 2 ^ b.toNat)) := fun w => by simp [eqGuard, binOp, shift_shr k yk a b h0 h1]
theorem bv_shl {yk : IntKind} (h0 : 0 ≤ b) (h1 : b ≤ k.bits) : BinV P .shl T x y (.int k a) (.int yk b) (.int k (k.wrap (a * 2 ^ b.toNat))) := fun w => by simp [eqGuard, binOp, shift_shl k yk a b h0 h1]
theorem and_mask (a : Int) (m : Nat) (hm : m < 9223372036854775808) : 0 ≤ bits .and .i64 a (m : Int) ∧ bits .and .i64 a (m : Int) ≤ (m : Int) := by
  unfold bits
  show 0 ≤ IntKind.wrap .i64 (((BitVec.ofInt 64 a) &&& (BitVec.ofInt 64 (m : Int))).toNat : Int) ∧ IntKind.wrap .i64 (((BitVec.ofInt 64 a) &&& (BitVec.ofInt 64 (m : Int))).toNat : Int) ≤ (m : Int)
  have h1 : ((BitVec.ofInt 64 a) &&& (BitVec.ofInt 64 (m : Int))).toNat ≤ m := by
    rw [BitVec.toNat_and]
    have h2 : (BitVec.ofInt 64 (m : Int)).toNat = m := by
      rw [BitVec.ofInt_natCast, BitVec.toNat_ofNat]
      exact Nat.mod_eq_of_lt (by omega)
    rw [h2]
    exact Nat.and_le_right
  rw [wrap64_in (by unfold inR; omega)]
  omega
end Go.Proofs.SL
