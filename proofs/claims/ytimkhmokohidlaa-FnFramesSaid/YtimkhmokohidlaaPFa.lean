/- Texts as lists of bytes; numbers of variable length, sums, frames. -/
import Derived.Test.YtimkhmokohidlaaPFx
import Derived.Test.YtimkhmokohidlaaPD2
import Derived.Test.YtimkhmokohidlaaPDk
namespace Go.Proofs.SL
open Go
abbrev Bs := List UInt8
theorem str_list (s : ByteArray) : ∃ l : Bs, s = strP l := ⟨s.data.toList, by unfold strP; simp⟩
theorem strP_app (a b : Bs) : strP a ++ strP b = strP (a ++ b) := by
  apply ByteArray.ext
  rw [ByteArray.data_append]
  exact List.append_toArray ..
theorem strP_size (a : Bs) : (strP a).size = a.length := rfl
theorem strP_inj {a b : Bs} : strP a = strP b ↔ a = b := by
  constructor
  · intro h
    have := congrArg (fun s => s.data.toList) h
    simpa [strP] using this
  · rintro rfl; rfl
theorem strP_nil : ByteArray.empty = strP [] := rfl
theorem strP_extract (l : Bs) (a b : Nat) : (strP l).extract a b = strP ((l.drop a).take (b - a)) := by
  apply ByteArray.ext
  rw [ByteArray.data_extract]
  unfold strP
  simp [List.take_drop]
theorem sidx_list {l : Bs} {k : Nat} {b : UInt8} (h : l[k]? = some b) : sidx (strP l) (k : Int) = some (b.toNat : Int) := by
  have hk := (List.getElem?_eq_some_iff.1 h).1
  unfold sidx
  rw [dif_pos ⟨by omega, by simpa [strP_size] using hk⟩]
  congr 2
  have := (List.getElem?_eq_some_iff.1 h).2
  rw [← this]
  simp [strP]
  rfl
theorem ssl_list {l : Bs} {a b : Nat} (h : a ≤ b) (hb : b ≤ l.length) : sslP (strP l) (a : Int) (b : Int) = some (strP ((l.drop a).take (b - a))) := by
  rw [ssl_ok ⟨by omega, by omega, by rw [strP_size]; omega⟩, strP_extract]
  simp
/-- A number in groups of seven bits, the least first. -/
def varL (n : Nat) : Bs := if h : n < 128 then [UInt8.ofNat n] else UInt8.ofNat (128 + n % 128) :: varL (n / 128)
termination_by n
decreasing_by omega
theorem or128 : ∀ x : Fin 128, bits .or .i64 ((x.val : Nat) : Int) 128 = ((128 + x.val : Nat) : Int) := by decide
theorem and127 {m : Nat} (h : m < 9223372036854775808) : bits .and .i64 (m : Int) 127 = ((m % 128 : Nat) : Int) := by
  show IntKind.wrap .i64 (((BitVec.ofInt 64 (m : Int)) &&& (BitVec.ofInt 64 127)).toNat : Int) = _
  rw [BitVec.toNat_and, show (BitVec.ofInt 64 127).toNat = 2 ^ 7 - 1 by decide, Nat.and_two_pow_sub_one_eq_mod, BitVec.toNat_ofInt]
  rw [wrap64_in (by unfold inR; omega)]
  omega
theorem u8_nat {m : Nat} (h : m < 256) : u8P (IntKind.wrap .u8 (m : Int)) = some (UInt8.ofNat m) := by
  have := u8_mod m
  rw [show m % 256 = m by omega] at this; exact this
theorem varL_lt {n : Nat} (h : n < 128) : varL n = [UInt8.ofNat n] := by rw [varL, dif_pos h]
theorem varL_ge {n : Nat} (h : ¬ n < 128) : varL n = UInt8.ofNat (128 + n % 128) :: varL (n / 128) := by rw [varL, dif_neg h]
theorem varL_len : ∀ (k n : Nat), n < 128 ^ (k + 1) → 1 ≤ (varL n).length ∧ (varL n).length ≤ k + 1
  | 0, n, h => by
    rw [varL, dif_pos (by simpa using h)]; simp
  | k + 1, n, h => by
    rw [varL]
    split
    · simp
    · have := varL_len k (n / 128) (by
        rw [Nat.div_lt_iff_lt_mul (by omega), ← Nat.pow_succ]; exact h)
      rw [List.length_cons]; omega
theorem varL_7 {n : Nat} (h : n ≤ 562949953421311) : 1 ≤ (varL n).length ∧ (varL n).length ≤ 7 := varL_len 6 n (by
  have : (128 : Nat) ^ 7 = 562949953421312 := by decide
  omega)
/-- The loop of a number in groups of seven bits. -/
theorem var_loop {n : Nat} (h : n ≤ 562949953421311) {f : Int × Bs → Option ((Int × Bs) ⊕ ByteArray)}
    (h1 : ∀ (m : Nat) (acc : Bs), 128 ≤ m → m ≤ n → acc.length ≤ 7 → f ((m : Int), acc) = some (.inl (((m / 128 : Nat) : Int), acc ++ [UInt8.ofNat (128 + m % 128)])))
    (h2 : ∀ (m : Nat) (acc : Bs), m < 128 → acc.length ≤ 7 → f ((m : Int), acc) = some (.inr (strP (acc ++ [UInt8.ofNat m])))) : whileP f ((n : Int), []) = some (strP (varL n)) := by
  refine whileP_is (fun s : Int × Bs => ∃ m : Nat, s.1 = (m : Int) ∧ m ≤ n ∧ s.2 ++ varL m = varL n) (fun s => s.1.toNat) ?_ ⟨n, rfl, Nat.le_refl _, rfl⟩
  rintro ⟨m', acc⟩ ⟨m, rfl, hm, he⟩
  dsimp only at he ⊢
  have hl : acc.length ≤ 7 := by
    have := congrArg List.length he
    rw [List.length_append] at this
    have := (varL_7 h).2
    omega
  by_cases h0 : m < 128
  · right
    rw [h2 m acc h0 hl, ← he, varL, dif_pos h0]
  · left
    refine ⟨_, h1 m acc (by omega) hm hl, ⟨m / 128, rfl, by omega, ?_⟩, ?_⟩
    · dsimp only
      rw [← he, List.append_assoc]
      conv => rhs; rw [varL, dif_neg h0]
      rfl
    · dsimp only; omega
theorem i_Var_eq {n : Nat} (h : n ≤ 562949953421311) : i_Var (n : Int) = some (strP (varL n)) := by
  unfold i_Var
  rw [within_eq, Option.bind_some, show decide (0 ≤ (n : Int) ∧ (n : Int) ≤ 562949953421311) = true from decide_eq_true (by omega), Bool.not_true, cond_false, Option.bind_some]
  refine var_loop h (fun m acc hm hn hl => ?_) (fun m acc hm hl => ?_)
  · dsimp only
    rw [decide_eq_true (by omega), cond_true, and127 (by omega), or128 ⟨m % 128, by omega⟩, u8_nat (by dsimp only; omega), Option.bind_some, appP_ok (by simp; omega), Option.bind_some]
    congr 4
  · dsimp only
    rw [decide_eq_false (by omega), cond_false, u8_nat (by omega), Option.bind_some, appP_ok (by simp; omega)]
    rfl
theorem s_Var_eq {n : Nat} (h : n ≤ 562949953421311) : s_Var (n : Int) = some (strP (varL n)) := by
  unfold s_Var
  rw [l1In_eq, Option.bind_some, show decide (0 ≤ (n : Int) ∧ (n : Int) ≤ 562949953421311) = true from decide_eq_true (by omega), Bool.not_true, cond_false, Option.bind_some]
  refine var_loop h (fun m acc hm hn hl => ?_) (fun m acc hm hl => ?_)
  · dsimp only
    have e1 : (m : Int).tmod 128 = ((m % 128 : Nat) : Int) := by rw [Int.tmod_eq_emod_of_nonneg (by omega)]; omega
    have e2 : (m : Int).tdiv 128 = ((m / 128 : Nat) : Int) := by rw [Int.tdiv_eq_ediv_of_nonneg (by omega)]; omega
    rw [decide_eq_true (by omega), cond_true, e1, e2, wrap64_in (n := 128 + _) (by unfold inR; omega), show (128 : Int) + ((m % 128 : Nat) : Int) = ((128 + m % 128 : Nat) : Int) by omega, u8_nat (by omega), Option.bind_some, appP_ok (by simp; omega), Option.bind_some, wrap64_in (by unfold inR; omega)]
  · dsimp only
    rw [decide_eq_false (by omega), cond_false, u8_nat (by omega), Option.bind_some, appP_ok (by simp; omega)]
    rfl
theorem i_Var_any (n : Int) : ∃ l : Bs, i_Var n = some (strP l) ∧ (l = [] ∨ ∃ m : Nat, n = (m : Int) ∧ m ≤ 562949953421311 ∧ l = varL m) := by
  by_cases h : 0 ≤ n ∧ n ≤ 562949953421311
  · obtain ⟨m, rfl⟩ := Int.eq_ofNat_of_zero_le h.1
    exact ⟨_, i_Var_eq (by omega), .inr ⟨m, rfl, by omega, rfl⟩⟩
  · refine ⟨[], ?_, .inl rfl⟩
    unfold i_Var
    rw [within_eq, Option.bind_some, decide_eq_false h]; rfl
theorem s_Var_any (n : Int) : ∃ l : Bs, s_Var n = some (strP l) ∧ (l = [] ∨ ∃ m : Nat, n = (m : Int) ∧ m ≤ 562949953421311 ∧ l = varL m) := by
  by_cases h : 0 ≤ n ∧ n ≤ 562949953421311
  · obtain ⟨m, rfl⟩ := Int.eq_ofNat_of_zero_le h.1
    exact ⟨_, s_Var_eq (by omega), .inr ⟨m, rfl, by omega, rfl⟩⟩
  · refine ⟨[], ?_, .inl rfl⟩
    unfold s_Var
    rw [l1In_eq, Option.bind_some, decide_eq_false h]; rfl
/-- No number's bytes begin another's. -/
theorem varL_pre : ∀ (n m : Nat) (r s : Bs), varL n ++ r = varL m ++ s → n = m := by
  intro n
  induction n using Nat.strongRecOn with
  | ind n ih =>
    intro m r s h
    by_cases hn : n < 128 <;> by_cases hm : m < 128
    · rw [varL_lt hn, varL_lt hm] at h
      have := (List.cons.inj h).1
      have := congrArg UInt8.toNat this
      simp at this; omega
    · rw [varL_lt hn, varL_ge hm] at h
      have := (List.cons.inj h).1
      have := congrArg UInt8.toNat this
      simp at this; omega
    · rw [varL_ge hn, varL_lt hm] at h
      have := (List.cons.inj h).1
      have := congrArg UInt8.toNat this
      simp at this; omega
    · rw [varL_ge hn, varL_ge hm] at h
      obtain ⟨h1, h2⟩ := List.cons.inj h
      have h1 := congrArg UInt8.toNat h1
      simp at h1
      have := ih (n / 128) (by omega) (m / 128) r s h2
      omega
end Go.Proofs.SL
