/- Spoiled texts. -/
import Derived.Test.YtimkhmokohidlaaPD1
import Derived.Test.YtimkhmokohidlaaWFr
namespace Go.Proofs.SL
open Go
def byt (s : ByteArray) (i : Nat) : UInt8 := if h : i < s.size then s[i] else 0
theorem sidx_byt {s : ByteArray} {i : Nat} (h : i < s.size) : sidx s (i : Int) = some ((byt s i).toNat : Int) := by
  unfold sidx byt; rw [dif_pos ⟨by omega, by simpa using h⟩, dif_pos h]; simp
theorem ssl_ok {s : ByteArray} {a b : Int} (h : 0 ≤ a ∧ a ≤ b ∧ b ≤ (s.size : Int)) : sslP s a b = some (s.extract a.toNat b.toNat) := if_pos h
theorem cutSize (s : ByteArray) (a b : Nat) : (s.extract a b).size ≤ b - a := by rw [ByteArray.size_extract]; omega
theorem spoil_ok {d : D_l1Cur} (h : CurOk d) {s : ByteArray} (hs : s.size ≤ 1000000) : ∃ t d', s_l1Spoil d s = some (t, d') ∧ t.size ≤ 1000010 ∧ CurOk d' := by
  unfold s_l1Spoil
  simp only [Prod.eta]
  by_cases h0 : (s.size : Int) = 0
  · rw [decide_eq_true h0, cond_true]
    obtain ⟨t, d', e, g, c⟩ := text_ok h (n := 3) (by omega) (by omega)
    rw [e]
    exact ⟨t, d', rfl, by omega, c⟩
  · rw [decide_eq_false h0, cond_false]
    obtain ⟨k, d1, e1, g1, c1⟩ := below_ok h (s.size : Int)
    have hk := g1.2.1 (by omega)
    have hk0 := g1.1
    obtain ⟨q, d2, e2, g2, c2⟩ := below_ok c1 4
    rw [e1, Option.bind_some]
    dsimp only
    rw [e2, Option.bind_some]
    dsimp only
    have w1 : IntKind.wrap .i64 (k + 1) = k + 1 := wrap64_in (by unfold inR; omega)
    have s1 := ssl_ok (s := s) (a := 0) (b := k) (by omega)
    have s2 := ssl_ok (s := s) (a := k + 1) (b := (s.size : Int)) (by omega)
    have s3 := ssl_ok (s := s) (a := k) (b := (s.size : Int)) (by omega)
    have z1 := cutSize s (0 : Int).toNat k.toNat
    have z2 := cutSize s (k + 1).toNat (s.size : Int).toNat
    have z3 := cutSize s k.toNat (s.size : Int).toNat
    rw [w1, s1, s2, s3]
    simp only [Option.bind_some]
    cases decide (q = 0) with
    | true =>
      rw [cond_true, catP_ok (by omega)]
      exact ⟨_, d2, rfl, by rw [ByteArray.size_append]; omega, c2⟩
    | false =>
      rw [cond_false]
      cases decide (q = 1) with
      | true =>
        rw [cond_true]
        obtain ⟨y, d3, e3, g3, c3, _⟩ := byte_ok c2
        obtain ⟨b, hb⟩ := u8P_wrap y
        rw [e3, Option.bind_some]
        dsimp only
        rw [hb, Option.bind_some]
        have zb : (strP [b]).size = 1 := rfl
        rw [catP_ok (by omega), Option.bind_some, catP_ok (by rw [ByteArray.size_append]; omega)]
        exact ⟨_, d3, rfl, by rw [ByteArray.size_append, ByteArray.size_append]; omega, c3⟩
      | false =>
        rw [cond_false]
        cases decide (q = 2) with
        | true => exact ⟨_, d2, rfl, by omega, c2⟩
        | false =>
          rw [cond_false]
          obtain ⟨kn, rfl⟩ := Int.eq_ofNat_of_zero_le hk0
          obtain ⟨y, d3, e3, g3, c3⟩ := below_ok c2 255
          rw [sidx_byt (show kn < s.size by omega), Option.bind_some, e3, Option.bind_some]
          dsimp only
          obtain ⟨b, hb⟩ := u8P_wrap (bits .xor .i64 (IntKind.wrap .i64 ((byt s kn).toNat : Int)) (IntKind.wrap .i64 (1 + y)))
          rw [hb, Option.bind_some]
          have zb : (strP [b]).size = 1 := rfl
          rw [catP_ok (by omega), Option.bind_some, catP_ok (by rw [ByteArray.size_append]; omega)]
          exact ⟨_, d3, rfl, by rw [ByteArray.size_append, ByteArray.size_append]; omega, c3⟩
end Go.Proofs.SL
