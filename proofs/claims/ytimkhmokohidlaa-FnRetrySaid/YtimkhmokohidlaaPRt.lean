/- Trying again: what may be tried, when, and that the delays do not decrease. -/
import Derived.Test.YtimkhmokohidlaaPD1
import Derived.Test.YtimkhmokohidlaaWRt
namespace Go.Proofs.SL
open Go
theorem pickint_ok {d : D_l1Cur} (h : CurOk d) {l : List Int} (hl : 0 < l.length) : ∃ x d', s_l1PickInt d l = some (x, d') ∧ x ∈ l ∧ CurOk d' := by
  unfold s_l1PickInt
  simp only [Prod.eta]
  obtain ⟨y, d1, e1, g1, c1⟩ := below_ok h (l.length : Int)
  rw [e1, Option.bind_some]
  dsimp only
  obtain ⟨k, rfl⟩ := Int.eq_ofNat_of_zero_le g1.1
  have hk : k < l.length := by have := g1.2.1 (by omega); omega
  rw [idx_nat, List.getElem?_eq_getElem hk, Option.bind_some]
  exact ⟨_, _, rfl, List.getElem_mem hk, c1⟩
theorem at_ok {l : List UInt8} {i : Int} (h : l.length ≤ 1048576) (h0 : 0 ≤ i) (h1 : i ≤ 1000) : ∃ x, w_at l i = some x ∧ 0 ≤ x := by
  unfold w_at
  obtain ⟨k, rfl⟩ := Int.eq_ofNat_of_zero_le h0
  by_cases hi : (k : Int) < (l.length : Int)
  · have hk : l[k]? = some (l[k]'(by omega)) := List.getElem?_eq_getElem _
    rw [decide_eq_true hi, cond_true, idx_nat, hk]
    refine ⟨_, rfl, ?_⟩
    have := (l[k]'(by omega)).toNat_lt
    rw [wrap64_in (by unfold inR; omega)]; omega
  · rw [decide_eq_false hi, cond_false]
    refine ⟨_, rfl, (tmod_lt ?_ (by omega)).1⟩
    rw [wrap64_in (n := (k : Int) * 37) (by unfold inR; omega), wrap64_in (n := (l.length : Int) * 11) (by unfold inR; omega), wrap64_in (by unfold inR; omega)]
    omega
def RtOk (r : D_Retry) : Prop := (1 ≤ r.1 ∧ r.1 ≤ 100) ∧ (r.1 ≤ r.2.1 ∧ r.2.1 ≤ 10000) ∧ (0 ≤ r.2.2.1 ∧ r.2.2.1 ≤ 12) ∧ (0 ≤ r.2.2.2 ∧ r.2.2.2 ≤ 1000000)
instance (r : D_Retry) : Decidable (RtOk r) := by unfold RtOk; exact inferInstance
theorem rtOk_dec (r : D_Retry) : decide (RtOk r) = (((decide (1 ≤ r.1 ∧ r.1 ≤ 100) && decide (r.1 ≤ r.2.1 ∧ r.2.1 ≤ 10000)) && decide (0 ≤ r.2.2.1 ∧ r.2.2.1 ≤ 12)) && decide (0 ≤ r.2.2.2 ∧ r.2.2.2 ≤ 1000000)) := by
  rw [Bool.eq_iff_iff, decide_eq_true_eq]
  simp only [decide_eq_true_eq, Bool.and_eq_true]
  unfold RtOk
  constructor
  · rintro ⟨a, b, c, d⟩; exact ⟨⟨⟨a, b⟩, c⟩, d⟩
  · rintro ⟨⟨⟨a, b⟩, c⟩, d⟩; exact ⟨a, b, c, d⟩
theorem whileP_is {σ α : Type} {f : σ → Option (σ ⊕ α)} {r : α} {s : σ} (I : σ → Prop) (μ : σ → Nat) (h : ∀ s, I s → (∃ s', f s = some (.inl s') ∧ I s' ∧ μ s' < μ s) ∨ f s = some (.inr r)) (hs : I s) : whileP f s = some r := by
  obtain ⟨a, ha, rfl⟩ := whileP_rule I μ (· = r) (fun s hs => (h s hs).imp id fun h => ⟨r, h, rfl⟩) s hs
  exact ha
theorem i_RetryOk_eq (r : D_Retry) : i_RetryOk r = some (decide (RtOk r)) := by
  rw [rtOk_dec]
  unfold i_RetryOk
  simp only [within_eq, Option.bind_some, gbs]
  cases decide (1 ≤ r.1 ∧ r.1 ≤ 100) <;> cases decide (r.1 ≤ r.2.1 ∧ r.2.1 ≤ 10000) <;> cases decide (0 ≤ r.2.2.1 ∧ r.2.2.1 ≤ 12) <;> rfl
theorem s_RetryOk_eq (r : D_Retry) : s_RetryOk r = some (decide (RtOk r)) := by
  rw [rtOk_dec]
  unfold s_RetryOk
  simp only [l1In_eq, Option.bind_some, gbs]
  cases decide (1 ≤ r.1 ∧ r.1 ≤ 100) <;> cases decide (r.1 ≤ r.2.1 ∧ r.2.1 ≤ 10000) <;> cases decide (0 ≤ r.2.2.1 ∧ r.2.2.1 ≤ 12) <;> rfl
def MayD (r : D_Retry) (n : Int) : Bool := (decide (RtOk r) && decide (r.2.2.1 < 12)) && decide (r.2.2.2 ≤ n)
theorem i_RetryMay_eq (r : D_Retry) (n : Int) : i_RetryMay r n = some (MayD r n) := by
  unfold i_RetryMay MayD; simp only [Prod.eta, i_RetryOk_eq, Option.bind_some]
theorem s_RetryMay_eq (r : D_Retry) (n : Int) : s_RetryMay r n = some (MayD r n) := by
  unfold s_RetryMay MayD; simp only [Prod.eta, s_RetryOk_eq, Option.bind_some]
/-- The delay: doubled at each try, up to a limit. -/
def dly (b c : Int) (t : Nat) : Int := if b * 2 ^ t < c then b * 2 ^ t else c
theorem pow_bd {t : Nat} (h : t ≤ 12) : (1 : Int) ≤ 2 ^ t ∧ (2 : Int) ^ t ≤ 4096 := by
  have h1 : (2 : Nat) ^ t ≤ 2 ^ 12 := Nat.pow_le_pow_right (by omega) h
  have h2 : 0 < (2 : Nat) ^ t := Nat.pow_pos (by omega)
  have e : ((2 : Int) ^ t) = ((2 ^ t : Nat) : Int) := by simp
  rw [e]; omega
theorem rmul_bd {b : Int} {t : Nat} (hb : 1 ≤ b ∧ b ≤ 100) (h : t ≤ 12) : b ≤ b * 2 ^ t ∧ b * 2 ^ t ≤ 409600 := by
  obtain ⟨h1, h2⟩ := pow_bd h
  constructor
  · have := Int.mul_le_mul_of_nonneg_left h1 (show 0 ≤ b by omega); omega
  · calc b * 2 ^ t ≤ 100 * 2 ^ t := Int.mul_le_mul_of_nonneg_right hb.2 (by omega)
      _ ≤ 100 * 4096 := Int.mul_le_mul_of_nonneg_left h2 (by omega)
      _ = 409600 := by decide
theorem mul_mono {b : Int} {s t : Nat} (hb : 1 ≤ b) (h : s ≤ t) : b * 2 ^ s ≤ b * 2 ^ t := by
  refine Int.mul_le_mul_of_nonneg_left ?_ (by omega)
  have : (2 : Nat) ^ s ≤ 2 ^ t := Nat.pow_le_pow_right (by omega) h
  exact_mod_cast this
theorem dly_mono {b c : Int} {s t : Nat} (hb : 1 ≤ b) (h : s ≤ t) : dly b c s ≤ dly b c t := by
  have := mul_mono hb h
  unfold dly
  split <;> split <;> omega
def FailD (r : D_Retry) (n : Int) : D_Retry × Bool := if RtOk r then
    (if (!MayD r n || decide (1000000 - dly r.1 r.2.1 r.2.2.1.toNat < n)) = true then (r, false) else ((r.1, r.2.1, r.2.2.1 + 1, n + dly r.1 r.2.1 r.2.2.1.toNat), true))
  else ((0, 0, 0, 0), false)
theorem dly_bd {b c : Int} {t : Nat} (hb : 1 ≤ b ∧ b ≤ 100) (hc : b ≤ c ∧ c ≤ 10000) (h : t ≤ 12) : b ≤ dly b c t ∧ dly b c t ≤ c := by
  have := rmul_bd hb h
  unfold dly; split <;> omega
theorem fail_end {r : D_Retry} {n : Int} (h : RtOk r) (y : Int) (hy : y = dly r.1 r.2.1 r.2.2.1.toNat) :
    (cond ((!MayD r n) || (decide (IntKind.wrap .i64 (1000000 - y) < n))) (some ((r.1, r.2.1, r.2.2.1, r.2.2.2), false)) (some ((r.1, r.2.1, IntKind.wrap .i64 (r.2.2.1 + 1), IntKind.wrap .i64 (n + y)), true)) : Option (D_Retry × Bool)) = some (FailD r n) := by
  subst hy
  unfold FailD
  rw [if_pos h]
  obtain ⟨h1, h2, h3, h4⟩ := h
  have hd := dly_bd h1 h2 (show r.2.2.1.toNat ≤ 12 by omega)
  rw [wrap64_in (n := 1000000 - _) (by unfold inR; omega)]
  cases hm : MayD r n with
  | false => rfl
  | true =>
    have hm2 : r.2.2.2 ≤ n := by unfold MayD at hm; simp only [Bool.and_eq_true, decide_eq_true_eq] at hm; exact hm.2
    by_cases hn : 1000000 - dly r.1 r.2.1 r.2.2.1.toNat < n
    · simp [hn]
    · rw [wrap64_in (n := n + _) (by unfold inR; omega), wrap64_in (n := r.2.2.1 + 1) (by unfold inR; omega)]
      simp [hn]
theorem i_RetryFail_eq (r : D_Retry) (n : Int) : i_RetryFail r n = some (FailD r n) := by
  unfold i_RetryFail
  simp only [Prod.eta, i_RetryOk_eq, i_RetryMay_eq, Option.bind_some]
  by_cases h : RtOk r
  · rw [decide_eq_true h, Bool.not_true, cond_false]
    have hh := h
    obtain ⟨h1, h2, h3, h4⟩ := hh
    have hb := rmul_bd h1 (show r.2.2.1.toNat ≤ 12 by omega)
    unfold shlP
    rw [if_pos ⟨h3.1, by show r.2.2.1 ≤ (64 : Nat); omega⟩, Option.bind_some, wrap64_in (n := r.1 * _) (by unfold inR; omega)]
    exact fail_end h _ rfl
  · rw [decide_eq_false h, Bool.not_false, cond_true]
    unfold FailD
    rw [if_neg h]
theorem s_RetryFail_eq (r : D_Retry) (n : Int) : s_RetryFail r n = some (FailD r n) := by
  unfold s_RetryFail
  simp only [Prod.eta, s_RetryOk_eq, s_RetryMay_eq, Option.bind_some]
  by_cases h : RtOk r
  · rw [decide_eq_true h, Bool.not_true, cond_false]
    have hh := h
    obtain ⟨h1, h2, h3, h4⟩ := hh
    refine whileP_is (fun s : Int × Int => 0 ≤ s.2 ∧ s.2 ≤ r.2.2.1 ∧ s.1 = r.1 * 2 ^ s.2.toNat) (fun s => (r.2.2.1 - s.2).toNat) ?_ ⟨Int.le_refl _, h3.1, by simp⟩
    · rintro ⟨d, i⟩ ⟨i0, i1, i2⟩
      dsimp only at i0 i1 i2 ⊢
      have hb := rmul_bd h1 (show i.toNat ≤ 12 by omega)
      by_cases hi : i < r.2.2.1
      · by_cases hd : d < r.2.1
        · left
          rw [decide_eq_true hi, decide_eq_true hd, Bool.true_and, cond_true]
          refine ⟨_, rfl, ⟨?_, ?_, ?_⟩, ?_⟩
          · dsimp only; rw [wrap64_in (by unfold inR; omega)]; omega
          · dsimp only; rw [wrap64_in (by unfold inR; omega)]; omega
          · dsimp only
            rw [wrap64_in (n := 2 * d) (by unfold inR; omega), wrap64_in (n := i + 1) (by unfold inR; omega), show (i + 1).toNat = i.toNat + 1 by omega, Int.pow_succ, i2, ← Int.mul_assoc r.1, Int.mul_comm 2]
          · dsimp only; rw [wrap64_in (by unfold inR; omega)]; omega
        · right
          rw [decide_eq_false hd, Bool.and_false, cond_false]
          have hy : ∀ y, y = r.2.1 → (Option.map Sum.inr (cond ((!MayD r n) || (decide (IntKind.wrap .i64 (1000000 - y) < n))) (some ((r.1, r.2.1, r.2.2.1, r.2.2.2), false)) (some ((r.1, r.2.1, IntKind.wrap .i64 (r.2.2.1 + 1), IntKind.wrap .i64 (n + y)), true)) : Option (D_Retry × Bool)) : Option ((Int × Int) ⊕ (D_Retry × Bool))) = some (.inr (FailD r n)) := by
            intro y hy
            rw [fail_end h y ?_]; · rfl
            have := mul_mono h1.1 (show i.toNat ≤ r.2.2.1.toNat by omega)
            unfold dly; rw [if_neg (by omega)]; exact hy
          by_cases hc : r.2.1 < d
          · rw [decide_eq_true hc]; exact hy _ rfl
          · rw [decide_eq_false hc]; exact hy _ (by omega)
      · right
        rw [decide_eq_false hi, Bool.false_and, cond_false]
        have e : i = r.2.2.1 := by omega
        subst e
        have hy : ∀ y, y = dly r.1 r.2.1 r.2.2.1.toNat → (Option.map Sum.inr (cond ((!MayD r n) || (decide (IntKind.wrap .i64 (1000000 - y) < n))) (some ((r.1, r.2.1, r.2.2.1, r.2.2.2), false)) (some ((r.1, r.2.1, IntKind.wrap .i64 (r.2.2.1 + 1), IntKind.wrap .i64 (n + y)), true)) : Option (D_Retry × Bool)) : Option ((Int × Int) ⊕ (D_Retry × Bool))) = some (.inr (FailD r n)) := by
          intro y hy
          rw [fail_end h y hy]; rfl
        by_cases hc : r.2.1 < d
        · rw [decide_eq_true hc]; exact hy _ (by unfold dly; rw [if_neg (by omega)])
        · rw [decide_eq_false hc]
          refine hy _ ?_
          unfold dly
          by_cases hq : r.1 * 2 ^ r.2.2.1.toNat < r.2.1
          · rw [if_pos hq]; exact i2
          · rw [if_neg hq]; omega
  · rw [decide_eq_false h, Bool.not_false, cond_true]
    unfold FailD
    rw [if_neg h]
theorem i_RetryGood_eq (r : D_Retry) (h : RtOk r) : i_RetryGood r = some (r.1, r.2.1, 0, 0) := by
  unfold i_RetryGood
  simp only [Prod.eta, i_RetryOk_eq, Option.bind_some, decide_eq_true h]
  rfl
theorem s_l24Some_ok {d : D_l1Cur} (h : CurOk d) : ∃ r d', s_l24Some d = some (r, d') ∧ CurOk d' := by
  unfold s_l24Some
  simp only [Prod.eta, Option.bind_some]
  obtain ⟨y1, d1, e1, _, c1⟩ := below_ok h 5
  rw [e1, Option.bind_some]; dsimp only
  obtain ⟨y2, d2, e2, _, c2⟩ := below_ok c1 90
  rw [e2, Option.bind_some]; dsimp only
  obtain ⟨y3, d3, e3, g3, c3⟩ := below_ok c2 14
  rw [e3, Option.bind_some]; dsimp only
  refine (fun ⟨r, hr, hq⟩ => ⟨r.1, r.2, hr, hq⟩ : (∃ r : D_Retry × D_l1Cur, _ = some r ∧ CurOk r.2) → _) (whileP_rule (fun s : Int × Int × Int × Int × Int × Int × Int => 0 ≤ s.1 ∧ s.1 ≤ 14 ∧ CurOk (d3.1, s.2.1, s.2.2.1)) (fun s => s.1.toNat) (fun r : D_Retry × D_l1Cur => CurOk r.2) ?_ (y3, d3.2.1, d3.2.2, IntKind.wrap .i64 (1 + y1), IntKind.wrap .i64 (10 + y2), 0, 0) ⟨g3.1, by have := g3.2.1 (by omega); dsimp only; omega, c3⟩)
  rintro ⟨k, p, q, r⟩ ⟨k0, k1, hc⟩
  dsimp only at k0 k1 hc ⊢
  by_cases hk : 0 < k
  · left
    rw [decide_eq_true hk, cond_true]
    obtain ⟨y6, d6, e6, _, c6, e61⟩ := below_ok' hc 5
    rw [e6, Option.bind_some]; dsimp only
    rw [s_RetryFail_eq, Option.bind_some]
    refine ⟨_, rfl, ⟨?_, ?_, ?_⟩, ?_⟩
    · dsimp only; rw [wrap64_in (by unfold inR; omega)]; omega
    · dsimp only; rw [wrap64_in (by unfold inR; omega)]; omega
    · dsimp only at e61 ⊢; rw [← e61]; exact c6
    · dsimp only; rw [wrap64_in (by unfold inR; omega)]; omega
  · right
    rw [decide_eq_false hk, cond_false]
    obtain ⟨y9, d9, e9, c9⟩ := once_ok hc 10
    rw [e9, Option.bind_some]; dsimp only
    cases y9 with
    | false => exact ⟨_, rfl, c9⟩
    | true =>
      rw [cond_true]
      obtain ⟨y11, d11, e11, _, c11⟩ := below_ok c9 4
      rw [e11, Option.bind_some]; dsimp only
      have hp : ∀ (l : List Int) (f : Int → D_Retry), 0 < l.length → ∃ a, Option.map Sum.inr (Option.bind (s_l1PickInt d11 l) fun y => some (f y.1, y.2)) = some (.inr a : (Int × Int × Int × Int × Int × Int × Int) ⊕ (D_Retry × D_l1Cur)) ∧ CurOk a.2 := fun l f hl => by
        obtain ⟨x, d', e, _, c⟩ := pickint_ok c11 hl
        rw [e]
        exact ⟨_, rfl, c⟩
      cases decide (y11 = 0)
      · cases decide (y11 = 1)
        · cases decide (y11 = 2)
          · exact hp [(-1), 1000000, 1000001] (fun x => (r.1, r.2.1, r.2.2.1, x)) (by decide)
          · exact hp [(-1), 11, 12, 13] (fun x => (r.1, r.2.1, x, r.2.2.2)) (by decide)
        · exact hp [0, 10000, 10001] (fun x => (r.1, x, r.2.2)) (by decide)
      · exact hp [0, 100, 101] (fun x => (x, r.2)) (by decide)
theorem draw_ok {l : List UInt8} (h : l.length ≤ 1048576) : ∃ r, s_DrawRetryFail l = some r := by
  unfold s_DrawRetryFail
  obtain ⟨d, e, c⟩ := new_ok h
  rw [e, Option.bind_some]
  simp only [Prod.eta, Option.bind_some]
  obtain ⟨r, d2, e2, c2⟩ := s_l24Some_ok c
  rw [e2, Option.bind_some]; dsimp only
  obtain ⟨y3, d3, e3, c3⟩ := once_ok c2 10
  rw [e3, Option.bind_some]; dsimp only
  cases y3 with
  | true =>
    obtain ⟨x, d', e, _, _⟩ := pickint_ok c3 (l := [1000000, 999990, 9223372036854775807]) (by decide)
    rw [cond_true, e]; exact ⟨_, rfl⟩
  | false =>
    obtain ⟨x, d', e, _, _⟩ := below_ok c3 5
    rw [cond_false, e]; exact ⟨_, rfl⟩
end Go.Proofs.SL
