/- Draws always answer: the cursor, bytes, numbers below a bound, texts. -/
import Derived.Test.YtndhmnoehapdhaaDoorWCm
import Derived.Test.YtndhmnoehapdhaaDoorP0
namespace Go.Proofs.SL
open Go
def CurOk (d : D_l1Cur) : Prop := 0 ≤ d.2.1 ∧ d.2.1 ≤ (d.1.length : Int) ∧ d.1.length ≤ 4611686018427387904
theorem and255i (x : Int) : 0 ≤ bits .and .i64 x 255 ∧ bits .and .i64 x 255 ≤ 255 := and_mask x 255 (by omega)
theorem byte_ok {d : D_l1Cur} (h : CurOk d) : ∃ n d', s_l1Byte d = some (n, d') ∧ (0 ≤ n ∧ n ≤ 255) ∧ CurOk d' ∧ d'.1 = d.1 := by
  obtain ⟨b, i, q⟩ := d
  obtain ⟨h1, h2, h3⟩ := h
  dsimp only at h1 h2 h3
  unfold s_l1Byte
  dsimp only
  by_cases hi : i < (b.length : Int)
  · obtain ⟨k, rfl⟩ := Int.eq_ofNat_of_zero_le h1
    have hk : b[k]? = some (b[k]'(by omega)) := List.getElem?_eq_getElem _
    rw [decide_eq_true hi, cond_true, idx_nat, hk]
    refine ⟨_, _, rfl, and255i _, ⟨?_, ?_, h3⟩, rfl⟩
    · dsimp only; rw [wrap_succ (by omega)]; omega
    · dsimp only; rw [wrap_succ (by omega)]; omega
  · rw [decide_eq_false hi, cond_false]
    exact ⟨_, _, rfl, and255i _, ⟨h1, h2, h3⟩, rfl⟩
theorem tmod_lt {a n : Int} (h : 0 ≤ a) (hn : 0 < n) : 0 ≤ a.tmod n ∧ a.tmod n < n := by
  rw [Int.tmod_eq_emod_of_nonneg h]
  exact ⟨Int.emod_nonneg _ (by omega), Int.emod_lt_of_pos _ hn⟩
theorem below_ok {d : D_l1Cur} (h : CurOk d) (n : Int) : ∃ x d', s_l1Below d n = some (x, d') ∧ (0 ≤ x ∧ (0 < n → x < n) ∧ (n ≤ 0 → x = 0)) ∧ CurOk d' := by
  unfold s_l1Below
  simp only [Prod.eta]
  by_cases h0 : n ≤ 0
  · rw [decide_eq_true h0, cond_true]
    exact ⟨_, _, rfl, ⟨Int.le_refl _, fun h => by omega, fun _ => rfl⟩, h⟩
  · rw [decide_eq_false h0, cond_false]
    have hr : ∀ a, 0 ≤ a → ∃ x, remP a n = some x ∧ (0 ≤ x ∧ (0 < n → x < n) ∧ (n ≤ 0 → x = 0)) := fun a ha => by
      have := tmod_lt ha (show 0 < n by omega)
      exact ⟨_, by unfold remP; rw [if_neg (by omega)], this.1, fun _ => this.2, fun h => by omega⟩
    by_cases h1 : n ≤ 256
    · rw [decide_eq_true h1, cond_true]
      obtain ⟨y, d1, e1, g1, c1, _⟩ := byte_ok h
      obtain ⟨x, ex, gx⟩ := hr y g1.1
      rw [e1, Option.bind_some]
      dsimp only
      rw [ex]
      exact ⟨x, d1, rfl, gx, c1⟩
    · rw [decide_eq_false h1, cond_false]
      obtain ⟨y1, d1, e1, g1, c1, _⟩ := byte_ok h
      obtain ⟨y2, d2, e2, g2, c2, _⟩ := byte_ok c1
      obtain ⟨y3, d3, e3, g3, c3, _⟩ := byte_ok c2
      obtain ⟨y4, d4, e4, g4, c4, _⟩ := byte_ok c3
      simp only [e1, e2, e3, e4, Option.bind_some]
      obtain ⟨x, ex, gx⟩ := hr (IntKind.wrap .i64 (IntKind.wrap .i64 (IntKind.wrap .i64 (IntKind.wrap .i64 (y1 * 16777216) + IntKind.wrap .i64 (y2 * 65536)) + IntKind.wrap .i64 (y3 * 256)) + y4)) (by
        rw [wrap64_in (n := y1 * 16777216) (by unfold inR; omega), wrap64_in (n := y2 * 65536) (by unfold inR; omega), wrap64_in (n := y3 * 256) (by unfold inR; omega), wrap64_in (n := y1 * 16777216 + y2 * 65536) (by unfold inR; omega), wrap64_in (n := y1 * 16777216 + y2 * 65536 + y3 * 256) (by unfold inR; omega), wrap64_in (by unfold inR; omega)]
        omega)
      rw [ex]
      exact ⟨x, d4, rfl, gx, c4⟩
theorem below_ok' {d : D_l1Cur} (h : CurOk d) (n : Int) : ∃ x d', s_l1Below d n = some (x, d') ∧ (0 ≤ x ∧ (0 < n → x < n) ∧ (n ≤ 0 → x = 0)) ∧ CurOk d' ∧ d'.1 = d.1 := by
  unfold s_l1Below
  simp only [Prod.eta]
  by_cases h0 : n ≤ 0
  · rw [decide_eq_true h0, cond_true]
    exact ⟨_, _, rfl, ⟨Int.le_refl _, fun h => by omega, fun _ => rfl⟩, h, rfl⟩
  · rw [decide_eq_false h0, cond_false]
    have hr : ∀ a, 0 ≤ a → ∃ x, remP a n = some x ∧ (0 ≤ x ∧ (0 < n → x < n) ∧ (n ≤ 0 → x = 0)) := fun a ha => by
      have := tmod_lt ha (show 0 < n by omega)
      exact ⟨_, by unfold remP; rw [if_neg (by omega)], this.1, fun _ => this.2, fun h => by omega⟩
    by_cases h1 : n ≤ 256
    · rw [decide_eq_true h1, cond_true]
      obtain ⟨y, d1, e1, g1, c1, f1⟩ := byte_ok h
      obtain ⟨x, ex, gx⟩ := hr y g1.1
      rw [e1, Option.bind_some]
      dsimp only
      rw [ex]
      exact ⟨x, d1, rfl, gx, c1, f1⟩
    · rw [decide_eq_false h1, cond_false]
      obtain ⟨y1, d1, e1, g1, c1, f1⟩ := byte_ok h
      obtain ⟨y2, d2, e2, g2, c2, f2⟩ := byte_ok c1
      obtain ⟨y3, d3, e3, g3, c3, f3⟩ := byte_ok c2
      obtain ⟨y4, d4, e4, g4, c4, f4⟩ := byte_ok c3
      simp only [e1, e2, e3, e4, Option.bind_some]
      obtain ⟨x, ex, gx⟩ := hr (IntKind.wrap .i64 (IntKind.wrap .i64 (IntKind.wrap .i64 (IntKind.wrap .i64 (y1 * 16777216) + IntKind.wrap .i64 (y2 * 65536)) + IntKind.wrap .i64 (y3 * 256)) + y4)) (by
        rw [wrap64_in (n := y1 * 16777216) (by unfold inR; omega), wrap64_in (n := y2 * 65536) (by unfold inR; omega), wrap64_in (n := y3 * 256) (by unfold inR; omega), wrap64_in (n := y1 * 16777216 + y2 * 65536) (by unfold inR; omega), wrap64_in (n := y1 * 16777216 + y2 * 65536 + y3 * 256) (by unfold inR; omega), wrap64_in (by unfold inR; omega)]
        omega)
      rw [ex]
      exact ⟨x, d4, rfl, gx, c4, by rw [f4, f3, f2, f1]⟩
theorem once_ok {d : D_l1Cur} (h : CurOk d) (n : Int) : ∃ x d', s_l1Once d n = some (x, d') ∧ CurOk d' := by
  unfold s_l1Once
  simp only [Prod.eta]
  obtain ⟨x, d', e, _, c⟩ := below_ok h n
  rw [e]
  exact ⟨_, d', rfl, c⟩
theorem u8P_wrap (z : Int) : ∃ b, u8P (IntKind.wrap .u8 z) = some b := by
  rw [IntKind.wrap_u8]
  exact ⟨_, if_pos ⟨Int.emod_nonneg _ (by omega), Int.emod_lt_of_pos _ (by omega)⟩⟩
theorem text_ok {d : D_l1Cur} (h : CurOk d) {n : Int} (h0 : 0 ≤ n) (hn : n ≤ 1000000) : ∃ s d', s_l1Text d n = some (s, d') ∧ (s.size : Int) ≤ n ∧ CurOk d' := by
  unfold s_l1Text
  simp only [Prod.eta, Option.bind_some]
  obtain ⟨y3, d3, e3, _, c3⟩ := below_ok h 4
  rw [e3, Option.bind_some]
  dsimp only
  rw [wrap64_in (by unfold inR; omega)]
  obtain ⟨y4, d4, e4, g4, c4⟩ := below_ok c3 (n + 1)
  rw [e4, Option.bind_some]
  dsimp only
  have hy := g4.2.1 (by omega)
  refine (fun ⟨r, hr, hq⟩ => ⟨r.1, r.2, hr, hq⟩ : (∃ r : ByteArray × D_l1Cur, _ = some r ∧ ((r.1.size : Int) ≤ n ∧ CurOk r.2)) → _) (whileP_rule (fun s : List UInt8 × Int × Int × Int => 0 ≤ s.2.1 ∧ (s.1.length : Int) + s.2.1 ≤ n ∧ CurOk (d4.1, s.2.2.1, s.2.2.2)) (fun s => s.2.1.toNat) _ ?_ ([], y4, d4.2.1, d4.2.2) ⟨g4.1, by simp; omega, c4⟩)
  · rintro ⟨out, k, i, q⟩ ⟨h1, h2, h3⟩
    dsimp only at h1 h2 h3 ⊢
    by_cases hk : 0 < k
    · left
      obtain ⟨y7, d7, e7, g7, c7, e71⟩ := byte_ok h3
      simp only [decide_eq_true hk, cond_true, e7, Option.bind_some]
      have ho : ∀ b : UInt8, appP out [b] = some (out ++ [b]) := fun b => appP_ok (by simp; omega)
      have hfin : ∀ b : UInt8, 0 ≤ IntKind.wrap .i64 (k - 1) ∧ (((out ++ [b]).length : Nat) : Int) + IntKind.wrap .i64 (k - 1) ≤ n ∧ CurOk (d4.1, d7.2.1, d7.2.2) := fun b => by
        rw [wrap64_in (by unfold inR; omega), List.length_append]
        refine ⟨by omega, by simp; omega, ?_⟩
        have := c7
        unfold CurOk at this ⊢
        dsimp only at e71 ⊢
        rw [e71] at this
        exact this
      have hm : (IntKind.wrap .i64 (k - 1)).toNat < k.toNat := by rw [wrap64_in (by unfold inR; omega)]; omega
      have fin : ∀ z : Int, ∃ s', (Option.bind (u8P (IntKind.wrap .u8 z)) fun y => Option.bind (appP out [y]) fun y' => some (Sum.inl (β := ByteArray × D_l1Cur) (y', IntKind.wrap .i64 (k - 1), d7.2.1, d7.2.2))) = some (.inl s') ∧ (0 ≤ s'.2.1 ∧ (s'.1.length : Int) + s'.2.1 ≤ n ∧ CurOk (d4.1, s'.2.2.1, s'.2.2.2)) ∧ s'.2.1.toNat < k.toNat := fun z => by
        obtain ⟨b, hb⟩ := u8P_wrap z
        rw [hb, Option.bind_some, ho, Option.bind_some]
        exact ⟨_, rfl, hfin b, hm⟩
      cases decide (y3 = 1) <;> cases decide (y3 = 2) <;> exact fin _
    · right
      simp only [decide_eq_false hk, cond_false]
      refine ⟨_, rfl, ?_, h3⟩
      dsimp only
      show ((out.length : Nat) : Int) ≤ n
      omega
theorem text_ok' {d : D_l1Cur} (h : CurOk d) {n : Int} (h0 : 0 ≤ n) (hn : n ≤ 1000000) : ∃ s d', s_l1Text d n = some (s, d') ∧ (s.size : Int) ≤ n ∧ CurOk d' ∧ d'.1 = d.1 := by
  unfold s_l1Text
  simp only [Prod.eta, Option.bind_some]
  obtain ⟨y3, d3, e3, _, c3, f3⟩ := below_ok' h 4
  rw [e3, Option.bind_some]
  dsimp only
  rw [wrap64_in (by unfold inR; omega)]
  obtain ⟨y4, d4, e4, g4, c4, f4⟩ := below_ok' c3 (n + 1)
  rw [e4, Option.bind_some]
  dsimp only
  have hy := g4.2.1 (by omega)
  refine (fun ⟨r, hr, hq⟩ => ⟨r.1, r.2, hr, hq⟩ : (∃ r : ByteArray × D_l1Cur, _ = some r ∧ ((r.1.size : Int) ≤ n ∧ CurOk r.2 ∧ r.2.1 = d.1)) → _) (whileP_rule (fun s : List UInt8 × Int × Int × Int => 0 ≤ s.2.1 ∧ (s.1.length : Int) + s.2.1 ≤ n ∧ CurOk (d4.1, s.2.2.1, s.2.2.2)) (fun s => s.2.1.toNat) _ ?_ ([], y4, d4.2.1, d4.2.2) ⟨g4.1, by simp; omega, c4⟩)
  · rintro ⟨out, k, i, q⟩ ⟨h1, h2, h3⟩
    dsimp only at h1 h2 h3 ⊢
    by_cases hk : 0 < k
    · left
      obtain ⟨y7, d7, e7, g7, c7, e71⟩ := byte_ok h3
      simp only [decide_eq_true hk, cond_true, e7, Option.bind_some]
      have ho : ∀ b : UInt8, appP out [b] = some (out ++ [b]) := fun b => appP_ok (by simp; omega)
      have hfin : ∀ b : UInt8, 0 ≤ IntKind.wrap .i64 (k - 1) ∧ (((out ++ [b]).length : Nat) : Int) + IntKind.wrap .i64 (k - 1) ≤ n ∧ CurOk (d4.1, d7.2.1, d7.2.2) := fun b => by
        rw [wrap64_in (by unfold inR; omega), List.length_append]
        refine ⟨by omega, by simp; omega, ?_⟩
        have := c7
        unfold CurOk at this ⊢
        dsimp only at e71 ⊢
        rw [e71] at this
        exact this
      have hm : (IntKind.wrap .i64 (k - 1)).toNat < k.toNat := by rw [wrap64_in (by unfold inR; omega)]; omega
      have fin : ∀ z : Int, ∃ s', (Option.bind (u8P (IntKind.wrap .u8 z)) fun y => Option.bind (appP out [y]) fun y' => some (Sum.inl (β := ByteArray × D_l1Cur) (y', IntKind.wrap .i64 (k - 1), d7.2.1, d7.2.2))) = some (.inl s') ∧ (0 ≤ s'.2.1 ∧ (s'.1.length : Int) + s'.2.1 ≤ n ∧ CurOk (d4.1, s'.2.2.1, s'.2.2.2)) ∧ s'.2.1.toNat < k.toNat := fun z => by
        obtain ⟨b, hb⟩ := u8P_wrap z
        rw [hb, Option.bind_some, ho, Option.bind_some]
        exact ⟨_, rfl, hfin b, hm⟩
      cases decide (y3 = 1) <;> cases decide (y3 = 2) <;> exact fin _
    · right
      simp only [decide_eq_false hk, cond_false]
      refine ⟨_, rfl, ?_, h3, by dsimp only; rw [f4, f3]⟩
      dsimp only
      show ((out.length : Nat) : Int) ≤ n
      omega
theorem new_ok {l : List UInt8} (h : l.length ≤ 1048576) : ∃ d, s_l1New l = some d ∧ CurOk d := by
  unfold s_l1New
  refine whileP_rule (fun s : Int × Int => 0 ≤ s.2 ∧ s.2 ≤ (l.length : Int)) (fun s => (l.length - s.2.toNat)) (fun d : D_l1Cur => CurOk d) ?_ (IntKind.wrap .i64 (10101 + (l.length : Int)), 0) ⟨by simp, by simp⟩
  · rintro ⟨q, i⟩ ⟨h1, h2⟩
    dsimp only at h1 h2 ⊢
    by_cases hi : i < (l.length : Int)
    · rw [decide_eq_true hi, Bool.true_and]
      by_cases h4 : i < 4000
      · left
        obtain ⟨k, rfl⟩ := Int.eq_ofNat_of_zero_le h1
        have hk : l[k]? = some (l[k]'(by omega)) := List.getElem?_eq_getElem _
        rw [decide_eq_true h4, cond_true, idx_nat, hk]
        refine ⟨_, rfl, ?_, ?_⟩
        · dsimp only; rw [wrap_succ (by omega)]; omega
        · dsimp only; rw [wrap_succ (by omega)]; omega
      · right
        rw [decide_eq_false h4, cond_false]
        exact ⟨_, rfl, by dsimp only; simp, by dsimp only; simp, by dsimp only; omega⟩
    · right
      rw [decide_eq_false hi, Bool.false_and, cond_false]
      exact ⟨_, rfl, by dsimp only; simp, by dsimp only; simp, by dsimp only; omega⟩
end Go.Proofs.SL
