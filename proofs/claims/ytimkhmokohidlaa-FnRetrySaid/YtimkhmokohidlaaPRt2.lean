/- The law of trying again answers true. -/
import Derived.Test.YtimkhmokohidlaaPRt
namespace Go.Proofs.SL
open Go
abbrev RtS := Int × Int × Int × Int × Int × Int × Int × Int
/-- What holds at the head of each round: now, the last delay, the count of tries, the round, the state. -/
def RtI (s : RtS) : Prop := 2 ≤ s.2.2.2.1 ∧ s.2.2.2.1 ≤ 60 ∧ 0 ≤ s.1 ∧ s.1 ≤ 39 * s.2.2.2.1 ∧ s.2.2.1 = s.2.2.2.2.2.2.1 ∧ RtOk s.2.2.2.2 ∧ s.2.2.2.2.1 ≤ 9 ∧ s.2.2.2.2.2.1 ≤ 99 ∧ s.2.1 ≤ dly s.2.2.2.2.1 s.2.2.2.2.2.1 s.2.2.2.2.2.2.1.toNat
theorem failD_ok {r : D_Retry} {n : Int} (h : RtOk r) (hc : r.2.1 ≤ 99) (h0 : 0 ≤ n) (h1 : n ≤ 3000) :
    (MayD r n = true ∧ FailD r n = ((r.1, r.2.1, r.2.2.1 + 1, n + dly r.1 r.2.1 r.2.2.1.toNat), true) ∧ RtOk (r.1, r.2.1, r.2.2.1 + 1, n + dly r.1 r.2.1 r.2.2.1.toNat)) ∨ (MayD r n = false ∧ FailD r n = (r, false)) := by
  unfold FailD
  rw [if_pos h]
  obtain ⟨g1, g2, g3, g4⟩ := h
  have hd := dly_bd g1 g2 (show r.2.2.1.toNat ≤ 12 by omega)
  cases hm : MayD r n with
  | false => exact .inr ⟨rfl, rfl⟩
  | true =>
    have hm2 : r.2.2.1 < 12 := by unfold MayD at hm; simp only [Bool.and_eq_true, decide_eq_true_eq] at hm; exact hm.1.2
    refine .inl ⟨rfl, by rw [decide_eq_false (by omega)]; rfl, ⟨g1, g2, ?_, ?_⟩⟩ <;> (dsimp only; omega)
theorem fnRetry_true (l : List UInt8) : w_FnRetry l = some true := by
  unfold w_FnRetry w_big
  rw [Option.bind_some]
  by_cases hl : 1048576 < (l.length : Int)
  · rw [decide_eq_true hl, cond_true]
  rw [decide_eq_false hl, cond_false]
  have hl : l.length ≤ 1048576 := by omega
  obtain ⟨y3, e3, g3⟩ := at_ok hl (show (0 : Int) ≤ 0 by omega) (by omega)
  obtain ⟨y4, e4, g4⟩ := at_ok hl (show (0 : Int) ≤ 1 by omega) (by omega)
  rw [e3, Option.bind_some, e4, Option.bind_some]
  have m3 := tmod_lt g3 (show (0 : Int) < 9 by omega)
  have m4 := tmod_lt g4 (show (0 : Int) < 80 by omega)
  rw [wrap64_in (n := 1 + y3.tmod 9) (by unfold inR; omega), wrap64_in (n := 20 + y4.tmod 80) (by unfold inR; omega)]
  generalize y3.tmod 9 = b0 at m3 ⊢
  generalize y4.tmod 80 = c0 at m4 ⊢
  refine whileP_is RtI (fun s => (60 - s.2.2.2.1).toNat) ?_ ⟨by dsimp only; omega, by dsimp only; omega, by dsimp only; omega, by dsimp only; omega, rfl, ⟨⟨by dsimp only; omega, by dsimp only; omega⟩, ⟨by dsimp only; omega, by dsimp only; omega⟩, ⟨by dsimp only; omega, by dsimp only; omega⟩, ⟨by dsimp only; omega, by dsimp only; omega⟩⟩, by dsimp only; omega, by dsimp only; omega, ?_⟩
  · rintro ⟨now, last, n, i, r⟩ ⟨i0, i1, n0, n1, hn, hr, hb, hc, hla⟩
    dsimp only at i0 i1 n0 n1 hn hr hb hc hla ⊢
    by_cases hi : i < 60
    · rw [decide_eq_true hi, cond_true]
      obtain ⟨y7, e7, g7⟩ := at_ok hl (show 0 ≤ i by omega) (by omega)
      have m7 := tmod_lt g7 (show (0 : Int) < 40 by omega)
      rw [e7, Option.bind_some]
      simp only [Prod.eta, i_RetryMay_eq, i_RetryFail_eq, Option.bind_some]
      rw [wrap64_in (n := now + y7.tmod 40) (by unfold inR; omega)]
      generalize hnow : now + y7.tmod 40 = now'
      have w0 : 0 ≤ now' := by omega
      have w1 : now' ≤ 39 * (i + 1) := by omega
      have hrr := hr
      obtain ⟨b, c, t, x⟩ := r
      obtain ⟨q1, q2, q3, q4⟩ := hrr
      dsimp only at q1 q2 q3 q4 hn hb hc hla ⊢
      have hd := dly_bd q1 q2 (show t.toNat ≤ 12 by omega)
      have hw : IntKind.wrap .i64 (i + 1) = i + 1 := wrap64_in (by unfold inR; omega)
      left
      -- the end of a round
      have fin : ∀ (la t' x' : Int), RtOk (b, c, t', x') → la ≤ dly b c t'.toNat →
          ∃ s', (cond (decide (y7.tmod 23 = 0)) (Option.bind (i_RetryGood (b, c, t', x')) (fun y16 => gb (!(decide ((12 : Int) < 0))) (s_RetryOk y16) (fun y17 => cond ((decide ((12 : Int) < 0)) || (!y17)) (Option.map .inr (some false)) (some (.inl ((now', (0 : Int), (0 : Int), i + 1, y16) : RtS))))))
            (gb (!(decide (12 < t'))) (s_RetryOk (b, c, t', x')) (fun y20 => cond ((decide (12 < t')) || (!y20)) (Option.map .inr (some false)) (some (.inl ((now', la, t', i + 1, b, c, t', x') : RtS))))) : Option (RtS ⊕ Bool)) = some (.inl s') ∧ RtI s' ∧ (60 - s'.2.2.2.1).toNat < (60 - i).toNat := by
        intro la t' x' hok hle
        cases decide (y7.tmod 23 = 0) with
        | true =>
          have hok2 : RtOk (b, c, 0, 0) := ⟨q1, q2, ⟨by dsimp only; omega, by dsimp only; omega⟩, ⟨by dsimp only; omega, by dsimp only; omega⟩⟩
          rw [cond_true, i_RetryGood_eq _ hok, Option.bind_some]
          dsimp only
          rw [show (!(decide ((12 : Int) < 0))) = true from rfl, gb_true, s_RetryOk_eq, Option.bind_some, decide_eq_true hok2]
          refine ⟨_, rfl, ⟨by dsimp only; omega, by dsimp only; omega, w0, w1, rfl, hok2, hb, hc, ?_⟩, by dsimp only; omega⟩
          have := dly_bd q1 q2 (t := (0 : Int).toNat) (by decide)
          dsimp only; omega
        | false =>
          have ht := hok.2.2.1
          dsimp only at ht
          rw [cond_false, show decide (12 < t') = false from decide_eq_false (by omega), Bool.not_false, gb_true, s_RetryOk_eq, Option.bind_some, decide_eq_true hok]
          exact ⟨_, rfl, ⟨by dsimp only; omega, by dsimp only; omega, w0, w1, rfl, hok, hb, hc, hle⟩, by dsimp only; omega⟩
      rw [hw]
      rcases failD_ok (r := (b, c, t, x)) (n := now') hr hc w0 (by omega) with ⟨f1, f2, f3⟩ | ⟨f1, f2⟩
      · dsimp only at f2 f3
        rw [f1, f2]
        dsimp only
        rw [wrap64_in (n := now' + dly b c t.toNat - now') (by unfold inR; omega), wrap64_in (n := t + 1) (by unfold inR; omega), wrap64_in (n := n + 1) (by unfold inR; omega), show now' + dly b c t.toNat - now' = dly b c t.toNat by omega]
        rw [show decide (dly b c t.toNat < last) = false from decide_eq_false (by omega), show decide (c < dly b c t.toNat) = false from decide_eq_false (by omega), show decide (t + 1 = t + 1) = true from decide_eq_true rfl]
        subst hn
        exact fin (dly b c n.toNat) (n + 1) _ f3 (dly_mono q1.1 (by omega))
      · rw [f1, f2]
        dsimp only
        subst hn
        simp only [beq_self_eq_true, decide_true, Bool.and_true, Bool.not_true, Bool.false_and, Bool.or_false, Bool.and_false, cond_false]
        exact fin last n x hr hla
    · right
      rw [decide_eq_false hi, cond_false]
      obtain ⟨y24, e24⟩ := draw_ok hl
      rw [e24]
      simp only [Prod.eta, Option.bind_some, i_RetryFail_eq, s_RetryFail_eq]
      simp
  · have := dly_bd (b := 1 + b0) (c := 20 + c0) (t := (0 : Int).toNat) (by omega) (by omega) (by decide)
    dsimp only; omega
end Go.Proofs.SL
