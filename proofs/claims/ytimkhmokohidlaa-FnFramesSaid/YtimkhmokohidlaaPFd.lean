/- Frames read back. -/
import Derived.Test.YtimkhmokohidlaaPFc
namespace Go.Proofs.SL
open Go
/-- A frame stands in front of the text. -/
def Fr (x t : Bs) : Prop := x.length ≤ 200 ∧ frL x <+: t
theorem szL_pre {x y r s : Bs} (h : szL x ++ r = szL y ++ s) : x = y := by
  unfold szL at h
  rw [List.append_assoc, List.append_assoc] at h
  have hn := varL_pre _ _ _ _ h
  rw [hn] at h
  have := List.append_cancel_left h
  exact (List.append_inj this hn).1
theorem Fr_one {x y t : Bs} (hx : Fr x t) (hy : Fr y t) : x = y := by
  obtain ⟨_, r, hr⟩ := hx
  obtain ⟨_, s, hs⟩ := hy
  unfold frL at hr hs
  rw [← hs, List.append_assoc, List.append_assoc] at hr
  exact szL_pre (List.append_inj hr (by rw [be_len, be_len])).2
theorem ssl_drop {l : Bs} {a : Nat} (h : a ≤ l.length) {n : Int} (hn : n = (l.length : Int)) : sslP (strP l) (a : Int) n = some (strP (l.drop a)) := by
  subst hn
  rw [ssl_list h (Nat.le_refl _)]
  congr 2
  rw [List.take_of_length_le (by rw [List.length_drop]; omega)]
/-- Reading a text with its length in front. -/
theorem sz_read {l : Bs} {r : Int × Int} (h : RV l r) (hit : ∀ m t, m ≤ 200 → l = varL m ++ t → r.2 ≠ 0) :
    (r.2 = 0 ∧ ∀ x, x.length ≤ 200 → ¬ szL x <+: l) ∨ ∃ m k : Nat, r = ((m : Int), (k : Int)) ∧ 1 ≤ k ∧ k ≤ l.length ∧ varL m = l.take k ∧ m ≤ 562949953421311 ∧ ∀ x, x.length ≤ 200 → szL x <+: l → m ≤ (l.drop k).length ∧ x = (l.drop k).take m := by
  by_cases h0 : r.2 = 0
  · refine .inl ⟨h0, fun x hx ⟨s, hs⟩ => ?_⟩
    unfold szL at hs
    rw [List.append_assoc] at hs
    exact hit _ _ hx hs.symm h0
  · rcases h with h | ⟨m, k, rfl, hm, hk1, hk2, hv⟩
    · exact (h0 h).elim
    · refine .inr ⟨m, k, rfl, hk1, hk2, hv, hm, fun x hx ⟨s, hs⟩ => ?_⟩
      have e : l = varL m ++ l.drop k := by rw [hv, List.take_append_drop]
      unfold szL at hs
      rw [List.append_assoc] at hs
      have hn := varL_pre _ _ _ _ (hs.trans e)
      rw [hn] at hs
      have h2 := List.append_cancel_left (hs.trans e)
      rw [← h2, List.length_append, hn]
      refine ⟨by omega, ?_⟩
      rw [List.take_append_of_le_length (by omega), List.take_of_length_le (by omega)]
theorem szL_take {l : Bs} {m k : Nat} (hv : varL m = l.take k) (hm : m ≤ (l.drop k).length) : szL ((l.drop k).take m) = l.take (k + m) := by
  unfold szL
  rw [List.length_take, Nat.min_eq_left hm, hv, ← List.take_add]
/-- A frame stands in front exactly where reading says so. -/
theorem Fr_iff {x t : Bs} (h5 : 4 ≤ t.length) : Fr x t ↔ x.length ≤ 200 ∧ be 4 (crcN (szL x)) = t.take 4 ∧ szL x <+: t.drop 4 := by
  unfold Fr frL
  refine and_congr_right fun _ => ⟨fun ⟨s, hs⟩ => ?_, fun ⟨h1, s, hs⟩ => ⟨s, ?_⟩⟩
  · subst hs
    rw [List.append_assoc, List.take_append_of_le_length (by rw [be_len]; omega), List.drop_append_of_le_length (by rw [be_len]; omega)]
    rw [List.take_of_length_le (by rw [be_len]; omega), List.drop_of_length_le (by rw [be_len]; omega)]
    exact ⟨rfl, s, rfl⟩
  · rw [h1, List.append_assoc, hs, List.take_append_drop]
theorem i_scan_text_eq {l : Bs} (hl : l.length ≤ 1099511627776) : ∃ x bad, i_scan_text (strP l, false) = some (strP x, bad) ∧ (bad.2 = true ∧ (∀ y, y.length ≤ 200 → ¬ szL y <+: l) ∨ bad.2 = false ∧ szL x <+: l ∧ (∀ y, y.length ≤ 200 → szL y <+: l → y = x)) := by
  unfold i_scan_text i_scan_num
  obtain ⟨r, hr, hv⟩ := i_ReadVar_sound l
  have hit : ∀ m t, m ≤ 200 → l = varL m ++ t → r.2 ≠ 0 := fun m t hm e => by
    obtain ⟨r', h1, h2⟩ := i_ReadVar_hit (m := m) (t := t) hm
    rw [← e, hr] at h1; cases h1; exact h2
  rw [hr, Option.bind_some]
  rcases sz_read hv hit with ⟨h0, hno⟩ | ⟨m, k, rfl, hk1, hk2, hvm, hm, hall⟩
  · rw [decide_eq_true h0, Bool.false_or, cond_true, Option.bind_some]
    unfold i_scan_cut
    exact ⟨[], _, rfl, .inl ⟨rfl, hno⟩⟩
  · dsimp only
    rw [decide_eq_false (show ¬ (k : Int) = 0 by omega), Bool.false_or, cond_false, strP_size, ssl_drop hk2 rfl, Option.bind_some, Option.bind_some]
    unfold i_scan_cut
    dsimp only
    rw [Bool.not_false, gb_true, within_eq, Option.bind_some, strP_size, Bool.false_or]
    by_cases hmm : m ≤ (l.drop k).length
    · rw [show decide (0 ≤ (m : Int) ∧ (m : Int) ≤ ((l.drop k).length : Int)) = true from decide_eq_true (by omega), Bool.not_true, cond_false, ssl_take hmm, Option.bind_some, ssl_drop hmm rfl, Option.bind_some]
      refine ⟨(l.drop k).take m, _, rfl, .inr ⟨rfl, ?_, fun y hy hp => (hall y hy hp).2⟩⟩
      rw [szL_take hvm hmm]
      exact List.take_prefix _ _
    · rw [show decide (0 ≤ (m : Int) ∧ (m : Int) ≤ ((l.drop k).length : Int)) = false from decide_eq_false (by omega), Bool.not_false, cond_true]
      exact ⟨[], _, rfl, .inl ⟨rfl, fun y hy hp => hmm (hall y hy hp).1⟩⟩
theorem i_frameAt_eq {t : Bs} (ht : t.length ≤ 1099511627776) : (∃ x, i_frameAt (strP t) = some (strP x, true) ∧ Fr x t) ∨ (i_frameAt (strP t) = some (ByteArray.empty, false) ∧ ∀ x, ¬ Fr x t) := by
  unfold i_frameAt
  rw [strP_size]
  by_cases h5 : t.length < 5
  · rw [decide_eq_true (by omega), cond_true]
    refine .inr ⟨rfl, fun x ⟨h1, h2⟩ => ?_⟩
    have := (frL_len h1).1
    have := h2.length_le
    omega
  rw [decide_eq_false (by omega), cond_false]
  have hd : sslP (strP t) 4 (t.length : Int) = some (strP (t.drop 4)) := ssl_drop (a := 4) (by omega) rfl
  rw [hd, Option.bind_some]
  obtain ⟨x, bad, h1, h2⟩ := i_scan_text_eq (l := t.drop 4) (by rw [List.length_drop]; omega)
  rw [h1, Option.bind_some, i_Frame_eq, Option.bind_some]
  dsimp only
  rcases h2 with ⟨h2, h3⟩ | ⟨h2, h3, h4⟩
  · rw [h2, Bool.true_or, Bool.true_or, Bool.not_true, gb_false, Bool.true_or, cond_true]
    exact .inr ⟨rfl, fun y hy => h3 y hy.1 ((Fr_iff (by omega)).1 hy).2.2⟩
  · rw [h2, Bool.false_or]
    have hno : ∀ y, Fr y t → y = x := fun y hy => h4 y hy.1 ((Fr_iff (by omega)).1 hy).2.2
    by_cases h200 : 200 < x.length
    · rw [show frameL x = [] by unfold frameL; rw [if_pos h200], decide_eq_true (by rfl), Bool.true_or, Bool.not_true, gb_false, Bool.true_or, cond_true]
      exact .inr ⟨rfl, fun y hy => by have := hno y hy; subst this; have := hy.1; omega⟩
    · have hfl := frL_len (x := x) (by omega)
      rw [show frameL x = frL x by unfold frameL; rw [if_neg h200], strP_size, decide_eq_false (by rw [strP_nil, strP_inj]; intro e; rw [e] at hfl; simp at hfl), Bool.false_or]
      by_cases hsz : t.length < (frL x).length
      · rw [decide_eq_true (by omega), Bool.not_true, gb_false, Bool.true_or, cond_true]
        refine .inr ⟨rfl, fun y hy => ?_⟩
        have := hno y hy; subst this
        have := hy.2.length_le; omega
      · rw [decide_eq_false (by omega), Bool.not_false, gb_true, ssl_take (by omega), Option.bind_some, Bool.false_or]
        by_cases he : t.take (frL x).length = frL x
        · rw [he, decide_eq_true rfl, Bool.not_true, cond_false]
          exact .inl ⟨x, rfl, by omega, by rw [← he]; exact List.take_prefix _ _⟩
        · rw [decide_eq_false (by rw [strP_inj]; exact he), Bool.not_false, cond_true]
          refine .inr ⟨rfl, fun y hy => ?_⟩
          have := hno y hy; subst this
          exact he (List.prefix_iff_eq_take.1 hy.2).symm
end Go.Proofs.SL
