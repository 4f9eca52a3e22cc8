/- The law of frames answers true. -/
import Derived.Test.YtimkhmokohidlaaPFe
namespace Go.Proofs.SL
open Go
theorem frameL_len (x : Bs) : (frameL x).length ≤ 211 := by
  unfold frameL
  split
  · simp
  · exact (frL_len (by omega)).2
theorem drawFr_ok {l : Bs} (h : l.length ≤ 1048576) : ∃ t : Bs, s_DrawUnframe l = some (strP t) ∧ t.length ≤ 1000000000 := by
  suffices ∃ t : ByteArray, s_DrawUnframe l = some t ∧ t.size ≤ 1000000000 by
    obtain ⟨t, ht, hs⟩ := this
    obtain ⟨q, rfl⟩ := str_list t
    exact ⟨q, ht, hs⟩
  unfold s_DrawUnframe
  obtain ⟨d, e, c⟩ := new_ok h
  rw [e, Option.bind_some]
  simp only [Prod.eta]
  obtain ⟨y2, d2, e2, g2, c2⟩ := below_ok c 6
  rw [e2, Option.bind_some]; dsimp only
  have g2' := g2.2.1 (by omega)
  refine whileP_rule (fun s : ByteArray × Int × Int × Int => 0 ≤ s.2.1 ∧ s.2.1 ≤ 6 ∧ (s.1.size : Int) + 1000 * s.2.1 ≤ 6000 ∧ CurOk (d2.1, s.2.2.1, s.2.2.2)) (fun s => s.2.1.toNat) (fun t : ByteArray => t.size ≤ 1000000000) ?_ (ByteArray.empty, y2, d2.2.1, d2.2.2) ⟨g2.1, by dsimp only; omega, by show (0 : Int) + 1000 * y2 ≤ 6000; omega, c2⟩
  rintro ⟨s, k, p, q⟩ ⟨k0, k1, k2, hc⟩
  dsimp only at k0 k1 k2 hc ⊢
  by_cases hk : 0 < k
  · left
    rw [decide_eq_true hk, cond_true]
    obtain ⟨x, d5, e5, g5, c5, f5⟩ := text_ok' hc (n := 8) (by omega) (by omega)
    rw [e5, Option.bind_some]; dsimp only
    obtain ⟨q, rfl⟩ := str_list x
    have hf := frameL_len q
    rw [s_Frame_eq, Option.bind_some, catP_ok (by rw [strP_size]; omega), Option.bind_some, wrap64_in (n := k - 1) (by unfold inR; omega)]
    refine ⟨_, rfl, ⟨by dsimp only; omega, by dsimp only; omega, ?_, ?_⟩, by dsimp only; omega⟩
    · dsimp only; rw [ByteArray.size_append, strP_size]; omega
    · dsimp only at f5 ⊢; rw [← f5]; exact c5
  · right
    rw [decide_eq_false hk, cond_false]
    obtain ⟨y9, d9, e9, g9, c9⟩ := below_ok hc 5
    rw [e9, Option.bind_some]; dsimp only
    cases decide (y9 = 0) with
    | true =>
      obtain ⟨t, d', e, hs, _⟩ := spoil_ok c9 (s := s) (by omega)
      rw [cond_true, e]; exact ⟨_, rfl, by dsimp only; omega⟩
    | false =>
      rw [cond_false]
      cases decide (y9 = 1) with
      | true =>
        obtain ⟨x, d5, e5, g5, c5, _⟩ := text_ok' c9 (n := 9) (by omega) (by omega)
        rw [cond_true, e5, Option.bind_some, catP_ok (by dsimp only; omega)]
        exact ⟨_, rfl, by dsimp only; rw [ByteArray.size_append]; omega⟩
      | false =>
        rw [cond_false]
        cases decide (y9 = 2) with
        | true =>
          rw [cond_true, wrap64_in (by unfold inR; omega)]
          obtain ⟨x, d5, e5, g5, c5⟩ := below_ok c9 ((s.size : Int) + 1)
          rw [e5, Option.bind_some]; dsimp only
          have := g5.2.1 (by omega)
          rw [ssl_ok ⟨Int.le_refl _, g5.1, by omega⟩]
          exact ⟨_, rfl, by rw [ByteArray.size_extract]; omega⟩
        | false => exact ⟨_, rfl, by omega⟩
theorem at0_ok {l : Bs} (h : l.length ≤ 1048576) : ∃ x, w_at l 0 = some x ∧ 0 ≤ x := at_ok h (Int.le_refl _) (by omega)
theorem fnFrames_true (l : Bs) : w_FnFrames l = some true := by
  unfold w_FnFrames w_big
  rw [Option.bind_some]
  by_cases hl : 1048576 < (l.length : Int)
  · rw [decide_eq_true hl, cond_true]
  rw [decide_eq_false hl, cond_false]
  have hl : l.length ≤ 1048576 := by omega
  obtain ⟨t, e3, ht⟩ := drawFr_ok hl
  obtain ⟨ts, e, e4, hu⟩ := i_Unframe_eq ht
  obtain ⟨ts', e', e5, hu'⟩ := s_Unframe_eq ht
  obtain ⟨rfl, rfl⟩ := Un_uniq hu hu'
  have het := hu.2.2.1
  have hn : ts.length ≤ e := by
    have h1 := congrArg List.length hu.2.1
    rw [List.length_take, List.length_flatMap] at h1
    have h2 : ts.length ≤ (ts.map fun x => (frL x).length).sum := by
      have : ∀ (q : List Bs), (∀ x, x ∈ q → x.length ≤ 200) → q.length ≤ (q.map fun x => (frL x).length).sum := by
        intro q
        induction q with
        | nil => intro _; simp
        | cons y q ih =>
          intro hq
          have := ih fun x hx => hq x (List.mem_cons_of_mem _ hx)
          have := (frL_len (hq y (List.mem_cons_self ..))).1
          simp only [List.length_cons, List.map_cons, List.sum_cons]; omega
      exact this ts hu.1
    omega
  rw [e3, Option.bind_some, e4, Option.bind_some, e5, Option.bind_some]
  dsimp only
  rw [decide_eq_true rfl, Bool.not_true, Bool.not_false, gb_true, sameTexts_refl (by rw [List.length_map]; omega), Option.bind_some, Bool.not_true, Bool.or_false, cond_false]
  refine whileP_is (fun s : ByteArray × Int => ∃ k : Nat, s.2 = (k : Int) ∧ k ≤ ts.length ∧ s.1 = strP ((ts.take k).flatMap frL)) (fun s => ((ts.length : Int) - s.2).toNat) ?_ ⟨0, rfl, Nat.zero_le _, rfl⟩
  rintro ⟨s, k'⟩ ⟨k, rfl, hk, rfl⟩
  dsimp only
  rw [List.length_map]
  have hpre : (ts.take k).flatMap frL <+: t := by
    have : (ts.take k).flatMap frL <+: ts.flatMap frL := by
      conv => rhs; rw [← List.take_append_drop k ts, List.flatMap_append]
      exact List.prefix_append _ _
    exact this.trans (by rw [hu.2.1]; exact List.take_prefix _ _)
  by_cases h : k < ts.length
  · left
    have hx : ts[k]? = some ts[k] := List.getElem?_eq_getElem h
    have hx2 : (ts.map strP)[k]? = some (strP ts[k]) := by rw [List.getElem?_map, hx]; rfl
    have h200 := hu.1 ts[k] (List.getElem_mem h)
    have h5 := frL_len h200
    have hle := hpre.length_le
    rw [decide_eq_true (by omega), cond_true, idx_nat, hx2, Option.bind_some, i_Frame_eq, Option.bind_some, show frameL ts[k] = frL ts[k] by unfold frameL; rw [if_neg (by omega)], catP_ok (by rw [strP_size, strP_size]; omega), Option.bind_some, strP_app, wrap64_in (by unfold inR; omega)]
    refine ⟨_, rfl, ⟨k + 1, rfl, by omega, ?_⟩, by dsimp only; omega⟩
    dsimp only
    rw [List.take_add_one, hx, List.flatMap_append]
    simp
  · right
    obtain rfl : k = ts.length := by omega
    rw [decide_eq_false (by omega), cond_false]
    obtain ⟨y14, e14, g14⟩ := at0_ok hl
    rw [e14, Option.bind_some, wrap64_in (n := (e : Int) + 1) (by unfold inR; omega)]
    have hm := tmod_lt g14 (show (0 : Int) < (e : Int) + 1 by omega)
    rw [show remP y14 ((e : Int) + 1) = some (y14.tmod ((e : Int) + 1)) by unfold remP; rw [if_neg (by omega)], Option.bind_some]
    generalize y14.tmod ((e : Int) + 1) = c' at hm
    obtain ⟨c, rfl⟩ := Int.eq_ofNat_of_zero_le hm.1
    rw [ssl_take (by omega), Option.bind_some]
    obtain ⟨us, e17, h17, hu17⟩ := i_Unframe_eq (t := t.take c) (by rw [List.length_take]; omega)
    have hp := Un_cut hu hu17
    have hpl := hp.length_le
    have hle17 := hu17.2.2.1
    rw [List.length_take] at hle17
    rw [h17, Option.bind_some, ssl_take het, Option.bind_some]
    dsimp only
    rw [List.take_length, hu.2.1, decide_eq_true rfl, Bool.true_and, decide_eq_true (show (e17 : Int) ≤ (c : Int) by omega), gb_true]
    have hslc : slcP (ts.map strP) 0 ((us.map strP).length : Int) = some (us.map strP) := by
      unfold slcP
      rw [List.length_map, if_pos (by rw [List.length_map]; omega), ← List.map_drop, ← List.map_take]
      congr 2
      have := List.prefix_iff_eq_take.1 hp
      conv => rhs; rw [this]
      simp
    rw [hslc, Option.bind_some, gb_true, sameTexts_refl (by rw [List.length_map]; omega), Option.bind_some, Bool.true_and, gb_true, strP_nil, i_Frame_eq, Option.bind_some, gb_true, s_Frame_eq, Option.bind_some, decide_eq_true rfl]
    rfl
end Go.Proofs.SL
