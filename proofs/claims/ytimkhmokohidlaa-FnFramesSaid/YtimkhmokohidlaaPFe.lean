/- All frames of a text. -/
import Derived.Test.YtimkhmokohidlaaPFd
namespace Go.Proofs.SL
open Go
/-- All frames at the front of a text. -/
def Un (t : Bs) (ts : List Bs) (e : Nat) : Prop := (∀ x, x ∈ ts → x.length ≤ 200) ∧ ts.flatMap frL = t.take e ∧ e ≤ t.length ∧ ∀ x, ¬ Fr x (t.drop e)
theorem Un_head {t y : Bs} {s : List Bs} {e : Nat} (h : Un t (y :: s) e) : Fr y t ∧ Un (t.drop (frL y).length) s (e - (frL y).length) ∧ (frL y).length ≤ e := by
  obtain ⟨h1, h2, h3, h4⟩ := h
  rw [List.flatMap_cons] at h2
  have hl : (frL y).length ≤ e := by
    have := congrArg List.length h2
    rw [List.length_append, List.length_take] at this; omega
  refine ⟨⟨h1 y (List.mem_cons_self ..), ?_⟩, ⟨fun x hx => h1 x (List.mem_cons_of_mem _ hx), ?_, by rw [List.length_drop]; omega, ?_⟩, hl⟩
  · exact (List.prefix_append (frL y) (s.flatMap frL)).trans (by rw [h2]; exact List.take_prefix _ _)
  · have := congrArg (List.drop (frL y).length) h2
    rw [List.drop_left, List.drop_take] at this
    exact this
  · rw [List.drop_drop, show (frL y).length + (e - (frL y).length) = e by omega]; exact h4
theorem Un_pre : ∀ (ts' ts : List Bs) (t : Bs) (e : Nat), Un t ts e → (∀ x, x ∈ ts' → x.length ≤ 200) → ts'.flatMap frL <+: t → ts' <+: ts
  | [], _, _, _, _, _, _ => List.nil_prefix
  | x :: r, ts, t, e, h, hx, hp => by
    rw [List.flatMap_cons] at hp
    have hF : Fr x t := ⟨hx x (List.mem_cons_self ..), (List.prefix_append _ _).trans hp⟩
    cases ts with
    | nil =>
      obtain ⟨h1, h2, h3, h4⟩ := h
      have : e = 0 ∨ t.length = 0 := by
        have := congrArg List.length h2
        rw [List.length_take] at this
        simp at this; omega
      have he : e = 0 := by omega
      subst he
      exact (h4 x hF).elim
    | cons y s =>
      obtain ⟨hy, hu, _⟩ := Un_head h
      have e1 := Fr_one hF hy
      subst e1
      obtain ⟨q, hq⟩ := hp
      rw [List.append_assoc] at hq
      have := Un_pre r s (t.drop (frL x).length) _ hu (fun z hz => hx z (List.mem_cons_of_mem _ hz)) (by rw [← hq, List.drop_left]; exact List.prefix_append _ _)
      exact List.cons_prefix_cons.2 ⟨rfl, this⟩
theorem Un_uniq {t : Bs} {ts ts' : List Bs} {e e' : Nat} (h : Un t ts e) (h' : Un t ts' e') : ts = ts' ∧ e = e' := by
  have p1 := Un_pre ts' ts t e h h'.1 (by rw [h'.2.1]; exact List.take_prefix _ _)
  have p2 := Un_pre ts ts' t e' h' h.1 (by rw [h.2.1]; exact List.take_prefix _ _)
  have := p2.eq_of_length_le p1.length_le
  subst this
  refine ⟨rfl, ?_⟩
  have e1 := congrArg List.length (h.2.1.symm.trans h'.2.1)
  rw [List.length_take, List.length_take] at e1
  have := h.2.2.1; have := h'.2.2.1
  omega
theorem Un_cut {t : Bs} {ts ts' : List Bs} {e c e' : Nat} (h : Un t ts e) (h' : Un (t.take c) ts' e') : ts' <+: ts :=
  Un_pre ts' ts t e h h'.1 (by rw [h'.2.1]; exact (List.take_prefix _ _).trans (List.take_prefix _ _))
abbrev USt := List ByteArray × Int
theorem unframe_loop {f : USt → Option (USt ⊕ USt)} {t : Bs}
    (h : ∀ (acc : List Bs) (off : Nat), off ≤ t.length → acc.length ≤ off → (∃ x, f (acc.map strP, (off : Int)) = some (.inl ((acc ++ [x]).map strP, ((off + (frL x).length : Nat) : Int))) ∧ Fr x (t.drop off)) ∨ (f (acc.map strP, (off : Int)) = some (.inr (acc.map strP, (off : Int))) ∧ ∀ x, ¬ Fr x (t.drop off))) :
    ∃ ts e, whileP f ([], 0) = some (ts.map strP, ((e : Nat) : Int)) ∧ Un t ts e := by
  obtain ⟨r, hr, ts, e, rfl, hu⟩ := whileP_rule (fun s : USt => ∃ (acc : List Bs) (off : Nat), s = (acc.map strP, (off : Int)) ∧ off ≤ t.length ∧ acc.length ≤ off ∧ (∀ x, x ∈ acc → x.length ≤ 200) ∧ acc.flatMap frL = t.take off) (fun s => ((t.length : Int) - s.2).toNat) (fun r : USt => ∃ ts e, r = (ts.map strP, ((e : Nat) : Int)) ∧ Un t ts e) (by
    rintro s ⟨acc, off, rfl, h1, h2, h3, h4⟩
    rcases h acc off h1 h2 with ⟨x, hx, hF⟩ | ⟨hx, hF⟩
    · left
      have hl := hF.2.length_le
      rw [List.length_drop] at hl
      have h5 := (frL_len hF.1).1
      refine ⟨_, hx, ⟨acc ++ [x], off + (frL x).length, rfl, by omega, by rw [List.length_append]; simp; omega, ?_, ?_⟩, by dsimp only; omega⟩
      · intro y hy
        rcases List.mem_append.1 hy with hy | hy
        · exact h3 y hy
        · rw [List.mem_singleton.1 hy]; exact hF.1
      · rw [List.flatMap_append, h4, List.flatMap_singleton, List.take_add, ← List.prefix_iff_eq_take.1 hF.2]
    · right
      exact ⟨_, hx, acc, off, rfl, h3, h4, h1, hF⟩) ([], 0) ⟨[], 0, rfl, Nat.zero_le _, Nat.le_refl _, by simp, by simp⟩
  exact ⟨ts, e, hr, hu⟩
theorem i_Unframe_eq {t : Bs} (ht : t.length ≤ 1000000000) : ∃ ts e, i_Unframe (strP t) = some (ts.map strP, ((e : Nat) : Int)) ∧ Un t ts e := by
  unfold i_Unframe
  rw [Option.bind_some]
  refine unframe_loop (fun acc off ho ha => ?_)
  dsimp only
  rw [strP_size, ssl_drop ho rfl, Option.bind_some]
  have hdl : (t.drop off).length ≤ 1099511627776 := by rw [List.length_drop]; omega
  rcases i_frameAt_eq hdl with ⟨x, h1, h2⟩ | ⟨h1, h2⟩
  · left
    refine ⟨x, ?_, h2⟩
    have hl := h2.2.length_le
    rw [List.length_drop] at hl
    rw [h1, Option.bind_some]
    dsimp only
    rw [Bool.not_true, cond_false, appP_ok (by simp; omega), Option.bind_some, i_Frame_eq, Option.bind_some, show frameL x = frL x by unfold frameL; rw [if_neg (by have := h2.1; omega)], strP_size, wrap64_in (by unfold inR; omega), List.map_append]
    rfl
  · right
    refine ⟨?_, h2⟩
    rw [h1]
    rfl
theorem sameTexts_refl {l : List ByteArray} (h : l.length ≤ 9223372036854775807) : w_sameTexts l l = some true := by
  unfold w_sameTexts
  rw [decide_eq_true (show (l.length : Int) = (l.length : Int) from rfl), Bool.not_true, cond_false]
  rw [whileP_all (n := l.length) (fun _ => true) (some false) (some true)]
  · rw [show ((List.range l.length).all fun _ => true) = true by simp]; rfl
  · intro k hk
    have hx : l[k]? = some l[k] := List.getElem?_eq_getElem hk
    generalize l[k] = x at hx
    simp only [lt_dec hk, cond_true, idx_nat, hx, Option.bind_some, decide_true, Bool.not_true, cond_false, wrap_succ (show k < 9223372036854775807 by omega), if_true]
  · simp only [ge_dec]; rfl
theorem s_l4Take_eq {t : Bs} (ht : t.length ≤ 1000000000) {p : Nat} (hp : p ≤ 1000000004) :
    (∃ r, s_l4Take (strP t) (p : Int) = some r ∧ r.2 < 0 ∧ (p ≤ t.length → ∀ y, y.length ≤ 200 → ¬ szL y <+: t.drop p)) ∨
    ∃ (x : Bs), s_l4Take (strP t) (p : Int) = some (strP x, ((p + (szL x).length : Nat) : Int)) ∧ p ≤ t.length ∧ szL x <+: t.drop p ∧ x.length ≤ 562949953421311 ∧ ∀ y, y.length ≤ 200 → szL y <+: t.drop p → y = x := by
  unfold s_l4Take s_l4Vars
  rw [Option.bind_some, strP_size]
  by_cases hpt : p ≤ t.length
  · obtain ⟨r, hr, hv⟩ := s_ReadVar_sound (t.drop p) (by rw [List.length_drop]; omega)
    have hit : ∀ m s, m ≤ 200 → t.drop p = varL m ++ s → r.2 ≠ 0 := fun m s hm e => by
      obtain ⟨r', h1, h2⟩ := s_ReadVar_hit (m := m) (t := s) hm
      rw [← e, hr] at h1; cases h1; exact h2
    have hhead : (decide ((p : Int) < 0) || decide ((t.length : Int) < (p : Int))) = false := by
      rw [Bool.or_eq_false_iff, decide_eq_false_iff_not, decide_eq_false_iff_not]; omega
    rcases sz_read hv hit with ⟨h0, hno⟩ | ⟨m, k, rfl, hk1, hk2, hvm, hm, hall⟩
    · left
      rw [whileP_stop (s := ((p : Int), ([] : List Int), 0)) (a := (([] : List Int), -1)) (by
        dsimp only
        rw [show decide ((0 : Int) < 1) = true from rfl, cond_true, hhead, cond_false, ssl_drop hpt rfl, Option.bind_some, hr, Option.bind_some, decide_eq_true h0, cond_true]
        rfl), Option.bind_some]
      dsimp only
      rw [show decide ((-1 : Int) < 0) = true from rfl, Bool.not_true, gb_false, Bool.true_or, cond_true]
      exact ⟨_, rfl, by decide, fun _ => hno⟩
    · rw [whileP_step (s := ((p : Int), ([] : List Int), 0)) (s' := (((p + k : Nat) : Int), [(m : Int)], 1)) (by
        dsimp only
        rw [show decide ((0 : Int) < 1) = true from rfl, cond_true, hhead, cond_false, ssl_drop hpt rfl, Option.bind_some, hr, Option.bind_some]
        dsimp only
        rw [List.length_drop] at hk2
        rw [decide_eq_false (by omega), cond_false, appP_ok (by simp), Option.bind_some, wrap64_in (n := (p : Int) + (k : Int)) (by unfold inR; omega)]
        rfl), whileP_stop (a := ([(m : Int)], ((p + k : Nat) : Int))) (by rfl), Option.bind_some]
      dsimp only
      rw [List.length_drop] at hk2
      rw [decide_eq_false (show ¬ (((p + k : Nat) : Int) < 0) by omega), Bool.not_false, gb_true, show idx [(m : Int)] 0 = some (m : Int) from rfl, Option.bind_some, Bool.false_or, wrap64_in (n := (t.length : Int) - _) (by unfold inR; omega)]
      by_cases hmm : m ≤ ((t.drop p).drop k).length
      · right
        have hmm' := hmm
        rw [List.length_drop, List.length_drop] at hmm'
        have e1 := szL_take hvm hmm
        have e2 : (szL (((t.drop p).drop k).take m)).length = k + m := by rw [e1, List.length_take, List.length_drop]; omega
        rw [decide_eq_false (by omega), cond_false, Option.bind_some, wrap64_in (n := ((p + k : Nat) : Int) + (m : Int)) (by unfold inR; omega), show ((p + k : Nat) : Int) + (m : Int) = ((p + (k + m) : Nat) : Int) by omega, ssl_list (by omega) (by omega), Option.bind_some, Option.bind_some]
        refine ⟨((t.drop p).drop k).take m, ?_, hpt, by rw [e1]; exact List.take_prefix _ _, by rw [List.length_take]; omega, fun y hy hpy => (hall y hy hpy).2⟩
        rw [e2, List.drop_drop, show p + (k + m) - (p + k) = m by omega, wrap64_in (by unfold inR; omega), show ((p + k : Nat) : Int) + (m : Int) = ((p + (k + m) : Nat) : Int) by omega]
      · left
        rw [List.length_drop, List.length_drop] at hmm
        rw [decide_eq_true (by omega), cond_true]
        refine ⟨_, rfl, by decide, fun _ y hy hpy => ?_⟩
        have := (hall y hy hpy).1
        rw [List.length_drop, List.length_drop] at this
        exact hmm this
  · left
    have hhead : (decide ((p : Int) < 0) || decide ((t.length : Int) < (p : Int))) = true := by
      rw [Bool.or_eq_true, decide_eq_true_eq, decide_eq_true_eq]; omega
    rw [whileP_stop (s := ((p : Int), ([] : List Int), 0)) (a := (([] : List Int), -1)) (by
      dsimp only
      rw [show decide ((0 : Int) < 1) = true from rfl, cond_true, hhead]
      rfl), Option.bind_some]
    dsimp only
    rw [show decide ((-1 : Int) < 0) = true from rfl, Bool.not_true, gb_false, Bool.true_or, cond_true]
    exact ⟨_, rfl, by decide, fun h => (hpt h).elim⟩
theorem s_Unframe_eq {t : Bs} (ht : t.length ≤ 1000000000) : ∃ ts e, s_Unframe (strP t) = some (ts.map strP, ((e : Nat) : Int)) ∧ Un t ts e := by
  unfold s_Unframe
  rw [Option.bind_some]
  refine unframe_loop (fun acc off ho ha => ?_)
  dsimp only
  rw [wrap64_in (by unfold inR; omega), show (off : Int) + 4 = ((off + 4 : Nat) : Int) by omega]
  have hs := s_l4Take_eq (t := t) ht (p := off + 4) (by omega)
  have hdd : (t.drop off).drop 4 = t.drop (off + 4) := by rw [List.drop_drop]
  rcases hs with ⟨r, hr, h0, hno⟩ | ⟨x, hx, hpt, hpre, hxl, hall⟩
  · right
    rw [hr, Option.bind_some, decide_eq_true h0]
    refine ⟨rfl, fun y hy => ?_⟩
    have hl := hy.2.length_le
    have h5 := (frL_len hy.1).1
    rw [List.length_drop] at hl
    have := ((Fr_iff (t := t.drop off) (by rw [List.length_drop]; omega)).1 hy).2.2
    rw [hdd] at this
    exact hno (by omega) y hy.1 this
  · rw [hx, Option.bind_some]
    dsimp only
    have hone : ∀ y, Fr y (t.drop off) → y = x := fun y hy => by
      have := ((Fr_iff (t := t.drop off) (by rw [List.length_drop]; omega)).1 hy).2.2
      rw [hdd] at this
      exact hall y hy.1 this
    have hle := hpre.length_le
    rw [List.length_drop] at hle
    rw [decide_eq_false (by omega), Bool.not_false, gb_true, s_Frame_eq, Option.bind_some, Bool.false_or]
    by_cases h200 : 200 < x.length
    · right
      rw [show frameL x = [] by unfold frameL; rw [if_pos h200], show decide (strP [] = ByteArray.empty) = true from decide_eq_true rfl]
      refine ⟨rfl, fun y hy => ?_⟩
      have := hone y hy; subst this
      have := hy.1; omega
    · have hfl := frL_len (x := x) (by omega)
      have hff : (frL x).length = 4 + (szL x).length := by unfold frL; rw [List.length_append, be_len]
      rw [show frameL x = frL x by unfold frameL; rw [if_neg h200], decide_eq_false (show ¬ strP (frL x) = ByteArray.empty by rw [strP_nil, strP_inj]; intro e; rw [e] at hfl; simp at hfl), Bool.not_false, gb_true, Option.bind_some, gb_true, ssl_list (by omega) (by omega), Option.bind_some, Bool.false_or]
      rw [show off + 4 + (szL x).length - off = (frL x).length by omega]
      by_cases he : (t.drop off).take (frL x).length = frL x
      · left
        rw [he, decide_eq_true rfl, Bool.not_true, cond_false, appP_ok (by simp; omega), Option.bind_some]
        refine ⟨x, ?_, by omega, by rw [← he]; exact List.take_prefix _ _⟩
        rw [List.map_append, show off + 4 + (szL x).length = off + (frL x).length by omega]
        rfl
      · right
        rw [decide_eq_false (by rw [strP_inj]; exact fun e => he e.symm), Bool.not_false, cond_true]
        refine ⟨rfl, fun y hy => ?_⟩
        have := hone y hy; subst this
        exact he (List.prefix_iff_eq_take.1 hy.2).symm
end Go.Proofs.SL
