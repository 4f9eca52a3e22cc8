/- What Repairs computes. -/
import Derived.Test.YthebgoognabinaaGreatPC2
namespace Go.Proofs.SL
open Go
/-- The copies of one chunk, appended. -/
def repsI (x : ByteArray) (up : List Bool) (h : List Int) : List Int → List D_Copy → Int → List D_Copy
  | [], t, _ => t
  | k :: ks, t, n => if 0 < n then (if (up[k.toNat]?).getD false && !(h.any fun z => decide (z = k)) then repsI x up h ks (t ++ [(x, h.headD 0, k)]) (n - 1) else repsI x up h ks t n) else t
def repsStp (x : ByteArray) (up : List Bool) (h : List Int) {α : Type} (g : List D_Copy → Option α) (s : List D_Copy × Int) (k : Int) : (List D_Copy × Int) ⊕ Option α := if 0 < s.2 then .inl (if (up[k.toNat]?).getD false && !(h.any fun z => decide (z = k)) then (s.1 ++ [(x, h.headD 0, k)], s.2 - 1) else s) else .inr (g s.1)
theorem goE_reps (x : ByteArray) (up : List Bool) (h : List Int) {α : Type} (g : List D_Copy → Option α) : ∀ (ks : List Int) (t : List D_Copy) (n : Int), goE (repsStp x up h g) (fun s => g s.1) ks (t, n) = g (repsI x up h ks t n)
  | [], t, n => rfl
  | k :: ks, t, n => by
    unfold goE repsI repsStp
    by_cases h0 : 0 < n
    · simp only [h0, if_true]
      split
      · exact goE_reps x up h g ks _ _
      · exact goE_reps x up h g ks _ _
    · simp only [h0, if_false]
theorem wrap_id {x : Int} (h1 : -9223372036854775808 ≤ x) (h2 : x ≤ 9223372036854775807) : IntKind.wrap .i64 x = x := wrap64_in (by unfold inR; omega)
theorem repsI_len (x : ByteArray) (up : List Bool) (h : List Int) : ∀ (ks : List Int) (t : List D_Copy) (n : Int), (repsI x up h ks t n).length ≤ t.length + ks.length
  | [], t, n => by simp [repsI]
  | k :: ks, t, n => by
    unfold repsI
    split
    · split
      · have := repsI_len x up h ks (t ++ [(x, h.headD 0, k)]) (n - 1)
        simp only [List.length_append, List.length_cons, List.length_nil] at *
        omega
      · have := repsI_len x up h ks t n
        simp only [List.length_cons] at *
        omega
    · simp only [List.length_cons]; omega
theorem repsI_mem (x : ByteArray) (up : List Bool) (h : List Int) : ∀ (ks : List Int) (t : List D_Copy) (n : Int), ∀ y, y ∈ repsI x up h ks t n → y ∈ t ∨ y.1 = x
  | [], t, n, y, hy => .inl hy
  | k :: ks, t, n, y, hy => by
    unfold repsI at hy
    split at hy
    · split at hy
      · rcases repsI_mem x up h ks _ _ y hy with h1 | h1
        · rcases List.mem_append.1 h1 with h2 | h2
          · exact .inl h2
          · obtain rfl := List.mem_singleton.1 h2; exact .inr rfl
        · exact .inr h1
      · exact repsI_mem x up h ks _ _ y hy
    · exact .inl hy
def repsO (u : D_Ups) (up : List Bool) (t : List D_Copy) (x : ByteArray) : List D_Copy := if (haveL u x up).length = 0 then t else repsI x up (haveL u x up) [0, 1, 2] t (2 - ((haveL u x up).length : Int))
def repsL (c : D_Catalog) (u : D_Ups) (up : List Bool) : List D_Copy := if catOkB c && upsOkB u && decide (up.length = 3) then (allL c).foldl (repsO u up) [] else []
theorem repsO_len (u : D_Ups) (up : List Bool) (t : List D_Copy) (x : ByteArray) : (repsO u up t x).length ≤ t.length + 3 := by
  unfold repsO
  split
  · omega
  · have := repsI_len x up (haveL u x up) [0, 1, 2] t (2 - ((haveL u x up).length : Int))
    simpa using this
theorem haveL_facts {u : D_Ups} {x : ByteArray} {up : List Bool} (h : upsOkB u = true) : (haveL u x up).length ≤ 3 := by
  obtain ⟨h1, h2⟩ := upNodes_facts (x := x) h
  exact Nat.le_trans (List.length_filter_le _ _) (nodes_le h1 h2)
theorem have_any {u : D_Ups} {x : ByteArray} {up : List Bool} {k : Int} (h : up[k.toNat]? = some true) : ((haveL u x up).any fun z => decide (z = k)) = ((upNodes u x).any fun z => decide (z = k)) := by
  rw [Bool.eq_iff_iff, any_mem, any_mem]
  unfold haveL
  rw [List.mem_filter, h]
  simp
theorem k3 {j : Nat} {n : Int} (hx : ([0, 1, 2] : List Int)[j]? = some n) : j < 3 ∧ n = (j : Int) := by
  match j, hx with
  | 0, hx => cases hx; simp
  | 1, hx => cases hx; simp
  | 2, hx => cases hx; simp
theorem idx_head {l : List Int} (h : l.length ≠ 0) : idx l 0 = some (l.headD 0) := by
  cases l with
  | nil => exact absurd rfl h
  | cons a l => rfl
theorem s_inner {x : ByteArray} {up : List Bool} {h : List Int} {l : List ByteArray} {j : Int} {t : List D_Copy} {α : Type} {g : List D_Copy → Option (List D_Copy × Int ⊕ α)} (hx : idx l j = some x) (hg : ∀ t, g t = some (.inl ((t, IntKind.wrap .i64 (j + 1))))) (hu : up.length = 3) (hh : h.length ≤ 3) (h0 : h.length ≠ 0) (ht : t.length ≤ 1000) :
    (whileP (fun s11 : (List D_Copy) × Int × Int => cond (((decide (s11.2.2 < 3)) && (decide (0 < (h.length : Int)))) && (decide (0 < s11.2.1))) (Option.bind (idx up s11.2.2) (fun y13 => gb y13 (s_l18Has h s11.2.2) (fun y14 => cond (y13 && (!y14)) (Option.bind (idx l j) (fun y16 => Option.bind (idx h 0) (fun y17 => Option.bind (appP s11.1 [(y16, y17, s11.2.2)]) (fun y19 => some (.inl ((y19, IntKind.wrap .i64 (s11.2.1 - 1), IntKind.wrap .i64 (s11.2.2 + 1)))))))) (some (.inl ((s11.1, s11.2.1, IntKind.wrap .i64 (s11.2.2 + 1)))))))) (Option.map .inr (some (.inl ((s11.1, IntKind.wrap .i64 (j + 1))))))) (t, IntKind.wrap .i64 (2 - (h.length : Int)), 0) : Option (List D_Copy × Int ⊕ α)) = g (repsI x up h [0, 1, 2] t (2 - (h.length : Int))) := by
  have hw : IntKind.wrap .i64 (2 - (h.length : Int)) = 2 - (h.length : Int) := wrap_id (by omega) (by omega)
  have hz : decide (0 < (h.length : Int)) = true := by simp; omega
  rw [hw, hz]
  rw [whileP_for (l := [0, 1, 2]) (fun k (t : List D_Copy × Int) => (t.1, t.2, (k : Int))) (repsStp x up h g) (fun t => g t.1) (fun k s => s.1.length ≤ t.length + k ∧ -3 ≤ s.2 ∧ s.2 ≤ 2) (t, 2 - (h.length : Int)) (s0 := (t, 2 - (h.length : Int), 0)) rfl ⟨Nat.le_refl _, by simp only; omega, by simp only; omega⟩, goE_reps]
  · intro k s n hn hI
    obtain ⟨hk, rfl⟩ := k3 hn
    obtain ⟨hI1, hI2, hI3⟩ := hI
    have hb : up[k]? = some up[k] := List.getElem?_eq_getElem (by omega)
    generalize up[k] = b at hb
    by_cases hp : 0 < s.2
    · refine .inl ⟨if b && !(h.any fun z => decide (z = (k : Int))) then (s.1 ++ [(x, h.headD 0, (k : Int))], s.2 - 1) else s, ?_, ?_, ?_⟩
      · unfold repsStp
        rw [if_pos hp, Int.toNat_natCast, hb, Option.getD_some]
      · simp only [show decide ((k : Int) < 3) = true by simp; omega, decide_eq_true hp, Bool.and_self, cond_true, idx_nat, hb, Option.bind_some, l18Has_eq (l := h) (n := (k : Int)) (by omega), gbs, hx, idx_head h0, wrap_succ (show k < 9223372036854775807 by omega), wrap_id (show -9223372036854775808 ≤ s.2 - 1 by omega) (show s.2 - 1 ≤ 9223372036854775807 by omega)]
        rw [appP_ok (by simp; omega)]
        cases b <;> cases (h.any fun z => decide (z = (k : Int))) <;> rfl
      · split
        · simp only [List.length_append, List.length_cons, List.length_nil]; omega
        · omega
    · refine .inr ⟨g s.1, ?_, ?_⟩
      · unfold repsStp
        rw [if_neg hp]
      · simp only [decide_eq_false hp, Bool.and_false, cond_false, hg]
  · intro s hs
    simp only [hg]; rfl
theorem i_inner {x : ByteArray} {up : List Bool} {h st : List Int} {j : Int} {t : List D_Copy} {α : Type} {g : List D_Copy → Option (List D_Copy × Int ⊕ α)} (hg : ∀ t, g t = some (.inl ((t, IntKind.wrap .i64 (j + 1))))) (hu : up.length = 3) (hh : h.length ≤ 3) (h0 : h.length ≠ 0) (ht : t.length ≤ 1000) (hst : st.length ≤ 3) (hs : ∀ k : Int, up[k.toNat]? = some true → (h.any fun z => decide (z = k)) = st.any fun z => decide (z = k)) :
    (whileP (fun s13 : (List D_Copy) × Int × Int => cond ((decide (s13.2.2 < 3)) && (decide (0 < s13.2.1))) (Option.bind (idx up s13.2.2) (fun y15 => gb y15 (sl_Contains_intint st s13.2.2) (fun y16 => cond (y15 && (!y16)) (Option.bind (idx h 0) (fun y18 => Option.bind (appP s13.1 [(x, y18, s13.2.2)]) (fun y20 => some (.inl ((y20, IntKind.wrap .i64 (s13.2.1 - 1), IntKind.wrap .i64 (s13.2.2 + 1))))))) (some (.inl ((s13.1, s13.2.1, IntKind.wrap .i64 (s13.2.2 + 1)))))))) (Option.map .inr (some (.inl ((s13.1, IntKind.wrap .i64 (j + 1))))))) (t, IntKind.wrap .i64 (2 - (h.length : Int)), 0) : Option (List D_Copy × Int ⊕ α)) = g (repsI x up h [0, 1, 2] t (2 - (h.length : Int))) := by
  have hw : IntKind.wrap .i64 (2 - (h.length : Int)) = 2 - (h.length : Int) := wrap_id (by omega) (by omega)
  rw [hw]
  rw [whileP_for (l := [0, 1, 2]) (fun k (t : List D_Copy × Int) => (t.1, t.2, (k : Int))) (repsStp x up h g) (fun t => g t.1) (fun k s => s.1.length ≤ t.length + k ∧ -3 ≤ s.2 ∧ s.2 ≤ 2) (t, 2 - (h.length : Int)) (s0 := (t, 2 - (h.length : Int), 0)) rfl ⟨Nat.le_refl _, by simp only; omega, by simp only; omega⟩, goE_reps]
  · intro k s n hn hI
    obtain ⟨hk, rfl⟩ := k3 hn
    obtain ⟨hI1, hI2, hI3⟩ := hI
    have hsk := hs (k : Int)
    have hb : up[k]? = some up[k] := List.getElem?_eq_getElem (by omega)
    rw [Int.toNat_natCast] at hsk
    generalize up[k] = b at hb
    by_cases hp : 0 < s.2
    · refine .inl ⟨if b && !(h.any fun z => decide (z = (k : Int))) then (s.1 ++ [(x, h.headD 0, (k : Int))], s.2 - 1) else s, ?_, ?_, ?_⟩
      · unfold repsStp
        rw [if_pos hp, Int.toNat_natCast, hb, Option.getD_some]
      · simp only [show decide ((k : Int) < 3) = true by simp; omega, decide_eq_true hp, Bool.and_self, cond_true, idx_nat, hb, Option.bind_some, contains_eq (l := st) (n := (k : Int)) (by omega), gbs, idx_head h0, wrap_succ (show k < 9223372036854775807 by omega), wrap_id (show -9223372036854775808 ≤ s.2 - 1 by omega) (show s.2 - 1 ≤ 9223372036854775807 by omega)]
        rw [appP_ok (by simp; omega)]
        cases b with
        | false => rfl
        | true =>
          rw [hsk hb]
          cases (st.any fun z => decide (z = (k : Int))) <;> rfl
      · split
        · simp only [List.length_append, List.length_cons, List.length_nil]; omega
        · omega
    · refine .inr ⟨g s.1, ?_, ?_⟩
      · unfold repsStp
        rw [if_neg hp]
      · simp only [decide_eq_false hp, Bool.and_false, cond_false, hg]
  · intro s hs
    simp only [hg]; rfl
theorem s_Repairs_eq {c : D_Catalog} {u : D_Ups} {up : List Bool} (ho : Ok.ok c) (hu : Ok.ok u) (hp : up.length ≤ 9223372036854775807) : s_Repairs c u up = some (repsL c u up) := by
  unfold s_Repairs repsL
  have h3 : decide ((up.length : Int) = 3) = decide (up.length = 3) := by rw [Bool.eq_iff_iff]; simp; omega
  simp only [Prod.eta, s_CatOk_eq ho, s_UpsOk_eq hu, Option.bind_some, gbs, s_AllChunks_eq ho, h3]
  have hl := allL_len ho
  cases catOkB c with
  | false => rfl
  | true =>
    cases hk : upsOkB u with
    | false => rfl
    | true =>
      by_cases h4 : up.length = 3
      · simp only [decide_eq_true h4, Bool.not_true, Bool.not_false, if_true, Bool.or_false, cond_false, Bool.and_true]
        rw [whileP_for (l := allL c) (fun k (t : List D_Copy) => (t, (k : Int))) (fun t n => .inl (repsO u up t n)) (fun t => some t) (fun k t => t.length ≤ 3 * k) [] (s0 := ([], 0)) rfl (Nat.le_refl _), goE_fold]
        · intro k t n hn hI
          have hlt := (List.getElem?_eq_some_iff.1 hn).1
          have hhl := haveL_facts (x := n) (up := up) hk
          refine .inl ⟨_, rfl, ?_, ?_⟩
          · simp only [lt_dec hlt, cond_true, idx_nat, hn, Option.bind_some, s_l20Have_eq hu hk h4]
            by_cases h0 : (haveL u n up).length = 0
            · unfold repsO
              rw [if_pos h0, whileP_eq]
              simp only [h0, Int.natCast_zero, Int.lt_irrefl, decide_false, Bool.and_false, Bool.false_and, cond_false, wrap_succ (show k < 9223372036854775807 by omega)]
              rfl
            · unfold repsO
              rw [if_neg h0]
              rw [show ((k + 1 : Nat) : Int) = IntKind.wrap .i64 ((k : Int) + 1) from (wrap_succ (show k < 9223372036854775807 by omega)).symm]
              have hxk : idx (allL c) (k : Int) = some n := by rw [idx_nat]; exact hn
              have h5 := @s_inner n up (haveL u n up) (allL c) (k : Int) t (List D_Copy) (fun t => some (.inl ((t, IntKind.wrap .i64 ((k : Int) + 1))))) hxk (fun _ => rfl) h4 hhl h0 (by omega)
              simp only [idx_nat, hn, Option.bind_some] at h5
              exact h5
          · have := repsO_len u up t n
            omega
        · intro t ht
          simp only [ge_dec]; rfl
      · simp only [decide_eq_false h4]; rfl
theorem i_Repairs_eq {c : D_Catalog} {u : D_Ups} {up : List Bool} (ho : Ok.ok c) (hu : Ok.ok u) (hp : up.length ≤ 9223372036854775807) : i_Repairs c u up = some (repsL c u up) := by
  unfold i_Repairs repsL
  have h3 : decide ((up.length : Int) = 3) = decide (up.length = 3) := by rw [Bool.eq_iff_iff]; simp; omega
  have hul : u.2.length ≤ 9223372036854775807 := hu.2.1
  simp only [Prod.eta, i_CatOk_eq ho, i_UpsOk_eq hu, Option.bind_some, gbs, i_AllChunks_eq ho, i_Ups_nodes_eq hul, h3]
  have hl := allL_len ho
  cases catOkB c with
  | false => rfl
  | true =>
    cases hk : upsOkB u with
    | false => rfl
    | true =>
      by_cases h4 : up.length = 3
      · simp only [decide_eq_true h4, Bool.not_true, Bool.not_false, if_true, Bool.or_false, cond_false, Bool.and_true]
        rw [whileP_for (l := allL c) (fun k (t : List D_Copy) => (t, (k : Int))) (fun t n => .inl (repsO u up t n)) (fun t => some t) (fun k t => t.length ≤ 3 * k) [] (s0 := ([], 0)) rfl (Nat.le_refl _), goE_fold]
        · intro k t n hn hI
          have hlt := (List.getElem?_eq_some_iff.1 hn).1
          have hhl := haveL_facts (x := n) (up := up) hk
          obtain ⟨hn1, hn2⟩ := upNodes_facts (x := n) hk
          have hnl := nodes_le hn1 hn2
          have h6 : i_upOf (upNodes u n) up = some (haveL u n up) := i_upOf_eq hn1 hnl h4
          refine .inl ⟨_, rfl, ?_, ?_⟩
          · simp only [lt_dec hlt, cond_true, idx_nat, hn, Option.bind_some, h6]
            by_cases h0 : (haveL u n up).length = 0
            · unfold repsO
              simp only [h0, if_true, Int.natCast_zero, decide_true, cond_true, wrap_succ (show k < 9223372036854775807 by omega)]
            · unfold repsO
              rw [if_neg h0]
              rw [show ((k + 1 : Nat) : Int) = IntKind.wrap .i64 ((k : Int) + 1) from (wrap_succ (show k < 9223372036854775807 by omega)).symm]
              rw [show decide (((haveL u n up).length : Int) = 0) = false by simp; exact fun h => h0 (by rw [h]; rfl)]
              exact @i_inner n up (haveL u n up) (upNodes u n) (k : Int) t (List D_Copy) (fun t => some (.inl ((t, IntKind.wrap .i64 ((k : Int) + 1))))) (fun _ => rfl) h4 hhl h0 (by omega) hnl (fun k hk => have_any hk)
          · have := repsO_len u up t n
            omega
        · intro t ht
          simp only [ge_dec]; rfl
      · simp only [decide_eq_false h4]; rfl
end Go.Proofs.SL
