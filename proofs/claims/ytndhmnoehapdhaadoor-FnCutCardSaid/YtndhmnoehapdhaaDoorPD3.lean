/- The law on cutting: it answers true. -/
import Derived.Test.YtndhmnoehapdhaaDoorPD2
namespace Go.Proofs.SL
open Go
theorem sameTexts_refl {l : List ByteArray} (h : l.length ≤ 9223372036854775807) : w_sameTexts l l = some true := by
  unfold w_sameTexts
  rw [decide_eq_true (show (l.length : Int) = (l.length : Int) from rfl), Bool.not_true, cond_false]
  rw [whileP_all (n := l.length) (fun _ => true) (some false) (some true)]
  · rw [show ((List.range l.length).all fun _ => true) = true by simp]; rfl
  · intro k hk
    have hx : l[k]? = some l[k] := List.getElem?_eq_getElem hk
    generalize l[k] = x at hx
    simp only [lt_dec hk, cond_true, idx_nat, hx, Option.bind_some, decide_true, Bool.not_true, cond_false, wrap_succ (show k < 9223372036854775807 by omega), if_true]
  · simp only [ge_dec]; rfl
theorem joined_eq {l : List ByteArray} (h1 : l.length ≤ 1000) (h2 : ∀ x, x ∈ l → x.size ≤ 1000) : i_Joined l = some (joinL l) := by
  unfold i_Joined
  refine whileP_n (fun (i : Nat) (_ : Unit) => (joinL (l.take i), (i : Int))) (fun _ _ => ()) (n := l.length) (t0 := ()) rfl (fun i _ hi => ?_) ?_
  · have hx : l[i]? = some l[i] := List.getElem?_eq_getElem hi
    have hb : ∀ n, n ≤ l.length → (joinL (l.take n)).size ≤ 1000 * n := by
      intro n
      induction n with
      | zero => intro _; show (ByteArray.empty).size ≤ _; simp
      | succ n ih =>
        intro hn
        rw [List.take_succ_eq_append_getElem (by omega), joinL_snoc, ByteArray.size_append]
        have := ih (by omega)
        have := h2 l[n] (List.getElem_mem _)
        omega
    have hbi := hb i (by omega)
    have hxs := h2 l[i] (List.getElem_mem _)
    dsimp only
    rw [decide_eq_true (show (i : Int) < (l.length : Int) by omega), cond_true, idx_nat, hx, Option.bind_some, catP_ok (by omega), Option.bind_some, wrap_succ (by omega), ← joinL_snoc, ← List.take_succ_eq_append_getElem hi]
  · dsimp only
    rw [decide_eq_false (by omega), cond_false, List.take_length]
theorem i_CutIds_eq {s : ByteArray} (hs : s.size ≤ 9223372036854775807) : i_CutIds s = some ((cutL s).map short) := by
  unfold i_CutIds
  rw [Option.bind_some, i_CutData_eq hs, Option.bind_some]
  have hl := cutL_len s
  rw [whileP_for (l := cutL s) (fun k (t : List ByteArray) => (t, (k : Int))) (fun t x => .inl (t ++ [short x])) some (fun k t => t.length = k) [] (s0 := ([], 0)) rfl rfl, goE_fold]
  · have : ∀ (xs acc : List ByteArray), xs.foldl (fun t x => t ++ [short x]) acc = acc ++ xs.map short := by
      intro xs
      induction xs with
      | nil => intro acc; simp
      | cons x xs ih => intro acc; rw [List.foldl_cons, ih]; simp
    rw [this]; rfl
  · intro k t x hx ht
    have hlt := (List.getElem?_eq_some_iff.1 hx).1
    have hz := cutL_size s x (List.mem_of_getElem? hx)
    refine .inl ⟨_, rfl, ?_, by simp [ht]⟩
    simp only [lt_dec hlt, cond_true, idx_nat, hx, Option.bind_some, i_Short_eq (show x.size ≤ 55 by omega), wrap_succ (show k < 9223372036854775807 by omega)]
    rw [appP_ok (by simp; omega)]; rfl
  · intro t _
    simp only [ge_dec]; rfl
theorem s_CutIds_eq {s : ByteArray} (hs : s.size ≤ 9223372036854775807) : s_CutIds s = some ((cutL s).map short) := by
  unfold s_CutIds
  rw [Option.bind_some, s_CutData_eq hs, Option.bind_some]
  have hl := cutL_len s
  rw [whileP_for (l := cutL s) (fun k (t : List ByteArray) => (t, (k : Int))) (fun t x => .inl (t ++ [short x])) some (fun k t => t.length = k) [] (s0 := ([], 0)) rfl rfl, goE_fold]
  · have : ∀ (xs acc : List ByteArray), xs.foldl (fun t x => t ++ [short x]) acc = acc ++ xs.map short := by
      intro xs
      induction xs with
      | nil => intro acc; simp
      | cons x xs ih => intro acc; rw [List.foldl_cons, ih]; simp
    rw [this]; rfl
  · intro k t x hx ht
    have hlt := (List.getElem?_eq_some_iff.1 hx).1
    have hz := cutL_size s x (List.mem_of_getElem? hx)
    refine .inl ⟨_, rfl, ?_, by simp [ht]⟩
    simp only [lt_dec hlt, cond_true, idx_nat, hx, Option.bind_some, s_Short_eq (show x.size ≤ 55 by omega), wrap_succ (show k < 9223372036854775807 by omega)]
    rw [appP_ok (by simp; omega)]; rfl
  · intro t _
    simp only [ge_dec]; rfl
theorem containsS_eq {l : List ByteArray} {x : ByteArray} (h : l.length ≤ 9223372036854775807) : sl_Contains_stringstring l x = some (l.any fun y => decide (y = x)) := by
  unfold sl_Contains_stringstring sl_Index_stringstring
  rw [whileP_find (fun y => decide (y = x)) some h]
  · rw [Option.bind_some, firstI_any]
  · intro k y hy
    simp only [lt_dec (List.getElem?_eq_some_iff.1 hy).1, cond_true, idx_nat, hy, Option.bind_some, eq_comm (a := x)]
    cases decide (y = x) <;> rfl
  · simp only [ge_dec]; rfl
theorem l15In_eq' {l : List ByteArray} {x : ByteArray} (h : l.length ≤ 9223372036854775807) : s_l15In l x = some (l.any fun y => decide (y = x)) := by
  unfold s_l15In
  rw [whileP_find (fun y => decide (y = x)) (fun i => some (decide (0 ≤ i))) h, firstI_any]
  · intro k y hy
    simp only [lt_dec (List.getElem?_eq_some_iff.1 hy).1, cond_true, idx_nat, hy, Option.bind_some]
    cases decide (y = x) <;> simp
  · simp only [ge_dec]; rfl
def sharedF (l m : List ByteArray) : Int := m.foldl (fun t y => if l.any (fun x => decide (x = y)) then IntKind.wrap .i64 (t + 1) else t) 0
theorem i_Shared_eq {a b : ByteArray} (ha : a.size ≤ 9223372036854775807) (hb : b.size ≤ 9223372036854775807) : i_Shared a b = some (sharedF ((cutL a).map short) ((cutL b).map short)) := by
  unfold i_Shared sharedF
  rw [i_CutIds_eq ha, i_CutIds_eq hb, Option.bind_some, Option.bind_some]
  have hla : ((cutL a).map short).length ≤ 401 := by rw [List.length_map]; exact cutL_len a
  have hlb : ((cutL b).map short).length ≤ 401 := by rw [List.length_map]; exact cutL_len b
  generalize (cutL a).map short = l at hla ⊢
  generalize (cutL b).map short = m at hlb ⊢
  rw [whileP_for (l := m) (fun k (t : Int) => (t, (k : Int))) (fun t y => .inl (if l.any (fun x => decide (x = y)) then IntKind.wrap .i64 (t + 1) else t)) some (fun _ _ => True) 0 (s0 := (0, 0)) rfl trivial, goE_fold]
  · intro k t x hx _
    have hlt := (List.getElem?_eq_some_iff.1 hx).1
    refine .inl ⟨_, rfl, ?_, trivial⟩
    simp only [lt_dec hlt, cond_true, idx_nat, hx, Option.bind_some, containsS_eq (show l.length ≤ 9223372036854775807 by omega), wrap_succ (show k < 9223372036854775807 by omega)]
    cases l.any (fun y => decide (y = x)) <;> rfl
  · intro t _
    simp only [ge_dec]; rfl
theorem s_Shared_eq {a b : ByteArray} (ha : a.size ≤ 9223372036854775807) (hb : b.size ≤ 9223372036854775807) : s_Shared a b = some (sharedF ((cutL a).map short) ((cutL b).map short)) := by
  unfold s_Shared sharedF
  rw [s_CutIds_eq ha, s_CutIds_eq hb, Option.bind_some, Option.bind_some]
  have hla : ((cutL a).map short).length ≤ 401 := by rw [List.length_map]; exact cutL_len a
  have hlb : ((cutL b).map short).length ≤ 401 := by rw [List.length_map]; exact cutL_len b
  generalize (cutL a).map short = l at hla ⊢
  generalize (cutL b).map short = m at hlb ⊢
  rw [whileP_for (l := m) (fun k (t : Int) => (t, (k : Int))) (fun t y => .inl (if l.any (fun x => decide (x = y)) then IntKind.wrap .i64 (t + 1) else t)) some (fun _ _ => True) 0 (s0 := (0, 0)) rfl trivial, goE_fold]
  · intro k t x hx _
    have hlt := (List.getElem?_eq_some_iff.1 hx).1
    refine .inl ⟨_, rfl, ?_, trivial⟩
    simp only [lt_dec hlt, cond_true, idx_nat, hx, Option.bind_some, l15In_eq' (show l.length ≤ 9223372036854775807 by omega), wrap_succ (show k < 9223372036854775807 by omega)]
    cases l.any (fun y => decide (y = x)) <;> rfl
  · intro t _
    simp only [ge_dec]; rfl
theorem shared_all (l : List ByteArray) : ∀ (m : List ByteArray) (k : Nat), (∀ y, y ∈ m → y ∈ l) → k + m.length ≤ 1000000 → m.foldl (fun t y => if l.any (fun x => decide (x = y)) then IntKind.wrap .i64 (t + 1) else t) (k : Int) = ((k + m.length : Nat) : Int)
  | [], k, _, _ => rfl
  | y :: m, k, h, hk => by
    have hy : l.any (fun x => decide (x = y)) = true := List.any_eq_true.2 ⟨y, h y (List.mem_cons_self ..), by simp⟩
    rw [List.length_cons] at hk
    rw [List.foldl_cons, hy, if_pos rfl, wrap_succ (by omega), shared_all l m (k + 1) (fun z hz => h z (List.mem_cons_of_mem _ hz)) (by omega), List.length_cons]
    congr 1; omega
theorem shared_self (l : List ByteArray) (h : l.length ≤ 1000) : sharedF l l = (l.length : Int) := by
  unfold sharedF
  have := shared_all l l 0 (fun _ h => h) (by omega)
  simpa using this
theorem at_ok (l : List UInt8) {i : Int} (h : 0 ≤ i) : ∃ x, w_at l i = some x := by
  unfold w_at
  by_cases hi : i < (l.length : Int)
  · obtain ⟨k, rfl⟩ := Int.eq_ofNat_of_zero_le h
    have hk : l[k]? = some (l[k]'(by omega)) := List.getElem?_eq_getElem _
    rw [decide_eq_true hi, cond_true, idx_nat, hk]
    exact ⟨_, rfl⟩
  · rw [decide_eq_false hi, cond_false]
    exact ⟨_, rfl⟩
theorem all_true {n : Nat} : ((List.range n).all fun _ => true) = true := by simp
theorem fnCut_true {l : List UInt8} : w_FnCut l = some true := by
  unfold w_FnCut w_big
  rw [Option.bind_some]
  by_cases hl : (1048576 : Int) < l.length
  · rw [decide_eq_true hl]; rfl
  rw [decide_eq_false hl, cond_false]
  obtain ⟨s, es, hs⟩ := drawCut_ok (l := l) (by omega)
  rw [es, Option.bind_some, i_CutData_eq (by omega), Option.bind_some, s_CutData_eq (by omega), Option.bind_some]
  have hlen := cutL_len s
  rw [sameTexts_refl (by omega), Option.bind_some, Bool.not_true, cond_false]
  by_cases h390 : (390 : Int) < s.size
  · rw [decide_eq_true h390]; rfl
  rw [decide_eq_false h390, cond_false]
  have hsz := cutL_size s
  rw [whileP_all (n := (cutL s).length) (fun _ => true) (some false) (some true), all_true, if_pos rfl]
  · intro k hk
    have hx : (cutL s)[k]? = some (cutL s)[k] := List.getElem?_eq_getElem hk
    generalize (cutL s)[k] = x at hx
    have hxs := hsz x (List.mem_of_getElem? hx)
    have h3 : (decide ((x.size : Int) < 3) && decide ((k : Int) < IntKind.wrap .i64 (((cutL s).length : Int) - 1))) = false := by
      rw [wrap64_in (by unfold inR; omega)]
      by_cases hk2 : (k : Int) < ((cutL s).length : Int) - 1
      · obtain ⟨g1, g2⟩ := cutL_init (s := s) (by omega) (k := k) (by omega)
        have := (cutT_len s s.size (Nat.le_refl _) x (List.mem_of_getElem? (g2.symm.trans hx))).1
        rw [decide_eq_false (by omega)]; rfl
      · rw [decide_eq_false hk2, Bool.and_false]
    simp only [lt_dec hk, cond_true, idx_nat, hx, Option.bind_some, gbs]
    rw [decide_eq_false (show ¬ (12 : Int) < x.size by omega)]
    simp only [Bool.not_false, if_true, Bool.false_or, h3, decide_eq_false (show ¬ (x.size : Int) = 0 by omega), cond_false, wrap_succ (show k < 9223372036854775807 by omega)]
  · simp only [ge_dec, cond_false]
    congr 1
    obtain ⟨x0, e0⟩ := at_ok l (i := 0) (by omega)
    obtain ⟨x1, e1⟩ := at_ok l (i := 1) (by omega)
    obtain ⟨b0, f0⟩ := u8P_wrap x0
    obtain ⟨b1, f1⟩ := u8P_wrap x1
    have z2 : (strP [b0, b1]).size = 2 := rfl
    rw [e0, Option.bind_some, e1, Option.bind_some, f0, Option.bind_some, f1, Option.bind_some, Option.bind_some, catP_ok (by omega), Option.bind_some]
    have ht : (s ++ strP [b0, b1]).size = s.size + 2 := by rw [ByteArray.size_append, z2]
    generalize hu : strP [b0, b1] = u at ht z2 ⊢
    rw [i_CutData_eq (by omega), Option.bind_some]
    rw [whileP_all (n := (cutL s).length - 1) (fun _ => true) (some false) (some true), all_true, if_pos rfl]
    · intro k hk
      obtain ⟨x, g1, g2⟩ := cutL_app (s := s) (u := u) (by omega) (k := k) (by omega)
      rw [wrap64_in (by unfold inR; omega), decide_eq_true (show (k : Int) < ((cutL s).length : Int) - 1 by omega), cond_true, idx_nat, g2, Option.bind_some, idx_nat, g1, Option.bind_some]
      simp only [decide_true, Bool.not_true, cond_false, wrap_succ (show k < 9223372036854775807 by omega), if_true]
    · rw [wrap64_in (by unfold inR; omega), decide_eq_false (show ¬ (((cutL s).length - 1 : Nat) : Int) < ((cutL s).length : Int) - 1 by omega), cond_false]
      congr 1
      obtain ⟨a, b, ed, ha, hb⟩ := drawShared_ok (l := l) (by omega)
      have hlt := cutL_len (s ++ u)
      have hzt := cutL_size (s ++ u)
      rw [ed, Option.bind_some, joined_eq (by omega) (fun x hx => by have := hsz x hx; omega), Option.bind_some, cutL_join (s := s) (by omega)]
      rw [joined_eq (l := cutL (s ++ u)) (by omega) (fun x hx => by have := hzt x hx; omega), cutL_join (s := s ++ u) (by omega)]
      simp only [decide_true, gbs, if_true, Bool.true_and]
      rw [i_CutIds_eq (by omega), s_CutIds_eq (by omega)]
      simp only [gbs, if_true]
      rw [sameTexts_refl (by rw [List.length_map]; omega)]
      simp only [gbs, if_true]
      rw [i_Shared_eq (by omega) (by omega), s_Shared_eq (by omega) (by omega)]
      simp only [gbs, if_true, decide_true]
      rw [i_Shared_eq (by omega) (by omega)]
      simp only [gbs, if_true]
      rw [shared_self _ (by rw [List.length_map]; omega), List.length_map]
      simp
end Go.Proofs.SL
