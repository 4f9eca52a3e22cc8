/- Texts cut into pieces. -/
import Derived.Test.YtndhmnoehapdhaaDoorPD1
import Derived.Test.YtndhmnoehapdhaaDoorPH6
import Derived.Test.YtndhmnoehapdhaaDoorPNo
namespace Go.Proofs.SL
open Go
theorem ssl_ok {s : ByteArray} {a b : Int} (h : 0 ≤ a ∧ a ≤ b ∧ b ≤ (s.size : Int)) : sslP s a b = some (s.extract a.toNat b.toNat) := if_pos h
theorem cutSize (s : ByteArray) (a b : Nat) : (s.extract a b).size ≤ b - a := by rw [ByteArray.size_extract]; omega
theorem spoil_ok {d : D_l1Cur} (h : CurOk d) {s : ByteArray} (hs : s.size ≤ 1000000) : ∃ t d', s_l1Spoil d s = some (t, d') ∧ t.size ≤ 1000010 ∧ CurOk d' := by
  unfold s_l1Spoil
  simp only [Prod.eta]
  by_cases h0 : (s.size : Int) = 0
  · rw [decide_eq_true h0, cond_true]
    obtain ⟨t, d', e, g, c⟩ := text_ok h (n := 3) (by omega) (by omega)
    rw [e]
    exact ⟨t, d', rfl, by omega, c⟩
  · rw [decide_eq_false h0, cond_false]
    obtain ⟨k, d1, e1, g1, c1⟩ := below_ok h (s.size : Int)
    have hk := g1.2.1 (by omega)
    have hk0 := g1.1
    obtain ⟨q, d2, e2, g2, c2⟩ := below_ok c1 4
    rw [e1, Option.bind_some]
    dsimp only
    rw [e2, Option.bind_some]
    dsimp only
    have w1 : IntKind.wrap .i64 (k + 1) = k + 1 := wrap64_in (by unfold inR; omega)
    have s1 := ssl_ok (s := s) (a := 0) (b := k) (by omega)
    have s2 := ssl_ok (s := s) (a := k + 1) (b := (s.size : Int)) (by omega)
    have s3 := ssl_ok (s := s) (a := k) (b := (s.size : Int)) (by omega)
    have z1 := cutSize s (0 : Int).toNat k.toNat
    have z2 := cutSize s (k + 1).toNat (s.size : Int).toNat
    have z3 := cutSize s k.toNat (s.size : Int).toNat
    rw [w1, s1, s2, s3]
    simp only [Option.bind_some]
    cases decide (q = 0) with
    | true =>
      rw [cond_true, catP_ok (by omega)]
      exact ⟨_, d2, rfl, by rw [ByteArray.size_append]; omega, c2⟩
    | false =>
      rw [cond_false]
      cases decide (q = 1) with
      | true =>
        rw [cond_true]
        obtain ⟨y, d3, e3, g3, c3, _⟩ := byte_ok c2
        obtain ⟨b, hb⟩ := u8P_wrap y
        rw [e3, Option.bind_some]
        dsimp only
        rw [hb, Option.bind_some]
        have zb : (strP [b]).size = 1 := rfl
        rw [catP_ok (by omega), Option.bind_some, catP_ok (by rw [ByteArray.size_append]; omega)]
        exact ⟨_, d3, rfl, by rw [ByteArray.size_append, ByteArray.size_append]; omega, c3⟩
      | false =>
        rw [cond_false]
        cases decide (q = 2) with
        | true => exact ⟨_, d2, rfl, by omega, c2⟩
        | false =>
          rw [cond_false]
          obtain ⟨kn, rfl⟩ := Int.eq_ofNat_of_zero_le hk0
          obtain ⟨y, d3, e3, g3, c3⟩ := below_ok c2 255
          rw [sidx_byt (show kn < s.size by omega), Option.bind_some, e3, Option.bind_some]
          dsimp only
          obtain ⟨b, hb⟩ := u8P_wrap (bits .xor .i64 (IntKind.wrap .i64 ((byt s kn).toNat : Int)) (IntKind.wrap .i64 (1 + y)))
          rw [hb, Option.bind_some]
          have zb : (strP [b]).size = 1 := rfl
          rw [catP_ok (by omega), Option.bind_some, catP_ok (by rw [ByteArray.size_append]; omega)]
          exact ⟨_, d3, rfl, by rw [ByteArray.size_append, ByteArray.size_append]; omega, c3⟩
theorem drawCut_ok {l : List UInt8} (h : l.length ≤ 1048576) : ∃ s, s_DrawCutData l = some s ∧ s.size ≤ 1000 := by
  unfold s_DrawCutData
  obtain ⟨d, e, c⟩ := new_ok h
  rw [e, Option.bind_some]
  simp only [Prod.eta]
  obtain ⟨t, d1, e1, g1, c1⟩ := text_ok c (n := 60) (by omega) (by omega)
  rw [e1, Option.bind_some]
  dsimp only
  obtain ⟨b, d2, e2, c2⟩ := once_ok c1 30
  rw [e2, Option.bind_some]
  dsimp only
  cases b with
  | true =>
    rw [cond_true]
    obtain ⟨x, d3, e3, g3, c3⟩ := below_ok c2 2
    have := g3.2.1 (by omega)
    rw [e3, Option.bind_some]
    dsimp only
    rw [wrap64_in (by unfold inR; omega)]
    unfold mkP
    rw [if_pos (by omega)]
    exact ⟨_, rfl, by show (List.replicate _ _).length ≤ 1000; rw [List.length_replicate]; omega⟩
  | false => exact ⟨t, rfl, by omega⟩
theorem drawShared_ok {l : List UInt8} (h : l.length ≤ 1048576) : ∃ a b, s_DrawShared l = some (a, b) ∧ a.size ≤ 1000 ∧ b.size ≤ 1000010 := by
  unfold s_DrawShared
  obtain ⟨d, e, c⟩ := new_ok h
  rw [e, Option.bind_some]
  simp only [Prod.eta]
  obtain ⟨t, d1, e1, g1, c1⟩ := text_ok c (n := 50) (by omega) (by omega)
  rw [e1, Option.bind_some]
  dsimp only
  obtain ⟨b, d2, e2, c2⟩ := once_ok c1 3
  rw [e2, Option.bind_some]
  dsimp only
  cases b with
  | true =>
    rw [cond_true]
    obtain ⟨t2, d3, e3, g3, _⟩ := text_ok c2 (n := 50) (by omega) (by omega)
    rw [e3]
    exact ⟨t, t2, rfl, by omega, by omega⟩
  | false =>
    rw [cond_false]
    obtain ⟨t2, d3, e3, g3, _⟩ := spoil_ok c2 (s := t) (by omega)
    rw [e3]
    exact ⟨t, t2, rfl, by omega, g3⟩
/-- One more byte: a piece ends here or not. -/
def cutHere (s : ByteArray) (m i : Nat) : Bool := decide (m = 12) || (decide (3 ≤ m) && decide ((byt s i).toNat % 8 = 0))
def cutStep (s : ByteArray) (i : Nat) (t : List ByteArray × Nat) : List ByteArray × Nat := if cutHere s (i + 1 - t.2) i then (t.1 ++ [s.extract t.2 (i + 1)], i + 1) else t
def cutT (s : ByteArray) (n : Nat) : List ByteArray × Nat := it (cutStep s) n ([], 0)
theorem cutT_succ (s : ByteArray) (n : Nat) : cutT s (n + 1) = cutStep s n (cutT s n) := rfl
theorem cutT_inv (s : ByteArray) : ∀ n, (cutT s n).2 ≤ n ∧ n ≤ (cutT s n).2 + 11 ∧ (cutT s n).1.length ≤ n
  | 0 => by show 0 ≤ 0 ∧ 0 ≤ 0 + 11 ∧ ([] : List ByteArray).length ≤ 0; simp
  | n + 1 => by
    obtain ⟨h1, h2, h3⟩ := cutT_inv s n
    rw [cutT_succ]
    unfold cutStep
    split
    · dsimp only; rw [List.length_append]; simp; omega
    · rename_i h
      unfold cutHere at h
      simp only [Bool.or_eq_true, decide_eq_true_eq, not_or] at h
      omega
theorem cutT_len (s : ByteArray) : ∀ n, n ≤ s.size → ∀ x, x ∈ (cutT s n).1 → 3 ≤ x.size ∧ x.size ≤ 12
  | 0, _, x, hx => by cases hx
  | n + 1, hn, x, hx => by
    have ih := cutT_len s n (by omega)
    obtain ⟨h1, h2, _⟩ := cutT_inv s n
    rw [cutT_succ] at hx
    unfold cutStep at hx
    split at hx
    · rename_i h
      unfold cutHere at h
      simp only [Bool.or_eq_true, Bool.and_eq_true, decide_eq_true_eq] at h
      rcases List.mem_append.1 hx with hx | hx
      · exact ih x hx
      · obtain rfl := List.mem_singleton.1 hx
        rw [ByteArray.size_extract]
        omega
    · exact ih x hx
def joinL (l : List ByteArray) : ByteArray := l.foldl (fun a b => a ++ b) ByteArray.empty
theorem joinL_snoc (l : List ByteArray) (x : ByteArray) : joinL (l ++ [x]) = joinL l ++ x := by unfold joinL; rw [List.foldl_append]; rfl
theorem extract_app (s : ByteArray) {a b c : Nat} (h1 : a ≤ b) (h2 : b ≤ c) : s.extract a b ++ s.extract b c = s.extract a c := by
  apply ByteArray.ext
  rw [ByteArray.data_append, ByteArray.data_extract, ByteArray.data_extract, ByteArray.data_extract, Array.extract_append_extract, Nat.min_eq_left h1, Nat.max_eq_right h2]
theorem cutT_join (s : ByteArray) : ∀ n, n ≤ s.size → joinL (cutT s n).1 = s.extract 0 (cutT s n).2
  | 0, _ => by
    show ByteArray.empty = s.extract 0 0
    apply ByteArray.ext
    rw [ByteArray.data_extract]; simp
  | n + 1, hn => by
    have ih := cutT_join s n (by omega)
    obtain ⟨h1, h2, _⟩ := cutT_inv s n
    rw [cutT_succ]
    unfold cutStep
    split
    · dsimp only
      rw [joinL_snoc, ih, extract_app s (by omega) (by omega)]
    · exact ih
def cutL (s : ByteArray) : List ByteArray := if 400 < s.size then [] else if (cutT s s.size).2 < s.size then (cutT s s.size).1 ++ [s.extract (cutT s s.size).2 s.size] else (cutT s s.size).1
theorem cutL_len (s : ByteArray) : (cutL s).length ≤ 401 := by
  have := (cutT_inv s s.size).2.2
  unfold cutL
  split
  · simp
  · split
    · rw [List.length_append]; simp; omega
    · omega
theorem cutL_size (s : ByteArray) : ∀ x, x ∈ cutL s → 1 ≤ x.size ∧ x.size ≤ 12 := by
  intro x hx
  obtain ⟨h1, h2, _⟩ := cutT_inv s s.size
  have h3 := cutT_len s s.size (Nat.le_refl _)
  unfold cutL at hx
  split at hx
  · cases hx
  · split at hx
    · rcases List.mem_append.1 hx with hx | hx
      · have := h3 x hx; omega
      · obtain rfl := List.mem_singleton.1 hx
        rw [ByteArray.size_extract]; omega
    · have := h3 x hx; omega
theorem cutL_join {s : ByteArray} (h : s.size ≤ 400) : joinL (cutL s) = s := by
  obtain ⟨h1, h2, _⟩ := cutT_inv s s.size
  have h3 := cutT_join s s.size (Nat.le_refl _)
  have h4 : s.extract 0 s.size = s := by
    apply ByteArray.ext
    rw [ByteArray.data_extract]
    exact Array.extract_size
  unfold cutL
  rw [if_neg (by omega)]
  split
  · rw [joinL_snoc, h3, extract_app s (by omega) (by omega), h4]
  · rw [h3, show (cutT s s.size).2 = s.size by omega, h4]
/-- All but the last piece are pieces of what is longer too. -/
theorem cutL_init {s : ByteArray} (h : s.size ≤ 400) {k : Nat} (hk : k + 1 < (cutL s).length) : k < (cutT s s.size).1.length ∧ (cutL s)[k]? = (cutT s s.size).1[k]? := by
  unfold cutL at hk ⊢
  rw [if_neg (by omega)] at hk ⊢
  split at hk
  · rename_i h1
    rw [if_pos h1]
    rw [List.length_append] at hk
    simp only [List.length_singleton] at hk
    exact ⟨by omega, List.getElem?_append_left (by omega)⟩
  · rename_i h1
    rw [if_neg h1]
    exact ⟨by omega, rfl⟩
theorem byt_app {s u : ByteArray} {i : Nat} (h : i < s.size) : byt (s ++ u) i = byt s i := by
  unfold byt
  rw [dif_pos (by rw [ByteArray.size_append]; omega), dif_pos h]
  exact ByteArray.getElem_append_left h
theorem extract_app_left {s u : ByteArray} {a b : Nat} (h : b ≤ s.size) : (s ++ u).extract a b = s.extract a b := by
  apply ByteArray.ext
  rw [ByteArray.data_extract, ByteArray.data_append, ByteArray.data_extract, Array.extract_append]
  have : s.data.size = s.size := rfl
  rw [show b - s.data.size = 0 by omega, show u.data.extract (a - s.data.size) 0 = #[] by simp]
  simp
theorem cutT_app (s u : ByteArray) : ∀ n, n ≤ s.size → cutT (s ++ u) n = cutT s n
  | 0, _ => rfl
  | n + 1, hn => by
    rw [cutT_succ, cutT_succ, cutT_app s u n (by omega)]
    unfold cutStep cutHere
    rw [byt_app (by omega), extract_app_left hn]
theorem cutT_more (s : ByteArray) (n : Nat) : ∀ m, ∃ r, (cutT s (n + m)).1 = (cutT s n).1 ++ r
  | 0 => ⟨[], by simp⟩
  | m + 1 => by
    obtain ⟨r, hr⟩ := cutT_more s n m
    rw [← Nat.add_assoc, cutT_succ]
    unfold cutStep
    split
    · exact ⟨r ++ _, by dsimp only; rw [hr, List.append_assoc]⟩
    · exact ⟨r, hr⟩
theorem cutL_app {s u : ByteArray} (h : (s ++ u).size ≤ 400) {k : Nat} (hk : k + 1 < (cutL s).length) : ∃ x, (cutL s)[k]? = some x ∧ (cutL (s ++ u))[k]? = some x := by
  have hs : (s ++ u).size = s.size + u.size := ByteArray.size_append
  obtain ⟨h1, h2⟩ := cutL_init (s := s) (by omega) hk
  obtain ⟨r, hr⟩ := cutT_more (s ++ u) s.size u.size
  rw [cutT_app s u s.size (Nat.le_refl _), ← hs] at hr
  refine ⟨_, h2.trans (List.getElem?_eq_getElem h1), ?_⟩
  have h3 : ((cutT s s.size).1 ++ r)[k]? = some ((cutT s s.size).1[k]) := by rw [List.getElem?_append_left h1, List.getElem?_eq_getElem h1]
  unfold cutL
  rw [if_neg (by omega), hr]
  split
  · rw [List.append_assoc, List.getElem?_append_left h1, List.getElem?_eq_getElem h1]
  · exact h3
theorem dec12 {m : Nat} : decide (((m : Nat) : Int) = 12) = decide (m = 12) := by rw [Bool.eq_iff_iff]; simp; omega
theorem dec3 {m : Nat} : decide (3 ≤ ((m : Nat) : Int)) = decide (3 ≤ m) := by rw [Bool.eq_iff_iff]; simp; omega
theorem dec8 {b : Nat} : decide (((b : Nat) : Int).tmod 8 = 0) = decide (b % 8 = 0) := by rw [Bool.eq_iff_iff, Int.tmod_eq_emod_of_nonneg (by omega)]; simp; omega
theorem i_CutData_eq {s : ByteArray} (hs : s.size ≤ 9223372036854775807) : i_CutData s = some (cutL s) := by
  unfold i_CutData
  by_cases h : (400 : Int) < s.size
  · rw [decide_eq_true h, cond_true]; unfold cutL; rw [if_pos (by omega)]
  · rw [decide_eq_false h, cond_false, Option.bind_some]
    refine whileP_n (fun (i : Nat) (_ : Unit) => ((cutT s i).1, ((cutT s i).2 : Int), (i : Int))) (fun _ _ => ()) (n := s.size) (t0 := ()) rfl (fun i _ hi => ?_) ?_
    · obtain ⟨h1, h2, h3⟩ := cutT_inv s i
      dsimp only
      have e1 : IntKind.wrap .i64 ((i : Int) + 1) = ((i + 1 : Nat) : Int) := wrap_succ (by omega)
      have e2 : IntKind.wrap .i64 (((i + 1 : Nat) : Int) - ((cutT s i).2 : Int)) = ((i + 1 - (cutT s i).2 : Nat) : Int) := by rw [wrap64_in (by unfold inR; omega)]; omega
      rw [decide_eq_true (show (i : Int) < (s.size : Int) by omega), cond_true, e1, e2, sidx_byt hi, gbs, cutT_succ]
      unfold cutStep cutHere
      rw [ssl_ok (by omega), Option.bind_some, appP_ok (by simp; omega), Option.bind_some]
      simp only [dec12, dec3, dec8, Int.toNat_natCast]
      cases decide (i + 1 - (cutT s i).2 = 12) <;> cases decide (3 ≤ i + 1 - (cutT s i).2) <;> cases decide ((byt s i).toNat % 8 = 0) <;> rfl
    · obtain ⟨h1, h2, h3⟩ := cutT_inv s s.size
      dsimp only
      unfold cutL
      rw [decide_eq_false (show ¬ (s.size : Int) < (s.size : Int) by omega), cond_false, if_neg (by omega)]
      by_cases hf : (cutT s s.size).2 < s.size
      · rw [decide_eq_true (show ((cutT s s.size).2 : Int) < (s.size : Int) by omega), cond_true, if_pos hf, ssl_ok (by omega), Option.bind_some, appP_ok (by simp; omega)]
        rfl
      · rw [decide_eq_false (show ¬ ((cutT s s.size).2 : Int) < (s.size : Int) by omega), cond_false, if_neg hf]
theorem s_CutData_eq {s : ByteArray} (hs : s.size ≤ 9223372036854775807) : s_CutData s = some (cutL s) := by
  unfold s_CutData
  rw [Option.bind_some]
  by_cases h : (400 : Int) < s.size
  · rw [decide_eq_true h, cond_true]; unfold cutL; rw [if_pos (by omega)]
  · rw [decide_eq_false h, cond_false]
    refine whileP_n (fun (i : Nat) (_ : Unit) => ((cutT s i).1, ((cutT s i).2 : Int), (i : Int))) (fun _ _ => ()) (n := s.size) (t0 := ()) rfl (fun i _ hi => ?_) ?_
    · obtain ⟨h1, h2, h3⟩ := cutT_inv s i
      dsimp only
      have e1 : IntKind.wrap .i64 ((i : Int) + 1) = ((i + 1 : Nat) : Int) := wrap_succ (by omega)
      have e2 : IntKind.wrap .i64 (((i + 1 : Nat) : Int) - ((cutT s i).2 : Int)) = ((i + 1 - (cutT s i).2 : Nat) : Int) := by rw [wrap64_in (by unfold inR; omega)]; omega
      have e3 : decide (12 ≤ ((i + 1 - (cutT s i).2 : Nat) : Int)) = decide (i + 1 - (cutT s i).2 = 12) := by rw [Bool.eq_iff_iff]; simp; omega
      rw [decide_eq_true (show (i : Int) < (s.size : Int) by omega), cond_true, e1, e2, sidx_byt hi, gbs, cutT_succ]
      unfold cutStep cutHere
      rw [ssl_ok (by omega), Option.bind_some, appP_ok (by simp; omega), Option.bind_some]
      simp only [e3, dec3, dec8, Int.toNat_natCast]
      cases decide (i + 1 - (cutT s i).2 = 12) <;> cases decide (3 ≤ i + 1 - (cutT s i).2) <;> cases decide ((byt s i).toNat % 8 = 0) <;> rfl
    · obtain ⟨h1, h2, h3⟩ := cutT_inv s s.size
      dsimp only
      unfold cutL
      rw [decide_eq_false (show ¬ (s.size : Int) < (s.size : Int) by omega), cond_false, if_neg (by omega)]
      by_cases hf : (cutT s s.size).2 < s.size
      · rw [decide_eq_true (show ((cutT s s.size).2 : Int) < (s.size : Int) by omega), cond_true, if_pos hf, ssl_ok (by omega), Option.bind_some, appP_ok (by simp; omega)]
        rfl
      · rw [decide_eq_false (show ¬ ((cutT s s.size).2 : Int) < (s.size : Int) by omega), cond_false, if_neg hf]
end Go.Proofs.SL
