/- Sorted lists of strings: the sort, what Compact leaves, one list by its members. -/
import Derived.Test.YtndhmnoehapdhaaDoorPO
import Derived.Test.YtndhmnoehapdhaaDoorB2
namespace Go.Proofs.SL
open Go
theorem bl_lt : ∀ (a b : List UInt8), Op.bytesLess a b = decide (a < b)
  | [], [] => by simp [Op.bytesLess]
  | a :: as1, [] => by simp [Op.bytesLess]
  | [], b :: bs1 => by simp [Op.bytesLess]
  | a :: as1, b :: bs1 => by
    rw [Op.bytesLess, bl_lt as1 bs1, Bool.eq_iff_iff]
    simp only [Bool.or_eq_true, Bool.and_eq_true, decide_eq_true_eq, beq_iff_eq, List.cons_lt_cons_iff]
theorem bl_le (a b : List UInt8) : decide (a ≤ b) = !Op.bytesLess b a := by
  rw [bl_lt, Bool.eq_iff_iff]
  simp only [decide_eq_true_eq, Bool.not_eq_true', decide_eq_false_iff_not]
  exact Iff.rfl
theorem bl_le_trans {a b c : List UInt8} (h1 : Op.bytesLess b a = false) (h2 : Op.bytesLess c b = false) : Op.bytesLess c a = false := by
  cases h : Op.bytesLess c a with
  | false => rfl
  | true =>
    cases h3 : Op.bytesLess b c with
    | true => rw [← bl_trans h3 h, h1]
    | false => rw [← bl_tri h2 h3, h] at h1; cases h1
theorem msort_sorted (l : List (List UInt8)) : (l.mergeSort fun x y => decide (x ≤ y)).Pairwise fun a b => Op.bytesLess b a = false := by
  have := List.pairwise_mergeSort (le := fun x y : List UInt8 => decide (x ≤ y)) (by
    intro a b c h1 h2
    rw [bl_le, Bool.not_eq_true'] at h1 h2 ⊢
    exact bl_le_trans h1 h2) (by
    intro a b
    rw [bl_le, bl_le, Bool.or_eq_true, Bool.not_eq_true', Bool.not_eq_true']
    cases h : Op.bytesLess b a with
    | false => exact .inl rfl
    | true =>
      cases h2 : Op.bytesLess a b with
      | false => exact .inr rfl
      | true => have := bl_trans h h2; rw [bl_irrefl] at this; cases this) l
  exact this.imp fun h => by rw [bl_le, Bool.not_eq_true'] at h; exact h
theorem compactUpTo_sorted {zs : List (List UInt8)} (hs : zs.Pairwise fun a b => Op.bytesLess b a = false) : ∀ m, m ≤ zs.length →
    (Lib.compactUpTo zs.toArray m).Pairwise (fun a b => Op.bytesLess a b = true) ∧ (∀ x, x ∈ Lib.compactUpTo zs.toArray m ↔ x ∈ zs.take m)
  | 0, _ => ⟨List.Pairwise.nil, fun x => by simp [Lib.compactUpTo]⟩
  | m + 1, hm => by
    obtain ⟨ih1, ih2⟩ := compactUpTo_sorted hs m (by omega)
    have hx : zs[m]? = some zs[m] := List.getElem?_eq_getElem (by omega)
    have hxa : zs.toArray[m]! = zs[m] := by simp [hx]
    rw [Lib.compactUpTo_succ, List.take_add_one, hx, hxa]
    rcases Nat.eq_zero_or_pos m with h0 | h0
    · subst h0
      simp [Lib.compactUpTo, Lib.keeps]
    · have hp : zs.toArray[m - 1]! = zs[m - 1] := by simp [show m - 1 < zs.length by omega]
      have hle : ∀ y, y ∈ zs.take m → Op.bytesLess zs[m] y = false := fun y hy => by
        obtain ⟨j, hj⟩ := List.getElem?_of_mem hy
        have hjl := (List.getElem?_eq_some_iff.1 hj).1
        rw [List.length_take] at hjl
        rw [List.getElem?_take_of_lt (by omega)] at hj
        obtain ⟨h1, h2⟩ := List.getElem?_eq_some_iff.1 hj
        rw [← h2]
        exact List.pairwise_iff_getElem.1 hs j m h1 (by omega) (by omega)
      cases hk : Lib.keeps zs.toArray m with
      | true =>
        simp only [if_true, List.mem_append, List.mem_singleton, Option.toList_some, ih2]
        refine ⟨List.pairwise_append.2 ⟨ih1, List.pairwise_singleton _ _, fun a ha b hb => ?_⟩, fun x => by simp⟩
        obtain rfl := List.mem_singleton.1 hb
        have hne : zs[m] ≠ zs[m - 1] := by
          have : m = 0 ∨ zs.toArray[m]! ≠ zs.toArray[m - 1]! := of_decide_eq_true hk
          rcases this with h | h
          · omega
          · rwa [hxa, hp] at h
        have hprev : Op.bytesLess zs[m - 1] zs[m] = true := by
          cases h : Op.bytesLess zs[m - 1] zs[m] with
          | true => rfl
          | false => exact absurd (bl_tri (hle zs[m - 1] (List.mem_of_getElem? (i := m - 1) (by rw [List.getElem?_take_of_lt (by omega)]; exact List.getElem?_eq_getElem (by omega)))) h) hne
        have ha' := (ih2 a).1 ha
        obtain ⟨j, hj⟩ := List.getElem?_of_mem ha'
        have hjl := (List.getElem?_eq_some_iff.1 hj).1
        rw [List.length_take] at hjl
        rw [List.getElem?_take_of_lt (by omega)] at hj
        obtain ⟨h1, h2⟩ := List.getElem?_eq_some_iff.1 hj
        rcases Nat.lt_or_ge j (m - 1) with h3 | h3
        · have h4 := List.pairwise_iff_getElem.1 hs j (m - 1) h1 (by omega) h3
          rw [h2] at h4
          cases h5 : Op.bytesLess a zs[m - 1] with
          | true => exact bl_trans h5 hprev
          | false => rw [bl_tri h5 h4]; exact hprev
        · have : j = m - 1 := by omega
          subst this
          rw [← h2]; exact hprev
      | false =>
        have he : zs[m] = zs[m - 1] := by
          have : ¬(m = 0 ∨ zs.toArray[m]! ≠ zs.toArray[m - 1]!) := of_decide_eq_false hk
          rw [hxa, hp] at this
          exact Classical.byContradiction fun h => this (.inr h)
        simp only [Bool.false_eq_true, if_false, List.append_nil, Option.toList_some, List.mem_append, List.mem_singleton]
        refine ⟨ih1, fun x => by
          rw [ih2]
          constructor
          · exact .inl
          · rintro (h | h)
            · exact h
            · subst h
              rw [he]
              exact List.mem_of_getElem? (i := m - 1) (by rw [List.getElem?_take_of_lt (by omega)]; exact List.getElem?_eq_getElem (by omega))⟩
theorem compact_sorted {zs : List (List UInt8)} (hs : zs.Pairwise fun a b => Op.bytesLess b a = false) : (Lib.compact zs).Pairwise (fun a b => Op.bytesLess a b = true) ∧ ∀ x, x ∈ Lib.compact zs ↔ x ∈ zs := by
  have := compactUpTo_sorted hs zs.length (Nat.le_refl _)
  rw [List.take_length] at this
  exact this
/-- One list by its members, where it rises. -/
theorem ssorted_ext : ∀ {l m : List ByteArray}, l.Pairwise (fun a b => sLt a b = true) → m.Pairwise (fun a b => sLt a b = true) → (∀ x, x ∈ l ↔ x ∈ m) → l = m
  | [], [], _, _, _ => rfl
  | [], b :: m, _, _, h => absurd ((h b).2 (List.mem_cons_self ..)) (by simp)
  | a :: l, [], _, _, h => absurd ((h a).1 (List.mem_cons_self ..)) (by simp)
  | a :: l, b :: m, h1, h2, h => by
    obtain ⟨h3, h4⟩ := List.pairwise_cons.1 h1
    obtain ⟨h5, h6⟩ := List.pairwise_cons.1 h2
    have hab : a = b := by
      rcases List.mem_cons.1 ((h a).1 (List.mem_cons_self ..)) with e | e
      · exact e
      · rcases List.mem_cons.1 ((h b).2 (List.mem_cons_self ..)) with e2 | e2
        · exact e2.symm
        · have := sLt_asymm (h5 a e); rw [h3 b e2] at this; cases this
    subst hab
    rw [ssorted_ext h4 h6 fun x => ⟨fun hx => ?_, fun hx => ?_⟩]
    · rcases List.mem_cons.1 ((h x).1 (List.mem_cons_of_mem _ hx)) with e | e
      · exact absurd (e.symm) (sLt_ne (h3 x hx))
      · exact e
    · rcases List.mem_cons.1 ((h x).2 (List.mem_cons_of_mem _ hx)) with e | e
      · exact absurd (e.symm) (sLt_ne (h5 x hx))
      · exact e
theorem mk_data (s : ByteArray) : (⟨(s.data.toList).toArray⟩ : ByteArray) = s := by cases s; simp
theorem data_mk (l : List UInt8) : (⟨l.toArray⟩ : ByteArray).data.toList = l := by simp
theorem sLt_data (a b : ByteArray) : sLt a b = Op.bytesLess a.data.toList b.data.toList := by
  unfold sLt; rw [ByteArray.toList_eq, ByteArray.toList_eq]
/-- Sort, then Compact. -/
theorem sortCompact {l : List ByteArray} (h : l.length ≤ 4294967296) : ∃ m, (sortSP l).bind compactSP = some m ∧ m.Pairwise (fun a b => sLt a b = true) ∧ ∀ x, x ∈ m ↔ x ∈ l := by
  unfold sortSP
  rw [if_pos h, Option.bind_some]
  unfold compactSP
  rw [if_pos (by simpa using h)]
  refine ⟨_, rfl, ?_⟩
  rw [List.map_map]
  have e : ((fun s : ByteArray => s.data.toList) ∘ fun l : List UInt8 => (⟨l.toArray⟩ : ByteArray)) = id := by funext l; rfl
  rw [e, List.map_id]
  obtain ⟨h1, h2⟩ := compact_sorted (msort_sorted (l.map fun s => s.data.toList))
  refine ⟨List.pairwise_map.2 (h1.imp fun h => by rw [sLt_data]; exact h), fun x => ?_⟩
  rw [List.mem_map]
  constructor
  · rintro ⟨y, hy, rfl⟩
    have := (h2 y).1 hy
    rw [List.mem_mergeSort, List.mem_map] at this
    obtain ⟨s, hs, rfl⟩ := this
    rw [mk_data]; exact hs
  · intro hx
    exact ⟨x.data.toList, (h2 _).2 (List.mem_mergeSort.2 (List.mem_map.2 ⟨x, hx, rfl⟩)), mk_data x⟩
end Go.Proofs.SL
