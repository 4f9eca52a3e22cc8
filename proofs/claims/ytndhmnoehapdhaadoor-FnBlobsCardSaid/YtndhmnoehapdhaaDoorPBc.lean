/- The law on stores answers true. -/
import Derived.Test.YtndhmnoehapdhaaDoorPBb
namespace Go.Proofs.SL
open Go
theorem wsum_congr {l m : List D_Blob} (h : l.map (fun x : D_Blob => x.2.1.size) = m.map fun x : D_Blob => x.2.1.size) : wsum l = wsum m := by
  have e : ∀ q : List D_Blob, wsum q = (q.map fun x : D_Blob => x.2.1.size).foldl (fun (s : Int) (n : Nat) => IntKind.wrap .i64 (s + (n : Int))) 0 := by
    intro q; unfold wsum; rw [List.foldl_map]
  rw [e, e, h]
theorem map_set {α β : Type} {f : α → β} {l : List α} {k : Nat} {x z : α} (hx : l[k]? = some x) (hf : f z = f x) : (l.set k z).map f = l.map f := by
  apply List.ext_getElem?
  intro j
  rw [List.getElem?_map, List.getElem?_map, List.getElem?_set]
  split
  · rename_i h; subst h
    have hk := (List.getElem?_eq_some_iff.1 hx).1
    rw [if_pos hk, hx]; simp [hf]
  · rfl
/-- A mark on a chunk keeps a store valid. -/
theorem ok_set {d : D_Blobs} {k : Nat} {x z : D_Blob} (h : blobsOk d = true) (hx : d.2[k]? = some x) (h1 : z.1 = x.1) (h2 : z.2.1 = x.2.1) (hz : okB z = true) : blobsOk (d.1, d.2.set k z) = true := by
  unfold blobsOk at h ⊢
  simp only [Bool.and_eq_true] at h ⊢
  obtain ⟨⟨⟨a, b⟩, c⟩, e⟩ := h
  refine ⟨⟨⟨a, by simpa using b⟩, ?_⟩, ?_⟩
  · rw [wsum_congr (map_set hx (by rw [h2]))]; exact c
  · unfold elsOk at e ⊢
    rw [List.all_eq_true] at e ⊢
    intro j hj
    rw [List.length_set] at hj
    have hej := e j hj
    have hjl := List.mem_range.1 hj
    unfold okK at hej ⊢
    have hy : d.2[j]? = some d.2[j] := List.getElem?_eq_getElem hjl
    have hn : ∀ i : Nat, ((d.2.set k z)[i]?).map (fun q : D_Blob => q.1) = (d.2[i]?).map (fun q : D_Blob => q.1) := fun i => by
      have := congrArg (fun q : List ByteArray => q[i]?) (map_set (f := fun q : D_Blob => q.1) hx h1)
      simpa only [List.getElem?_map] using this
    have hall : ∀ (c : ByteArray) (o : Option D_Blob), o.all (fun r => sLt r.1 c) = (o.map (fun q : D_Blob => q.1)).all fun r => sLt r c := fun c o => by cases o <;> rfl
    obtain ⟨w, hw⟩ : ∃ w, (d.2.set k z)[j]? = some w := ⟨(d.2.set k z)[j]'(by simpa using hjl), List.getElem?_eq_getElem _⟩
    have hw1 : w.1 = d.2[j].1 := by have := hn j; rw [hw, hy] at this; simpa using this
    have hwB : okB w = true := by
      rw [List.getElem?_set] at hw
      split at hw
      · split at hw
        · cases hw; exact hz
        · cases hw
      · rw [hy] at hw; cases hw
        rw [hy] at hej
        simp only [Bool.and_eq_true] at hej
        exact hej.1
    rw [hy] at hej
    rw [hw]
    simp only [Bool.and_eq_true] at hej ⊢
    refine ⟨hwB, ?_⟩
    rw [hall, hn, hw1, ← hall]
    exact hej.2
theorem find_at {l : List D_Blob} {c : ByteArray} {k : Nat} {x : D_Blob} (h : l.findIdx? (fun x => decide (x.1 = c)) = some k) (hx : l[k]? = some x) : bFind l c = some x := by
  unfold bFind
  rw [List.find?_eq_some_iff_getElem]
  obtain ⟨hk, h1, h2⟩ := List.findIdx?_eq_some_iff_getElem.1 h
  have := (List.getElem?_eq_some_iff.1 hx).2
  rw [this] at h1
  exact ⟨h1, k, hk, this, fun j hj => by simpa using h2 j hj⟩
theorem find_set (x : D_Blob) : ∀ l : List D_Blob, ∃ k, (setB x l).findIdx? (fun z => decide (z.1 = x.1)) = some k ∧ (setB x l)[k]? = some x
  | [] => ⟨0, by simp [setB], rfl⟩
  | y :: ys => by
    unfold setB
    split
    · rename_i h
      obtain ⟨k, h1, h2⟩ := find_set x ys
      refine ⟨k + 1, ?_, by simpa using h2⟩
      rw [List.findIdx?_cons, decide_eq_false (sLt_ne h), if_neg (by simp), h1]; rfl
    · exact ⟨0, by rw [List.findIdx?_cons, decide_eq_true rfl]; rfl, rfl⟩
/-- What a store holds once a chunk has been stored, and what follows of it. -/
structure Has (d : D_Blobs) (s : ByteArray) (k : Nat) : Prop where
  ok : blobsOk d = true
  idx : d.2.findIdx? (fun z => decide (z.1 = short s)) = some k
  at_ : d.2[k]? = some (short s, s, false)
theorem put_cases {d : D_Blobs} {s : ByteArray} (hd : DC d) (hs : s ∈ T7 ∨ s = Z 40 ∨ s = Z 41) :
    ((blobPutD d s).2.2 ≠ 0 ∧ (blobPutD d s).2.1 = ByteArray.empty ∧ (blobsOk d = true → (blobPutD d s).1 = d) ∧ (blobPutD d s).1.2.length ≤ 13) ∨
    ((blobPutD d s).2.2 = 0 ∧ (blobPutD d s).2.1 = short s ∧ T8 s ∧ (blobPutD d s).1.1 = d.1 ∧ ∃ k, Has (blobPutD d s).1 s k) := by
  unfold blobPutD
  cases hk : blobsOk d with
  | false =>
    rw [if_neg (by simp)]
    exact .inl ⟨(by show (1 : Int) ≠ 0; decide), rfl, (fun h => (by cases h)), Nat.zero_le _⟩
  | true =>
    rw [if_pos rfl]
    by_cases h40 : 40 < s.size
    · rw [if_pos h40]; exact .inl ⟨(by show (1 : Int) ≠ 0; decide), rfl, fun _ => rfl, hd.1⟩
    · rw [if_neg h40]
      have h8 : T8 s := by
        rcases hs with h | h | h
        · exact .inl h
        · exact .inr h
        · subst h; exact (h40 (by unfold Z; rw [strP_size, List.length_replicate]; omega)).elim
      split
      · rename_i ha
        right
        refine ⟨rfl, rfl, h8, rfl, ?_⟩
        cases hi : d.2.findIdx? (fun x => decide (x.1 = short s)) with
        | none => rw [hi] at ha; cases ha
        | some k =>
          rw [hi] at ha
          have ha' : (d.2[k]?).any (fun x => !x.2.2) = true := ha
          cases hx : d.2[k]? with
          | none => rw [hx] at ha'; cases ha'
          | some x =>
            rw [hx] at ha'
            have hb : x.2.2 = false := by simpa using ha'
            have hmem := List.mem_of_getElem? hx
            have hB := (blobsOk_facts hk).2.1 x hmem
            unfold okB at hB
            rw [hb, Bool.false_or] at hB
            simp only [Bool.and_eq_true, decide_eq_true_eq] at hB
            have h1 : x.1 = short s := by
              have := (List.findIdx?_eq_some_iff_getElem.1 hi)
              obtain ⟨hkl, h2, _⟩ := this
              have := (List.getElem?_eq_some_iff.1 hx).2
              rw [this] at h2; simpa using h2
            have h2 : x.2.1 = s := short_inj (.inl (hd.2 x hmem)) h8 (hB.2.symm.trans h1)
            refine ⟨k, hk, hi, ?_⟩
            rw [hx, ← h1, ← h2, ← hb]
      · split
        · rename_i ho
          right
          obtain ⟨k, h1, h2⟩ := find_set (short s, s, false) d.2
          exact ⟨rfl, rfl, h8, rfl, k, ho, h1, h2⟩
        · exact .inl ⟨(by show (2 : Int) ≠ 0; decide), rfl, fun _ => rfl, hd.1⟩
theorem has_get {d : D_Blobs} {s : ByteArray} {k : Nat} (h : Has d s k) : blobGetD d (short s) = (s, 0) := by
  unfold blobGetD
  rw [if_pos h.ok, find_at h.idx h.at_]
  rfl
theorem has_bend {d : D_Blobs} {s : ByteArray} {k : Nat} (h : Has d s k) : blobBendD d (short s) = ((d.1, d.2.set k (short s, s, true)), true) := by
  unfold blobBendD
  rw [if_pos h.ok, h.idx]
  simp only [h.at_, Bool.false_eq_true, if_false]
theorem bent_facts {d : D_Blobs} {s : ByteArray} {k : Nat} (h : Has d s k) (hs : T8 s) : blobsOk (d.1, d.2.set k (short s, s, true)) = true ∧ (d.2.set k (short s, s, true)).findIdx? (fun z => decide (z.1 = short s)) = some k ∧ (d.2.set k (short s, s, true))[k]? = some (short s, s, true) := by
  have hk := (List.getElem?_eq_some_iff.1 h.at_).1
  refine ⟨ok_set h.ok h.at_ rfl rfl ?_, ?_, by rw [List.getElem?_set_self hk]⟩
  · unfold okB
    dsimp only
    rw [short_size, Bool.true_or, decide_eq_false (show ¬ (40 : Int) < (s.size : Int) by have := T8_size hs; omega)]; rfl
  · have hm := map_set (f := fun z : D_Blob => z.1) (z := (short s, s, true)) h.at_ rfl
    have e : ∀ l : List D_Blob, l.findIdx? (fun z => decide (z.1 = short s)) = (l.map (·.1)).findIdx? (fun n => decide (n = short s)) := fun l => by rw [List.findIdx?_map]; rfl
    rw [e, hm, ← e]; exact h.idx
theorem bent_get {d : D_Blobs} {s : ByteArray} {k : Nat} (h : Has d s k) (hs : T8 s) : (blobGetD (d.1, d.2.set k (short s, s, true)) (short s)).2 = 2 := by
  obtain ⟨h1, h2, h3⟩ := bent_facts h hs
  unfold blobGetD
  rw [if_pos h1, find_at h2 h3]
  rfl
theorem bent_put {d : D_Blobs} {s : ByteArray} {k : Nat} (h : Has d s k) (hs : T8 s) : blobPutD (d.1, d.2.set k (short s, s, true)) s = (d, short s, 0) := by
  obtain ⟨h1, h2, h3⟩ := bent_facts h hs
  have e : setB (short s, s, false) (d.2.set k (short s, s, true)) = d.2 := by
    rw [setB_at (x := (short s, s, false)) (l := d.2.set k (short s, s, true)) (blobsOk_facts h1).2.2 h3 rfl, List.set_set]
    have hk := (List.getElem?_eq_some_iff.1 h.at_)
    obtain ⟨hk, he⟩ := hk
    rw [← he, List.set_getElem_self]
  unfold blobPutD
  rw [if_pos h1, if_neg (by have := T8_size hs; omega), h2]
  dsimp only
  rw [show ((some k : Option Nat).bind fun j => (d.2.set k (short s, s, true))[j]?) = some (short s, s, true) from h3, e]
  rw [if_neg (by simp), if_pos h.ok]
theorem has_drop {d : D_Blobs} {s : ByteArray} {k : Nat} (h : Has d s k) : blobDropD d (short s) = ((d.1, d.2.eraseIdx k), true) ∧ (blobGetD (d.1, d.2.eraseIdx k) (short s)).2 = 1 := by
  constructor
  · unfold blobDropD
    rw [if_pos h.ok, h.idx]
  · unfold blobGetD
    split
    · rw [← filter_at (blobsOk_facts h.ok).2.2 h.idx]
      have : bFind (d.2.filter fun z => !decide (z.1 = short s)) (short s) = none := by
        unfold bFind
        rw [List.find?_eq_none]
        intro x hx
        have := (List.mem_filter.1 hx).2
        simpa using this
      dsimp only
      rw [this]
    · rfl
def usedD (d : D_Blobs) : Int := if blobsOk d then wsum d.2 else 0
theorem i_BlobUsed_eq {d : D_Blobs} (h : d.2.length ≤ 9223372036854775807) : i_BlobUsed d = some (usedD d) := by
  unfold i_BlobUsed usedD
  simp only [Prod.eta, i_BlobsOk_eq h, i_Blobs_used_eq h, Option.bind_some]
  cases blobsOk d <;> rfl
theorem fnBlobs_true (l : List UInt8) : w_FnBlobs l = some true := by
  unfold w_FnBlobs w_big
  rw [Option.bind_some]
  by_cases hl : 1048576 < (l.length : Int)
  · rw [decide_eq_true hl, cond_true]
  rw [decide_eq_false hl, cond_false]
  obtain ⟨d, s, e3, hd, hs⟩ := drawB_ok (l := l) (by omega)
  have hdl := hd.1
  rw [e3, Option.bind_some]
  simp only [Prod.eta]
  rw [i_BlobPut_eq (by omega), Option.bind_some, s_BlobPut_eq (by omega), Option.bind_some, decide_eq_true rfl, decide_eq_true rfl, Bool.not_true, Bool.or_false, cond_false]
  rcases put_cases hd hs with ⟨h0, h1, h2, h3⟩ | ⟨h0, h1, h8, h2, k, hk⟩
  · rw [decide_eq_false h0, Bool.not_false, cond_true, h1, decide_eq_true rfl, gb_true, s_BlobsOk_eq (by omega), Option.bind_some, Bool.true_and, Bool.not_not]
    cases hok : blobsOk d with
    | false => simp [gb_false]
    | true =>
      rw [h2 hok, gb_true, i_BlobUsed_eq (by omega), Option.bind_some, gb_true, Option.bind_some]
      simp
  · have hkl : (blobPutD d s).1.2.length ≤ 12 := (blobsOk_facts hk.ok).1
    rw [h0, h1, decide_eq_true rfl, Bool.not_true, cond_false]
    generalize (blobPutD d s).1 = d' at hk hkl h2 ⊢
    obtain ⟨b1, b2, b3⟩ := bent_facts hk h8
    obtain ⟨r1, r2⟩ := has_drop hk
    have hsz := T8_size h8
    rw [i_BlobGet_eq (by omega), Option.bind_some, has_get hk, i_BlobBend_eq (by omega), Option.bind_some, has_bend hk]
    dsimp only
    rw [i_BlobGet_eq (by simp only [List.length_set]; omega), Option.bind_some, i_BlobPut_eq (by simp only [List.length_set]; omega), Option.bind_some, bent_put hk h8]
    dsimp only
    rw [i_BlobGet_eq (by omega), Option.bind_some, has_get hk, i_BlobDrop_eq (by omega), Option.bind_some, r1]
    dsimp only
    rw [i_BlobGet_eq (by have := List.length_eraseIdx_le d'.2 k; dsimp only; omega), Option.bind_some, s_Short_eq (by omega), Option.bind_some, bent_get hk h8, r2, s_BlobsOk_eq (by omega), i_BlobUsed_eq (by omega), hk.ok]
    have hu : usedD d' ≤ d.1 := by
      unfold usedD
      rw [if_pos hk.ok, ← h2]
      have := hk.ok
      unfold blobsOk at this
      simp only [Bool.and_eq_true, decide_eq_true_eq] at this
      exact this.1.2
    simp [gb_true, hu]
end Go.Proofs.SL
