/- Stores of chunks: what is valid, what is found. -/
import Derived.Test.YtndhmnoehapdhaaDoorPH6
import Derived.Test.YtndhmnoehapdhaaDoorPO
import Derived.Test.YtndhmnoehapdhaaDoorPNo
import Derived.Test.YtndhmnoehapdhaaDoorWM
namespace Go.Proofs.SL
open Go
def wsum (l : List D_Blob) : Int := l.foldl (fun s x => IntKind.wrap .i64 (s + (x.2.1.size : Int))) 0
theorem s_l7Sum_eq {d : D_Blobs} (h : d.2.length ≤ 9223372036854775807) : s_l7Sum d = some (wsum d.2) := by
  unfold s_l7Sum wsum
  rw [whileP_for (l := d.2) (fun k (t : Int) => (t, (k : Int))) (fun t x => .inl (IntKind.wrap .i64 (t + (x.2.1.size : Int)))) some (fun _ _ => True) 0 (s0 := (0, 0)) rfl trivial, goE_fold]
  · intro k t x hx _
    have hlt := (List.getElem?_eq_some_iff.1 hx).1
    refine .inl ⟨_, rfl, ?_, trivial⟩
    simp only [lt_dec hlt, cond_true, idx_nat, hx, Option.bind_some, wrap_succ (show k < 9223372036854775807 by omega)]
  · intro t _
    simp only [ge_dec]; rfl
theorem i_Blobs_used_eq {d : D_Blobs} (h : d.2.length ≤ 9223372036854775807) : i_Blobs_used d = some (wsum d.2) := by
  unfold i_Blobs_used wsum
  rw [whileP_for (l := d.2) (fun k (t : Int) => (t, (k : Int))) (fun t x => .inl (IntKind.wrap .i64 (t + (x.2.1.size : Int)))) some (fun _ _ => True) 0 (s0 := (0, 0)) rfl trivial, goE_fold]
  · intro k t x hx _
    have hlt := (List.getElem?_eq_some_iff.1 hx).1
    refine .inl ⟨_, rfl, ?_, trivial⟩
    simp only [lt_dec hlt, cond_true, idx_nat, hx, Option.bind_some, wrap_succ (show k < 9223372036854775807 by omega)]
  · intro t _
    simp only [ge_dec]; rfl
def okB (x : D_Blob) : Bool := decide ((x.1.size : Int) = 8) && !decide (40 < (x.2.1.size : Int)) && (x.2.2 || decide (x.1 = short x.2.1))
def okK (l : List D_Blob) (k : Nat) : Bool := match l[k]? with
  | none => false
  | some x => okB x && (decide (k = 0) || (l[k - 1]?).all fun r => sLt r.1 x.1)
def elsOk (l : List D_Blob) : Bool := (List.range l.length).all (okK l)
def blobsOk (d : D_Blobs) : Bool := decide (0 ≤ d.1 ∧ d.1 ≤ 1000) && decide ((d.2.length : Int) ≤ 12) && decide (wsum d.2 ≤ d.1) && elsOk d.2
theorem s_BlobsOk_eq {d : D_Blobs} (h : d.2.length ≤ 9223372036854775807) : s_BlobsOk d = some (blobsOk d) := by
  obtain ⟨e, l⟩ := d
  dsimp only at h
  unfold s_BlobsOk blobsOk
  simp only [l1In_eq, s_l7Sum_eq (d := (e, l)) h, Option.bind_some, gbs]
  rw [whileP_all (n := l.length) (okK l) (some false) (some true)]
  · have h9 : decide (12 < (l.length : Int)) = !decide ((l.length : Int) ≤ 12) := by rw [Bool.eq_iff_iff]; simp
    have h8 : decide (e < wsum l) = !decide (wsum l ≤ e) := by rw [Bool.eq_iff_iff]; simp
    rw [h9]
    show (if _ then cond (_ || decide (e < wsum l)) _ _ else _) = some (_ && elsOk l)
    rw [h8]
    unfold elsOk
    cases decide (0 ≤ e ∧ e ≤ 1000) <;> cases decide ((l.length : Int) ≤ 12) <;> cases decide (wsum l ≤ e) <;> cases (List.range l.length).all (okK l) <;> rfl
  · intro k hk
    have hx : l[k]? = some l[k] := List.getElem?_eq_getElem hk
    generalize l[k] = x at hx
    simp only [lt_dec hk, cond_true, idx_nat, hx, Option.bind_some, wrap_succ (show k < 9223372036854775807 by omega)]
    unfold okK okB
    simp only [hx]
    by_cases hB : (40 : Int) < x.2.1.size
    · simp [hB, gb_false]
    · rw [s_Short_eq (s := x.2.1) (by omega), gbs]
      by_cases hA : (x.1.size : Int) = 8
      · have hA' : x.1.size = 8 := by omega
        rcases Nat.eq_zero_or_pos k with h0 | h0
        · subst h0
          cases hC : x.2.2
          · by_cases hE : x.1 = short x.2.1
            · simp [hB, hA', hE, gb_false, short_size]
            · simp [hB, hA', hE, gb_false]
          · simp [hB, hA', gb_false]
        · obtain ⟨r, hr1, hr2⟩ := prev_idx' hk h h0
          have hk0 : ¬ k = 0 := by omega
          rw [hr1, hr2]
          simp only [gbs]
          cases hC : x.2.2
          · by_cases hE : x.1 = short x.2.1
            · by_cases hL : sLt r.1 x.1 = true
              · rw [← hE]; simp [hB, hA', hL, hk0, h0]
              · rw [← hE]; simp [hB, hA', hL, hk0, h0]
            · simp [hB, hA', hE]
          · by_cases hL : sLt r.1 x.1 = true
            · simp [hB, hA', hL, hk0, h0]
            · simp [hB, hA', hL, hk0, h0]
      · have hA' : ¬ x.1.size = 8 := by omega
        simp [hB, hA, gb_false]
  · simp only [ge_dec]; rfl
theorem i_BlobsOk_eq {d : D_Blobs} (h : d.2.length ≤ 9223372036854775807) : i_BlobsOk d = some (blobsOk d) := by
  obtain ⟨e, l⟩ := d
  dsimp only at h
  unfold i_BlobsOk blobsOk
  simp only [within_eq, i_Blobs_used_eq (d := (e, l)) h, Option.bind_some, gbs]
  rw [whileP_all (n := l.length) (okK l) (some false) (some (decide (0 ≤ e ∧ e ≤ 1000) && decide ((l.length : Int) ≤ 12) && decide (wsum l ≤ e)))]
  · unfold elsOk
    cases decide (0 ≤ e ∧ e ≤ 1000) <;> cases decide ((l.length : Int) ≤ 12) <;> cases decide (wsum l ≤ e) <;> cases (List.range l.length).all (okK l) <;> rfl
  · intro k hk
    have hx : l[k]? = some l[k] := List.getElem?_eq_getElem hk
    generalize l[k] = x at hx
    simp only [lt_dec hk, cond_true, idx_nat, hx, Option.bind_some, wrap_succ (show k < 9223372036854775807 by omega)]
    unfold okK okB
    simp only [hx]
    by_cases hB : (40 : Int) < x.2.1.size
    · simp [hB, gb_false]
    · rw [i_Short_eq (s := x.2.1) (by omega), gbs]
      by_cases hA : (x.1.size : Int) = 8
      · have hA' : x.1.size = 8 := by omega
        rcases Nat.eq_zero_or_pos k with h0 | h0
        · subst h0
          cases hC : x.2.2
          · by_cases hE : x.1 = short x.2.1
            · simp [hB, hA', hE, gb_false, short_size]
            · simp [hB, hA', hE, gb_false]
          · simp [hB, hA', gb_false]
        · obtain ⟨r, hr1, hr2⟩ := prev_idx' hk h h0
          have hk0 : ¬ k = 0 := by omega
          rw [hr1, hr2]
          simp only [gbs]
          cases hC : x.2.2
          · by_cases hE : x.1 = short x.2.1
            · by_cases hL : sLt r.1 x.1 = true
              · rw [← hE]; simp [hB, hA', hL, hk0, h0]
              · rw [← hE]; simp [hB, hA', hL, hk0, h0]
            · simp [hB, hA', hE]
          · by_cases hL : sLt r.1 x.1 = true
            · simp [hB, hA', hL, hk0, h0]
            · simp [hB, hA', hL, hk0, h0]
      · have hA' : ¬ x.1.size = 8 := by omega
        simp [hB, hA, gb_false]
  · simp only [ge_dec, cond_false]
    cases decide (0 ≤ e ∧ e ≤ 1000) <;> cases decide ((l.length : Int) ≤ 12) <;> simp
theorem s_l7At_eq {u : D_Blobs} {c : ByteArray} (h : u.2.length ≤ 9223372036854775807) : s_l7At u c = some (firstI (fun x : D_Blob => decide (x.1 = c)) u.2) := by
  unfold s_l7At
  rw [whileP_find (fun x : D_Blob => decide (x.1 = c)) some h]
  · intro k x hx
    simp only [lt_dec (List.getElem?_eq_some_iff.1 hx).1, cond_true, idx_nat, hx, Option.bind_some]
    cases decide (x.1 = c) <;> rfl
  · simp only [ge_dec]; rfl
theorem i_Blobs_at_eq {u : D_Blobs} {c : ByteArray} (h : u.2.length ≤ 9223372036854775807) : i_Blobs_at u c = some (firstI (fun x : D_Blob => decide (x.1 = c)) u.2) := by
  unfold i_Blobs_at sl_IndexFunc_implBlobimplBlob i_Blobs_at_c1
  rw [whileP_find (fun x : D_Blob => decide (x.1 = c)) some h]
  · rfl
  · intro k x hx
    simp only [lt_dec (List.getElem?_eq_some_iff.1 hx).1, cond_true, idx_nat, hx, Option.bind_some]
    cases decide (x.1 = c) <;> rfl
  · simp only [ge_dec]; rfl
theorem blobsOk_facts {d : D_Blobs} (h : blobsOk d = true) : d.2.length ≤ 12 ∧ (∀ x, x ∈ d.2 → okB x = true) ∧ d.2.Pairwise (fun a b => sLt a.1 b.1 = true) := by
  unfold blobsOk elsOk at h
  simp only [Bool.and_eq_true, decide_eq_true_eq, List.all_eq_true, List.mem_range] at h
  refine ⟨by omega, fun x hx => ?_, pairwise_of_step (R := fun a b : D_Blob => sLt a.1 b.1 = true) (fun a b c => sLt_trans) d.2 fun k hk => ?_⟩
  · obtain ⟨k, hk⟩ := List.getElem?_of_mem hx
    have := h.2 k (List.getElem?_eq_some_iff.1 hk).1
    unfold okK at this
    rw [hk] at this
    simp only [Bool.and_eq_true] at this
    exact this.1
  · have := h.2 (k + 1) hk
    unfold okK at this
    rw [List.getElem?_eq_getElem hk] at this
    simp only [Bool.and_eq_true, decide_eq_true_eq, Bool.or_eq_true, Nat.add_sub_cancel, List.getElem?_eq_getElem (show k < d.2.length by omega), Option.all_some] at this
    rcases this.2 with h2 | h2
    · omega
    · exact h2
def bFind (l : List D_Blob) (c : ByteArray) : Option D_Blob := l.find? fun x => decide (x.1 = c)
/-- What a chunk's name yields. -/
def blobGetD (d : D_Blobs) (c : ByteArray) : ByteArray × Int := if blobsOk d then (match bFind d.2 c with
  | none => (ByteArray.empty, 1)
  | some x => if x.2.2 then (ByteArray.empty, 2) else (x.2.1, 0)) else (ByteArray.empty, 1)
theorem s_BlobGet_eq {d : D_Blobs} {c : ByteArray} (h : d.2.length ≤ 9223372036854775807) : s_BlobGet d c = some (blobGetD d c) := by
  unfold s_BlobGet blobGetD bFind
  simp only [Prod.eta, s_l7At_eq h, s_BlobsOk_eq h, Option.bind_some]
  cases blobsOk d with
  | false => rfl
  | true =>
    rcases firstI_find (fun x : D_Blob => decide (x.1 = c)) d.2 with ⟨h1, h2⟩ | ⟨k, x, h1, h2, h3, _⟩
    · rw [h1, h2]; rfl
    · rw [h1, h3, idx_nat, h2]
      rw [show decide ((k : Int) < 0) = false from decide_eq_false (by omega)]
      cases hx : x.2.2 <;> simp [hx]
theorem i_BlobGet_eq {d : D_Blobs} {c : ByteArray} (h : d.2.length ≤ 9223372036854775807) : i_BlobGet d c = some (blobGetD d c) := by
  unfold i_BlobGet blobGetD bFind
  simp only [Prod.eta, i_Blobs_at_eq h, i_BlobsOk_eq h, Option.bind_some]
  cases blobsOk d with
  | false => rfl
  | true =>
    rcases firstI_find (fun x : D_Blob => decide (x.1 = c)) d.2 with ⟨h1, h2⟩ | ⟨k, x, h1, h2, h3, _⟩
    · rw [h1, h2]; rfl
    · rw [h1, h3, idx_nat, h2]
      rw [show decide ((k : Int) < 0) = false from decide_eq_false (by omega)]
      cases hx : x.2.2 <;> simp [hx]
/-- The first chunk that is whole, of all stores. -/
def fetchGo (c : ByteArray) : List D_Blobs → Int → ByteArray × Int
  | [], n => (ByteArray.empty, n)
  | d :: ds, n => if (blobGetD d c).2 = 0 then ((blobGetD d c).1, 0) else fetchGo c ds (if (blobGetD d c).2 = 2 then 3 else n)
theorem fetch_go (c : ByteArray) : ∀ (ds : List D_Blobs) (n : Int), goE (fun (t : Int) x => if (blobGetD x c).2 = 0 then .inr (some ((blobGetD x c).1, (0 : Int))) else .inl (if (blobGetD x c).2 = 2 then 3 else t)) (fun t => some (ByteArray.empty, t)) ds n = some (fetchGo c ds n)
  | [], n => rfl
  | d :: ds, n => by
    by_cases h : (blobGetD d c).2 = 0
    · simp only [goE, fetchGo, h, if_true]
    · simp only [goE, fetchGo, h, if_false]; exact fetch_go c ds _
theorem s_Fetch_eq {l : List D_Blobs} {c : ByteArray} (h : l.length ≤ 9223372036854775807) (hl : ∀ d, d ∈ l → d.2.length ≤ 9223372036854775807) : s_Fetch l c = some (fetchGo c l 2) := by
  unfold s_Fetch
  rw [whileP_for (l := l) (fun k (t : Int) => (t, (k : Int))) (fun t x => if (blobGetD x c).2 = 0 then .inr (some ((blobGetD x c).1, (0 : Int))) else .inl (if (blobGetD x c).2 = 2 then 3 else t)) (fun t => some (ByteArray.empty, t)) (fun _ _ => True) 2 (s0 := (2, 0)) rfl trivial, fetch_go]
  · intro k t x hx _
    have hlt := (List.getElem?_eq_some_iff.1 hx).1
    simp only [lt_dec hlt, cond_true, idx_nat, hx, Option.bind_some, Prod.eta, s_BlobGet_eq (hl x (List.mem_of_getElem? hx)), wrap_succ (show k < 9223372036854775807 by omega)]
    by_cases h0 : (blobGetD x c).2 = 0
    · exact .inr ⟨_, if_pos h0, by rw [decide_eq_true h0]; rfl⟩
    · refine .inl ⟨_, if_neg h0, ?_, trivial⟩
      rw [decide_eq_false h0]
      by_cases h2 : (blobGetD x c).2 = 2
      · rw [decide_eq_true h2, if_pos h2]; rfl
      · rw [decide_eq_false h2, if_neg h2]; rfl
  · intro t _
    simp only [ge_dec]; rfl
theorem i_Fetch_eq {l : List D_Blobs} {c : ByteArray} (h : l.length ≤ 9223372036854775807) (hl : ∀ d, d ∈ l → d.2.length ≤ 9223372036854775807) : i_Fetch l c = some (fetchGo c l 2) := by
  unfold i_Fetch
  rw [whileP_for (l := l) (fun k (t : Int) => (t, (k : Int))) (fun t x => if (blobGetD x c).2 = 0 then .inr (some ((blobGetD x c).1, (0 : Int))) else .inl (if (blobGetD x c).2 = 2 then 3 else t)) (fun t => some (ByteArray.empty, t)) (fun _ _ => True) 2 (s0 := (2, 0)) rfl trivial, fetch_go]
  · intro k t x hx _
    have hlt := (List.getElem?_eq_some_iff.1 hx).1
    simp only [lt_dec hlt, cond_true, idx_nat, hx, Option.bind_some, Prod.eta, i_BlobGet_eq (hl x (List.mem_of_getElem? hx)), wrap_succ (show k < 9223372036854775807 by omega)]
    by_cases h0 : (blobGetD x c).2 = 0
    · exact .inr ⟨_, if_pos h0, by rw [decide_eq_true h0]; rfl⟩
    · refine .inl ⟨_, if_neg h0, ?_, trivial⟩
      rw [decide_eq_false h0]
      by_cases h2 : (blobGetD x c).2 = 2
      · rw [decide_eq_true h2, if_pos h2]; rfl
      · rw [decide_eq_false h2, if_neg h2]; rfl
  · intro t _
    simp only [ge_dec]; rfl
theorem s_l7Copy_eq {d : D_Blobs} (h : d.2.length ≤ 1000) : s_l7Copy d = some d := by
  unfold s_l7Copy
  rw [Option.bind_some, appP_ok (by simp; omega)]; rfl
theorem i_copyBlobs_eq {d : D_Blobs} (h : d.2.length ≤ 1000) : i_copyBlobs d = some d := by
  unfold i_copyBlobs
  rw [appP_ok (by simp; omega)]; rfl
/-- A chunk is spoiled. -/
def blobBendD (d : D_Blobs) (c : ByteArray) : D_Blobs × Bool := if blobsOk d then (match d.2.findIdx? (fun x => decide (x.1 = c)) with
  | none => (d, false)
  | some k => match d.2[k]? with
    | none => (d, false)
    | some x => if x.2.2 then (d, false) else ((d.1, d.2.set k (x.1, x.2.1, true)), true)) else ((0, []), false)
theorem firstI_get {α : Type} (p : α → Bool) (l : List α) : (firstI p l = -1 ∧ l.findIdx? p = none) ∨ ∃ (k : Nat) (x : α), firstI p l = (k : Int) ∧ l.findIdx? p = some k ∧ l[k]? = some x ∧ p x = true := by
  cases h : l.findIdx? p with
  | none => exact .inl ⟨firstI_none h, rfl⟩
  | some k =>
    obtain ⟨h1, h2, _⟩ := List.findIdx?_eq_some_iff_getElem.1 h
    exact .inr ⟨k, l[k], firstI_some h, rfl, List.getElem?_eq_getElem h1, h2⟩
theorem s_BlobBend_eq {d : D_Blobs} {c : ByteArray} (h : d.2.length ≤ 9223372036854775807) : s_BlobBend d c = some (blobBendD d c) := by
  unfold s_BlobBend blobBendD
  simp only [Prod.eta, s_BlobsOk_eq h, Option.bind_some]
  cases hk : blobsOk d with
  | false => rfl
  | true =>
    have hn := (blobsOk_facts hk).1
    simp only [Bool.not_true, cond_false, if_true, s_l7Copy_eq (show d.2.length ≤ 1000 by omega), s_l7At_eq h, Option.bind_some]
    rcases firstI_get (fun x : D_Blob => decide (x.1 = c)) d.2 with ⟨h1, h2⟩ | ⟨k, x, h1, h2, h3, _⟩
    · rw [h1, h2]; rfl
    · rw [h1, h2, idx_nat, h3, show decide ((k : Int) < 0) = false from decide_eq_false (by omega)]
      simp only [Bool.not_false, gb_true, Option.bind_some, Bool.false_or, h3]
      cases hx : x.2.2 <;> simp [hx]
theorem i_BlobBend_eq {d : D_Blobs} {c : ByteArray} (h : d.2.length ≤ 9223372036854775807) : i_BlobBend d c = some (blobBendD d c) := by
  unfold i_BlobBend blobBendD
  simp only [Prod.eta, i_BlobsOk_eq h, Option.bind_some]
  cases hk : blobsOk d with
  | false => rfl
  | true =>
    have hn := (blobsOk_facts hk).1
    simp only [Bool.not_true, cond_false, if_true, i_copyBlobs_eq (show d.2.length ≤ 1000 by omega), i_Blobs_at_eq h, Option.bind_some]
    rcases firstI_get (fun x : D_Blob => decide (x.1 = c)) d.2 with ⟨h1, h2⟩ | ⟨k, x, h1, h2, h3, _⟩
    · rw [h1, h2]; rfl
    · rw [h1, h2, idx_nat, h3, show decide ((k : Int) < 0) = false from decide_eq_false (by omega)]
      simp only [Bool.not_false, gb_true, Option.bind_some, Bool.false_or, h3]
      cases hx : x.2.2 <;> simp [hx]
/-- A chunk is taken out. -/
def blobDropD (d : D_Blobs) (c : ByteArray) : D_Blobs × Bool := if blobsOk d then (match d.2.findIdx? (fun x => decide (x.1 = c)) with
  | none => (d, false)
  | some k => ((d.1, d.2.eraseIdx k), true)) else ((0, []), false)
theorem delP_at {α : Type} {l : List α} {k : Nat} (h : k < l.length) : delP l (k : Int) ((k + 1 : Nat) : Int) = some (l.eraseIdx k) := by
  unfold delP
  rw [if_pos (by omega), List.eraseIdx_eq_take_drop_succ]
  simp
theorem i_BlobDrop_eq {d : D_Blobs} {c : ByteArray} (h : d.2.length ≤ 9223372036854775807) : i_BlobDrop d c = some (blobDropD d c) := by
  unfold i_BlobDrop blobDropD
  simp only [Prod.eta, i_BlobsOk_eq h, Option.bind_some]
  cases hk : blobsOk d with
  | false => rfl
  | true =>
    have hn := (blobsOk_facts hk).1
    simp only [Bool.not_true, cond_false, if_true, i_copyBlobs_eq (show d.2.length ≤ 1000 by omega), i_Blobs_at_eq h, Option.bind_some]
    rcases firstI_get (fun x : D_Blob => decide (x.1 = c)) d.2 with ⟨h1, h2⟩ | ⟨k, x, h1, h2, h3, _⟩
    · rw [h1, h2]; rfl
    · have hkl := (List.getElem?_eq_some_iff.1 h3).1
      rw [h1, h2, show decide ((k : Int) < 0) = false from decide_eq_false (by omega), wrap_succ (by omega), delP_at hkl]
      rfl
theorem filter_at {l : List D_Blob} {k : Nat} {c : ByteArray} (hs : l.Pairwise (fun a b => sLt a.1 b.1 = true)) (h2 : l.findIdx? (fun x => decide (x.1 = c)) = some k) : l.filter (fun z => !decide (z.1 = c)) = l.eraseIdx k := by
  induction l generalizing k with
  | nil => simp at h2
  | cons x xs ih =>
    rw [List.findIdx?_cons] at h2
    have hs' := List.pairwise_cons.1 hs
    by_cases hx : x.1 = c
    · rw [decide_eq_true hx] at h2
      obtain rfl : 0 = k := Option.some.inj h2
      rw [List.filter_cons_of_neg (by simp [hx]), List.eraseIdx_zero, List.tail_cons]
      refine List.filter_eq_self.2 fun z hz => ?_
      have := sLt_ne (hs'.1 z hz)
      simp only [Bool.not_eq_true', decide_eq_false_iff_not]
      exact fun e => this (hx.trans e.symm)
    · rw [decide_eq_false hx] at h2
      simp only [Bool.false_eq_true, if_false, Option.map_eq_some_iff] at h2
      obtain ⟨j, hj, rfl⟩ := h2
      rw [List.filter_cons_of_pos (by simp [hx]), List.eraseIdx_cons_succ, ih hs'.2 hj]
theorem s_BlobDrop_eq {d : D_Blobs} {c : ByteArray} (h : d.2.length ≤ 9223372036854775807) : s_BlobDrop d c = some (blobDropD d c) := by
  unfold s_BlobDrop blobDropD
  simp only [Prod.eta, s_BlobsOk_eq h, Option.bind_some]
  cases hk : blobsOk d with
  | false => rfl
  | true =>
    obtain ⟨hn, _, hs⟩ := blobsOk_facts hk
    simp only [Bool.not_true, cond_false, if_true]
    rw [whileP_for (l := d.2) (fun k (t : List D_Blob) => ((k : Int), t)) (fun t x => .inl (if (fun z : D_Blob => !decide (z.1 = c)) x then t ++ [x] else t)) (fun t => some ((d.1, t), decide ((t.length : Int) < (d.2.length : Int)))) (fun k t => t.length ≤ k) [] (s0 := (0, [])) rfl (Nat.le_refl _), goE_fold, foldl_filter', List.nil_append]
    · rcases firstI_get (fun x : D_Blob => decide (x.1 = c)) d.2 with ⟨h1, h2⟩ | ⟨k, x, h1, h2, h3, _⟩
      · rw [h2]
        have : d.2.filter (fun z => !decide (z.1 = c)) = d.2 := List.filter_eq_self.2 fun z hz => by
          have := List.findIdx?_eq_none_iff.1 h2 z hz
          simpa using this
        rw [this, show decide ((d.2.length : Int) < (d.2.length : Int)) = false by simp]
      · have hkl := (List.getElem?_eq_some_iff.1 h3).1
        rw [h2, filter_at hs h2, show decide (((d.2.eraseIdx k).length : Int) < (d.2.length : Int)) = true from decide_eq_true (by rw [List.length_eraseIdx_of_lt hkl]; omega)]
    · intro k t x hx ht
      have hlt := (List.getElem?_eq_some_iff.1 hx).1
      refine .inl ⟨_, rfl, ?_, ?_⟩
      · simp only [lt_dec hlt, cond_true, idx_nat, hx, Option.bind_some, Prod.eta, wrap_succ (show k < 9223372036854775807 by omega)]
        rw [appP_ok (by simp; omega)]
        by_cases hc : x.1 = c
        · simp [hc]
        · simp [hc]
      · split
        · simp; omega
        · omega
    · intro t _
      simp only [ge_dec]; rfl
end Go.Proofs.SL
