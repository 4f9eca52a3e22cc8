/- What storing a chunk computes. -/
import Derived.Test.YtndhmnoehapdhaaDoorPJ
import Derived.Test.YtndhmnoehapdhaaDoorWP
namespace Go.Proofs.SL
open Go
def setB (x : D_Blob) : List D_Blob → List D_Blob
  | [] => [x]
  | y :: ys => if sLt y.1 x.1 then y :: setB x ys else x :: (y :: ys).filter fun z => !decide (z.1 = x.1)
def stepB (x : D_Blob) (t : Bool × List D_Blob) (y : D_Blob) : Bool × List D_Blob :=
  let t1 := if !t.1 && !sLt y.1 x.1 then (true, t.2 ++ [x]) else t
  if decide (y.1 = x.1) then t1 else (t1.1, t1.2 ++ [y])
theorem stepB_put (x : D_Blob) : ∀ (ys acc : List D_Blob), ys.foldl (stepB x) (true, acc) = (true, acc ++ ys.filter fun z => !decide (z.1 = x.1))
  | [], acc => by simp
  | y :: ys, acc => by
    rw [List.foldl_cons]
    unfold stepB
    simp only [Bool.not_true, Bool.false_and, Bool.false_eq_true, if_false]
    cases h : decide (y.1 = x.1) with
    | true => simp only [if_true]; rw [show (true, acc) = ((true, acc) : Bool × List D_Blob) from rfl]; have := stepB_put x ys acc; unfold stepB at this; simp only at this ⊢; rw [this]; simp [h]
    | false => have := stepB_put x ys (acc ++ [y]); unfold stepB at this; simp only [Bool.false_eq_true, if_false] at this ⊢; rw [this]; simp [h]
theorem stepB_false (x : D_Blob) : ∀ (ys acc : List D_Blob), (let t := ys.foldl (stepB x) (false, acc); if !t.1 then t.2 ++ [x] else t.2) = acc ++ setB x ys
  | [], acc => by simp [setB]
  | y :: ys, acc => by
    rw [List.foldl_cons]
    cases h : sLt y.1 x.1 with
    | true =>
      have h1 : decide (y.1 = x.1) = false := decide_eq_false (sLt_ne h)
      have : stepB x (false, acc) y = (false, acc ++ [y]) := by unfold stepB; simp [h, h1]
      rw [this, stepB_false x ys (acc ++ [y])]
      simp [setB, h]
    | false =>
      have : stepB x (false, acc) y = stepB x (true, acc ++ [x]) y := by unfold stepB; simp [h]
      rw [this, ← List.foldl_cons, stepB_put]
      simp [setB, h]
/-- A list in strict order is known by its members. -/
theorem pw_ext {α : Type} {R : α → α → Prop} (irr : ∀ a, ¬ R a a) (asy : ∀ a b, R a b → R b a → False) : ∀ {l m : List α}, l.Pairwise R → m.Pairwise R → (∀ x, x ∈ l ↔ x ∈ m) → l = m
  | [], [], _, _, _ => rfl
  | [], b :: m, _, _, h => by have := (h b).2 (List.mem_cons_self ..); cases this
  | a :: l, [], _, _, h => by have := (h a).1 (List.mem_cons_self ..); cases this
  | a :: l, b :: m, hl, hm, h => by
    have hl' := List.pairwise_cons.1 hl
    have hm' := List.pairwise_cons.1 hm
    have e : a = b := by
      rcases List.mem_cons.1 ((h a).1 (List.mem_cons_self ..)) with e | h1
      · exact e
      · rcases List.mem_cons.1 ((h b).2 (List.mem_cons_self ..)) with e | h2
        · exact e.symm
        · exact (asy _ _ (hm'.1 a h1) (hl'.1 b h2)).elim
    subst e
    congr 1
    refine pw_ext irr asy hl'.2 hm'.2 fun x => ⟨fun hx => ?_, fun hx => ?_⟩
    · rcases List.mem_cons.1 ((h x).1 (List.mem_cons_of_mem _ hx)) with e | h1
      · subst e; exact (irr _ (hl'.1 x hx)).elim
      · exact h1
    · rcases List.mem_cons.1 ((h x).2 (List.mem_cons_of_mem _ hx)) with e | h1
      · subst e; exact (irr _ (hm'.1 x hx)).elim
      · exact h1
theorem mem_setB {x z : D_Blob} : ∀ {l : List D_Blob}, z ∈ setB x l ↔ z = x ∨ (z ∈ l ∧ (z.1 ≠ x.1 ∨ sLt z.1 x.1 = true)) 
  | [] => by simp [setB]
  | y :: ys => by
    unfold setB
    cases h : sLt y.1 x.1 with
    | true =>
      rw [if_pos rfl, List.mem_cons, mem_setB, List.mem_cons]
      constructor
      · rintro (rfl | rfl | ⟨h1, h2⟩)
        · exact .inr ⟨.inl rfl, .inr h⟩
        · exact .inl rfl
        · exact .inr ⟨.inr h1, h2⟩
      · rintro (rfl | ⟨rfl | h1, h2⟩)
        · exact .inr (.inl rfl)
        · exact .inl rfl
        · exact .inr (.inr ⟨h1, h2⟩)
    | false =>
      rw [if_neg (by simp), List.mem_cons, List.mem_filter]
      constructor
      · rintro (rfl | ⟨h1, h2⟩)
        · exact .inl rfl
        · exact .inr ⟨h1, .inl (by simpa using h2)⟩
      · rintro (rfl | ⟨h1, h2⟩)
        · exact .inl rfl
        · rcases h2 with h2 | h2
          · exact .inr ⟨h1, by simpa using h2⟩
          · exact .inr ⟨h1, by simpa using sLt_ne h2⟩
theorem setB_sorted {x : D_Blob} : ∀ {l : List D_Blob}, l.Pairwise (fun a b => sLt a.1 b.1 = true) → (setB x l).Pairwise (fun a b => sLt a.1 b.1 = true)
  | [], _ => by simp [setB]
  | y :: ys, h => by
    have h' := List.pairwise_cons.1 h
    unfold setB
    cases hy : sLt y.1 x.1 with
    | true =>
      rw [if_pos rfl]
      refine List.pairwise_cons.2 ⟨fun z hz => ?_, setB_sorted h'.2⟩
      rcases mem_setB.1 hz with rfl | ⟨hz, _⟩
      · exact hy
      · exact h'.1 z hz
    | false =>
      rw [if_neg (by simp)]
      refine List.pairwise_cons.2 ⟨fun z hz => ?_, h.sublist (List.filter_sublist ..)⟩
      obtain ⟨hz1, hz2⟩ := List.mem_filter.1 hz
      simp only [Bool.not_eq_true', decide_eq_false_iff_not] at hz2
      rcases List.mem_cons.1 hz1 with rfl | hz1
      · cases hx : sLt x.1 z.1 with
        | true => rfl
        | false => exact (hz2 (sLt_tri hy hx)).elim
      · have h1 := h'.1 z hz1
        cases hx : sLt x.1 y.1 with
        | true => exact sLt_trans hx h1
        | false => rw [← sLt_tri hy hx]; exact h1
theorem setB_at {l : List D_Blob} {k : Nat} {x y : D_Blob} (hs : l.Pairwise (fun a b => sLt a.1 b.1 = true)) (hk : l[k]? = some y) (hc : x.1 = y.1) : setB x l = l.set k x := by
  induction l generalizing k with
  | nil => simp at hk
  | cons z zs ih =>
    have hs' := List.pairwise_cons.1 hs
    unfold setB
    cases k with
    | zero =>
      obtain rfl := Option.some.inj hk
      rw [hc, sLt_irrefl, if_neg (by simp), List.set_cons_zero, List.filter_cons_of_neg (by simp)]
      congr 1
      refine List.filter_eq_self.2 fun w hw => ?_
      have := sLt_ne (hs'.1 w hw)
      simp only [Bool.not_eq_true', decide_eq_false_iff_not]
      exact fun e => this e.symm
    | succ k =>
      have hy : y ∈ zs := List.mem_of_getElem? (by simpa using hk)
      have := hs'.1 y hy
      rw [hc, this, if_pos rfl, List.set_cons_succ, ih hs'.2 (by simpa using hk)]
theorem sortBlobs_new {l : List D_Blob} {x : D_Blob} (hl : l.length ≤ 1000) (hs : l.Pairwise (fun a b => sLt a.1 b.1 = true)) (hx : ∀ y, y ∈ l → y.1 ≠ x.1) : sortBlobs (l ++ [x]) = some (setB x l) := by
  unfold sortBlobs sortFP
  have hlen : (l ++ [x]).length ≤ 4294967296 := by rw [List.length_append]; simp; omega
  rw [if_pos hlen]
  congr 1
  have h := Sort.pdq_sorts (Go.Proofs.ltOf cfB) swoB (l ++ [x]).toArray 0 (l ++ [x]).toArray.size (Lib.bitLen (l ++ [x]).length) true true (Nat.zero_le _) (Nat.le_refl _) (Or.inl rfl)
  rw [List.size_toArray] at h
  generalize Sort.pdq (Go.Proofs.ltOf cfB) (l ++ [x]).toArray 0 (l ++ [x]).length (Lib.bitLen (l ++ [x]).length) true true = ys at h
  obtain ⟨⟨h1, _, h2⟩, h3⟩ := h
  have hsz : ys.size = (l ++ [x]).length := by simpa using h1
  have hperm : ys.toList.Perm (l ++ [x]) := by
    have e1 : ys.extract 0 (l ++ [x]).length = ys := by rw [← hsz]; exact Array.extract_size
    have e2 : (l ++ [x]).toArray.extract 0 (l ++ [x]).length = (l ++ [x]).toArray := by
      have := Array.extract_size (xs := (l ++ [x]).toArray); simpa using this
    rw [e1, e2] at h2
    simpa using h2
  refine pw_ext (R := fun a b : D_Blob => sLt a.1 b.1 = true) (fun a h => by rw [sLt_irrefl] at h; cases h) (fun a b h1 h2 => by rw [sLt_asymm h1] at h2; cases h2) ?_ (setB_sorted hs) ?_
  · have hnd : (ys.toList.map (·.1)).Nodup := by
      have hp2 := hperm.map (fun z : D_Blob => z.1)
      rw [hp2.nodup_iff, List.map_append, List.nodup_append]
      refine ⟨?_, by simp, ?_⟩
      · exact List.pairwise_map.2 (hs.imp fun h => sLt_ne h)
      · intro a ha b hb
        obtain ⟨z, hz, rfl⟩ := List.mem_map.1 ha
        simp at hb
        subst hb
        exact hx z hz
    rw [List.pairwise_iff_getElem]
    intro i j hi hj hij
    have hij3 := h3 i j (Nat.zero_le _) hij (by rw [← hsz]; simpa using hj)
    rw [ltB_eq] at hij3
    have gi : ys[i]! = ys.toList[i] := by simp at hi; simp [hi]
    have gj : ys[j]! = ys.toList[j] := by simp at hj; simp [hj]
    rw [gi, gj] at hij3
    cases hlt : sLt (ys.toList[i]).1 (ys.toList[j]).1 with
    | true => rfl
    | false =>
      have e := sLt_tri hlt hij3
      have := (List.pairwise_iff_getElem.1 hnd) i j (by simpa using hi) (by simpa using hj) hij
      rw [List.getElem_map, List.getElem_map] at this
      exact (this e).elim
  · intro z
    rw [hperm.mem_iff, List.mem_append, List.mem_singleton, mem_setB]
    constructor
    · rintro (h | rfl)
      · exact .inr ⟨h, .inl (hx z h)⟩
      · exact .inl rfl
    · rintro (rfl | ⟨h, _⟩)
      · exact .inr rfl
      · exact .inl h
/-- A chunk is stored. -/
def blobPutD (d : D_Blobs) (s : ByteArray) : D_Blobs × ByteArray × Int := if blobsOk d then (if 40 < s.size then (d, ByteArray.empty, 1) else
  if ((d.2.findIdx? (fun x => decide (x.1 = short s))).bind fun k => d.2[k]?).any (fun x => !x.2.2) then (d, short s, 0) else
  if blobsOk (d.1, setB (short s, s, false) d.2) then ((d.1, setB (short s, s, false) d.2), short s, 0) else (d, ByteArray.empty, 2)) else ((0, []), ByteArray.empty, 1)
theorem setB_len (x : D_Blob) : ∀ l : List D_Blob, (setB x l).length ≤ l.length + 1
  | [] => by simp [setB]
  | y :: ys => by
    unfold setB
    split
    · have := setB_len x ys; simp; omega
    · have := List.length_filter_le (fun z : D_Blob => !decide (z.1 = x.1)) (y :: ys); simp only [List.length_cons] at this ⊢; omega
theorem i_BlobPut_eq {d : D_Blobs} {s : ByteArray} (h : d.2.length ≤ 9223372036854775807) : i_BlobPut d s = some (blobPutD d s) := by
  unfold i_BlobPut blobPutD
  simp only [Prod.eta, i_BlobsOk_eq h, Option.bind_some]
  cases hk : blobsOk d with
  | false => rfl
  | true =>
    obtain ⟨hn, _, hs⟩ := blobsOk_facts hk
    have hcp := i_copyBlobs_eq (d := d) (by omega)
    simp only [Bool.not_true, cond_false, if_true, hcp, Option.bind_some]
    by_cases h40 : 40 < s.size
    · rw [decide_eq_true (show (40 : Int) < s.size by omega), if_pos h40]; rfl
    rw [decide_eq_false (show ¬ (40 : Int) < s.size by omega), if_neg h40, cond_false, i_Short_eq (s := s) (by omega), Option.bind_some, i_Blobs_at_eq h, Option.bind_some]
    have hset := setB_len (short s, s, false) d.2
    have hok := i_BlobsOk_eq (d := (d.1, setB (short s, s, false) d.2)) (by dsimp only; omega)
    rcases firstI_get (fun x : D_Blob => decide (x.1 = short s)) d.2 with ⟨h1, h2⟩ | ⟨k, x, h1, h2, h3, h4⟩
    · rw [h1, h2, show decide ((-1 : Int) < 0) = true from rfl, cond_true, appP_ok (by simp; omega), Option.bind_some]
      rw [sortBlobs_new (by omega) hs (fun y hy => by have := List.findIdx?_eq_none_iff.1 h2 y hy; simpa using this), Option.bind_some, hok, Option.bind_some]
      simp only [Option.bind_none, Option.any_none, Bool.false_eq_true, if_false]
      cases blobsOk (d.1, setB (short s, s, false) d.2) <;> rfl
    · rw [h1, h2, show decide ((k : Int) < 0) = false from decide_eq_false (by omega), cond_false, idx_nat, h3, Option.bind_some, show ((some k : Option Nat).bind fun k => d.2[k]?) = some x from h3]
      simp only [Option.any_some]
      rcases Bool.eq_false_or_eq_true x.2.2 with hb | hb
      · simp only [hb, cond_true, idx_nat, h3, Option.bind_some]
        rw [show ((k : Int)).toNat = k by omega, ← setB_at (x := (short s, s, false)) hs h3 (by simpa using (of_decide_eq_true h4).symm), hok, Option.bind_some]
        simp only [Bool.not_true, Bool.false_eq_true, if_false]
        cases blobsOk (d.1, setB (short s, s, false) d.2) <;> rfl
      · simp only [hb, cond_false, i_BlobsOk_eq h, hk, Option.bind_some]; rfl
theorem s_BlobPut_eq {d : D_Blobs} {s : ByteArray} (h : d.2.length ≤ 9223372036854775807) : s_BlobPut d s = some (blobPutD d s) := by
  unfold s_BlobPut blobPutD
  simp only [Prod.eta, s_BlobsOk_eq h, Option.bind_some]
  cases hk : blobsOk d with
  | false => rfl
  | true =>
    obtain ⟨hn, _, hs⟩ := blobsOk_facts hk
    have hcp := s_l7Copy_eq (d := d) (by omega)
    simp only [Bool.not_true, cond_false, if_true, hcp, Option.bind_some]
    by_cases h40 : 40 < s.size
    · rw [decide_eq_true (show (40 : Int) < s.size by omega), if_pos h40]; rfl
    rw [decide_eq_false (show ¬ (40 : Int) < s.size by omega), if_neg h40, cond_false, s_Short_eq (s := s) (by omega), Option.bind_some, s_l7At_eq h, Option.bind_some]
    have hset := setB_len (short s, s, false) d.2
    have hok := s_BlobsOk_eq (d := (d.1, setB (short s, s, false) d.2)) (by dsimp only; omega)
    have hloop : ∀ (f : Bool × Int × List D_Blob → Option ((Bool × Int × List D_Blob) ⊕ (D_Blobs × ByteArray × Int))) (g : List D_Blob → Option (D_Blobs × ByteArray × Int)),
        (∀ (k : Nat) (t : Bool × List D_Blob) (y : D_Blob), d.2[k]? = some y → t.2.length ≤ 2 * k → f (t.1, (k : Int), t.2) = some (.inl ((stepB (short s, s, false) t y).1, IntKind.wrap .i64 ((k : Int) + 1), (stepB (short s, s, false) t y).2))) →
        (∀ t : Bool × List D_Blob, t.2.length ≤ 1000 → f (t.1, (d.2.length : Int), t.2) = Option.map .inr (if !t.1 then g (t.2 ++ [(short s, s, false)]) else g t.2)) → whileP f (false, 0, []) = g (setB (short s, s, false) d.2) := by
      intro f g hf he
      rw [whileP_for (l := d.2) (fun k (t : Bool × List D_Blob) => (t.1, (k : Int), t.2)) (fun t y => .inl (stepB (short s, s, false) t y)) (fun t => if !t.1 then g (t.2 ++ [(short s, s, false)]) else g t.2) (fun k t => t.2.length ≤ 2 * k) (false, []) (s0 := (false, 0, [])) rfl (Nat.le_refl _), goE_fold]
      · have := stepB_false (short s, s, false) d.2 []
        simp only [List.nil_append] at this
        rw [← this]
        generalize d.2.foldl (stepB (short s, s, false)) (false, []) = t
        obtain ⟨b, a⟩ := t
        cases b <;> rfl
      · intro k t y hy ht
        have hlt := (List.getElem?_eq_some_iff.1 hy).1
        refine .inl ⟨_, rfl, ?_, ?_⟩
        · rw [hf k t y hy ht, wrap_succ (by omega)]
        · unfold stepB
          dsimp only
          split <;> split <;> first | omega | (simp; omega)
      · intro t ht
        exact he t (by omega)
    have hput : ∀ (f : Bool × Int × List D_Blob → Option ((Bool × Int × List D_Blob) ⊕ (D_Blobs × ByteArray × Int))),
        (∀ (k : Nat) (t : Bool × List D_Blob) (y : D_Blob), d.2[k]? = some y → t.2.length ≤ 2 * k → f (t.1, (k : Int), t.2) = some (.inl ((stepB (short s, s, false) t y).1, IntKind.wrap .i64 ((k : Int) + 1), (stepB (short s, s, false) t y).2))) →
        (∀ t : Bool × List D_Blob, t.2.length ≤ 1000 → f (t.1, (d.2.length : Int), t.2) = Option.map .inr (cond (!t.1) (Option.bind (appP t.2 [(short s, s, false)]) fun y25 => Option.bind (s_BlobsOk (d.1, y25)) fun y26 => cond (!y26) (some (d, ByteArray.empty, 2)) (some ((d.1, y25), short s, 0))) (Option.bind (s_BlobsOk (d.1, t.2)) fun y29 => cond (!y29) (some (d, ByteArray.empty, 2)) (some ((d.1, t.2), short s, 0))))) →
        whileP f (false, 0, []) = some (if blobsOk (d.1, setB (short s, s, false) d.2) then ((d.1, setB (short s, s, false) d.2), short s, 0) else (d, ByteArray.empty, 2)) := by
      intro f hf he
      rw [hloop f (fun m => Option.bind (s_BlobsOk (d.1, m)) fun y => cond (!y) (some (d, ByteArray.empty, 2)) (some ((d.1, m), short s, 0))) hf ?_]
      · rw [hok, Option.bind_some]
        cases blobsOk (d.1, setB (short s, s, false) d.2) <;> rfl
      · intro t ht
        rw [he t ht, appP_ok (by simp; omega)]
        cases t.1 <;> rfl
    have hbody : ∀ (k : Nat) (t : Bool × List D_Blob) (y : D_Blob), d.2[k]? = some y → t.2.length ≤ 2 * k →
        jbind (gb (!t.1) (some y) (fun y13 => cond ((!t.1) && (!sLt y13.1 (short s))) (Option.bind (appP t.2 [(short s, s, false)]) fun y16 => some (.inl (true, y16))) (some (.inl (t.1, t.2))))) (fun s12 : Bool × (List D_Blob) => Option.bind (some y) fun y17 => cond (!decide (y17.1 = short s)) (Option.bind (some y) fun y19 => Option.bind (appP s12.2 [y19]) fun y21 => some (.inl (s12.1, IntKind.wrap .i64 ((k : Int) + 1), y21))) (some (.inl (s12.1, IntKind.wrap .i64 ((k : Int) + 1), s12.2)))) = some (Sum.inl (β := D_Blobs × ByteArray × Int) ((stepB (short s, s, false) t y).1, IntKind.wrap .i64 ((k : Int) + 1), (stepB (short s, s, false) t y).2)) := by
      intro k t y hy ht
      obtain ⟨b, a⟩ := t
      have hlt := (List.getElem?_eq_some_iff.1 hy).1
      dsimp only at ht ⊢
      have a1 : ∀ (c : List D_Blob) z, c.length ≤ 2 * k + 1 → appP c [z] = some (c ++ [z]) := fun c z hc => appP_ok (by simp; omega)
      unfold stepB
      rw [a1 a _ (by omega)]
      cases b <;> cases h1 : sLt y.1 (short s) <;> cases h2 : decide (y.1 = short s) <;> simp [gb, jbind, h1, h2, a1 _ _ (show (a ++ [(short s, s, false)]).length ≤ 2 * k + 1 by simp; omega), a1 a _ (show a.length ≤ 2 * k + 1 by omega)]
    rcases firstI_get (fun x : D_Blob => decide (x.1 = short s)) d.2 with ⟨h1, h2⟩ | ⟨k, x, h1, h2, h3, h4⟩
    · rw [h1, h2, show decide (0 ≤ (-1 : Int)) = false from rfl, gb_false, Bool.false_and, cond_false]
      simp only [Option.bind_none, Option.any_none, Bool.false_eq_true, if_false]
      refine hput _ (fun k t y hy ht => ?_) (fun t ht => ?_)
      · simp only [lt_dec (List.getElem?_eq_some_iff.1 hy).1, cond_true, idx_nat, hy]
        exact hbody k t y hy ht
      · simp only [ge_dec]; rfl
    · rw [h1, h2, show decide (0 ≤ (k : Int)) = true from decide_eq_true (by omega), gb_true, idx_nat, h3, Option.bind_some, show ((some k : Option Nat).bind fun k => d.2[k]?) = some x from h3, Bool.true_and]
      simp only [Option.any_some]
      rcases Bool.eq_false_or_eq_true x.2.2 with hb | hb
      rotate_left
      · simp only [hb]; rfl
      · simp only [hb, Bool.not_true, cond_false, Bool.false_eq_true, if_false]
        refine hput _ (fun k t y hy ht => ?_) (fun t ht => ?_)
        · simp only [lt_dec (List.getElem?_eq_some_iff.1 hy).1, cond_true, idx_nat, hy]
          exact hbody k t y hy ht
        · simp only [ge_dec]; rfl
end Go.Proofs.SL
