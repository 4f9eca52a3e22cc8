/- What a snapshot's restoring computes. -/
import Derived.Test.YtndhmnoehapdhaaDoorPJ
import Derived.Test.YtndhmnoehapdhaaDoorPC
import Derived.Test.YtndhmnoehapdhaaDoorWD
namespace Go.Proofs.SL
open Go
theorem s_l15At_eq {c : D_Catalog} {n : ByteArray} (h : c.length ≤ 9223372036854775807) : s_l15At c n = some (firstI (fun s : D_CSet => decide (s.1 = n)) c) := by
  unfold s_l15At
  rw [whileP_find (fun s : D_CSet => decide (s.1 = n)) some h]
  · intro k x hx
    simp only [lt_dec (List.getElem?_eq_some_iff.1 hx).1, cond_true, idx_nat, hx, Option.bind_some]
    cases decide (x.1 = n) <;> rfl
  · simp only [ge_dec]; rfl
theorem i_Catalog_set_eq {c : D_Catalog} {n : ByteArray} (h : c.length ≤ 9223372036854775807) : i_Catalog_set c n = some (firstI (fun s : D_CSet => decide (s.1 = n)) c) := by
  unfold i_Catalog_set sl_IndexFunc_implCSetimplCSet i_Catalog_set_c1
  rw [whileP_find (fun s : D_CSet => decide (s.1 = n)) some h]
  · rfl
  · intro k x hx
    simp only [lt_dec (List.getElem?_eq_some_iff.1 hx).1, cond_true, idx_nat, hx, Option.bind_some]
    cases decide (x.1 = n) <;> rfl
  · simp only [ge_dec]; rfl
/-- What is got is short. -/
theorem blobGet_size {d : D_Blobs} {c : ByteArray} (h : (blobGetD d c).2 = 0) : (blobGetD d c).1.size ≤ 40 := by
  unfold blobGetD bFind at *
  split at h
  · rename_i hk
    obtain ⟨_, h2, _⟩ := blobsOk_facts hk
    rw [if_pos hk]
    split at h
    · cases h
    · rename_i x hx
      split at h
      · cases h
      · rename_i hb
        rw [if_neg hb]
        have := h2 x (List.mem_of_find?_eq_some hx)
        unfold okB at this
        simp only [Bool.and_eq_true, Bool.not_eq_true', decide_eq_false_iff_not] at this
        dsimp only
        omega
  · cases h
theorem fetch_size (c : ByteArray) : ∀ (ds : List D_Blobs) (n : Int), n ≠ 0 → (fetchGo c ds n).2 = 0 → (fetchGo c ds n).1.size ≤ 40
  | [], n, hn, h => (hn h).elim
  | d :: ds, n, hn, h => by
    unfold fetchGo at h ⊢
    by_cases h0 : (blobGetD d c).2 = 0
    · rw [if_pos h0]; exact blobGet_size h0
    · rw [if_neg h0] at h ⊢
      exact fetch_size c ds _ (by split <;> omega) h
/-- The chunks of a snapshot, one behind the other. -/
def allGo (st : List D_Blobs) : List ByteArray → ByteArray → ByteArray × Int
  | [], acc => (acc, 0)
  | c :: cs, acc => if (fetchGo c st 2).2 = 0 then allGo st cs (acc ++ (fetchGo c st 2).1) else (ByteArray.empty, (fetchGo c st 2).2)
def allStep (st : List D_Blobs) (t : ByteArray) (x : ByteArray) : ByteArray ⊕ Option (ByteArray × Int) := if (fetchGo x st 2).2 = 0 then .inl (t ++ (fetchGo x st 2).1) else .inr (some (ByteArray.empty, (fetchGo x st 2).2))
theorem all_go (st : List D_Blobs) : ∀ (l : List ByteArray) (t : ByteArray), goE (allStep st) (fun t => some (t, (0 : Int))) l t = some (allGo st l t)
  | [], t => rfl
  | c :: cs, t => by
    by_cases h : (fetchGo c st 2).2 = 0
    · simp only [goE, allGo, allStep, h, if_true]; exact all_go st cs _
    · simp only [goE, allGo, allStep, h, if_false]
theorem all_loop {st : List D_Blobs} {l : List ByteArray} {f : ByteArray × Int → Option ((ByteArray × Int) ⊕ (ByteArray × Int))} (hl : l.length ≤ 1000)
    (hf : ∀ (k : Nat) (t x : ByteArray), l[k]? = some x → f (t, (k : Int)) = cond (!decide ((fetchGo x st 2).2 = 0)) (Option.map .inr (some (ByteArray.empty, (fetchGo x st 2).2))) (Option.bind (catP t (fetchGo x st 2).1) fun y => some (.inl (y, IntKind.wrap .i64 ((k : Int) + 1)))))
    (he : ∀ t, f (t, (l.length : Int)) = Option.map .inr (some (t, (0 : Int)))) : whileP f (ByteArray.empty, 0) = some (allGo st l ByteArray.empty) := by
  rw [whileP_for (l := l) (fun k (t : ByteArray) => (t, (k : Int))) (allStep st) (fun t => some (t, (0 : Int))) (fun k t => t.size ≤ 40 * k) ByteArray.empty (s0 := (ByteArray.empty, 0)) rfl (by simp), all_go]
  · intro k t x hx ht
    have hlt := (List.getElem?_eq_some_iff.1 hx).1
    rw [hf k t x hx]
    by_cases h0 : (fetchGo x st 2).2 = 0
    · have hs := fetch_size x st 2 (by omega) h0
      refine .inl ⟨t ++ (fetchGo x st 2).1, if_pos h0, ?_, by rw [ByteArray.size_append]; omega⟩
      rw [decide_eq_true h0, catP_ok (by omega), wrap_succ (by omega)]; rfl
    · refine .inr ⟨_, if_neg h0, ?_⟩
      rw [decide_eq_false h0]; rfl
  · intro t _
    exact he t
theorem s_l21All_eq {st : List D_Blobs} {l : List ByteArray} (h : st.length ≤ 9223372036854775807) (hs : ∀ d, d ∈ st → d.2.length ≤ 9223372036854775807) (hl : l.length ≤ 1000) : s_l21All st l = some (allGo st l ByteArray.empty) := by
  unfold s_l21All
  refine all_loop hl (fun k t x hx => ?_) (fun t => ?_)
  · simp only [lt_dec (List.getElem?_eq_some_iff.1 hx).1, cond_true, idx_nat, hx, Option.bind_some, s_Fetch_eq h hs]
  · simp only [ge_dec]; rfl
/-- What a snapshot's name yields. -/
def restoreD (c : D_Catalog) (st : List D_Blobs) (a b : ByteArray) : ByteArray × Int := if catOkB c then (match c.find? (fun s => decide (s.1 = a)) with
  | none => (ByteArray.empty, 1)
  | some s => match s.2.find? (fun p => decide (p.1 = b)) with
    | none => (ByteArray.empty, 1)
    | some p => allGo st p.2.2 ByteArray.empty) else (ByteArray.empty, 1)
theorem s_Restore_eq {c : D_Catalog} {st : List D_Blobs} {a b : ByteArray} (ho : Ok.ok c) (h : st.length ≤ 9223372036854775807) (hs : ∀ d, d ∈ st → d.2.length ≤ 9223372036854775807) : s_Restore c st a b = some (restoreD c st a b) := by
  have hc1 : c.length ≤ 9223372036854775807 := ho.1
  have hc2 : ∀ s, s ∈ c → s.2.length ≤ 9223372036854775807 := fun s hs => (ho.2 s hs).2.1
  unfold s_Restore restoreD
  simp only [s_l15At_eq hc1, s_CatOk_eq ho, Option.bind_some]
  cases hk : catOkB c with
  | false => rfl
  | true =>
    obtain ⟨_, hc3⟩ := catOk_facts hk
    rcases firstI_find (fun s : D_CSet => decide (s.1 = a)) c with ⟨h1, h2⟩ | ⟨k, s, h1, h2, h3, _⟩
    · rw [h1, h2]; rfl
    · have hsm := List.mem_of_getElem? h2
      rw [h1, h3, idx_nat, h2, show decide ((k : Int) < 0) = false from decide_eq_false (by omega)]
      simp only [Bool.not_true, Bool.or_false, cond_false, Option.bind_some, Prod.eta, s_l15Find_eq (hc2 s hsm), if_true]
      rcases firstI_find (fun p : D_CSnap => decide (p.1 = b)) s.2 with ⟨g1, g2⟩ | ⟨j, p, g1, g2, g3, _⟩
      · rw [g1, g2]; rfl
      · have hpm := List.mem_of_getElem? g2
        rw [g1, g3, idx_nat, g2, show decide ((j : Int) < 0) = false from decide_eq_false (by omega)]
        have hl := ((hc3 s hsm).2 p hpm).1
        simp only [cond_false, Option.bind_some, s_l21All_eq h hs (show p.2.2.length ≤ 1000 by omega), Prod.eta]
theorem i_Restore_eq {c : D_Catalog} {st : List D_Blobs} {a b : ByteArray} (ho : Ok.ok c) (h : st.length ≤ 9223372036854775807) (hs : ∀ d, d ∈ st → d.2.length ≤ 9223372036854775807) : i_Restore c st a b = some (restoreD c st a b) := by
  have hc1 : c.length ≤ 9223372036854775807 := ho.1
  have hc2 : ∀ s, s ∈ c → s.2.length ≤ 9223372036854775807 := fun s hs => (ho.2 s hs).2.1
  unfold i_Restore restoreD
  simp only [i_Catalog_set_eq hc1, i_CatOk_eq ho, Option.bind_some]
  cases hk : catOkB c with
  | false => simp only [Bool.not_false, Bool.true_or, Bool.not_true, gb_false, cond_true]; rfl
  | true =>
    obtain ⟨_, hc3⟩ := catOk_facts hk
    rcases firstI_find (fun s : D_CSet => decide (s.1 = a)) c with ⟨h1, h2⟩ | ⟨k, s, h1, h2, h3, _⟩
    · rw [h1, h2, show decide ((-1 : Int) < 0) = true from rfl]
      simp only [Bool.or_true, Bool.not_true, gb_false, Bool.true_or, cond_true]; rfl
    · have hsm := List.mem_of_getElem? h2
      rw [h1, h3, idx_nat, h2, show decide ((k : Int) < 0) = false from decide_eq_false (by omega)]
      simp only [Bool.not_true, Bool.or_false, Bool.not_false, gb_true, cond_false, Option.bind_some, Prod.eta, i_CSet_snap_eq (hc2 s hsm), if_true]
      rcases firstI_find (fun p : D_CSnap => decide (p.1 = b)) s.2 with ⟨g1, g2⟩ | ⟨j, p, g1, g2, g3, _⟩
      · rw [g1, g2]; rfl
      · have hpm := List.mem_of_getElem? g2
        rw [g1, g3, idx_nat, g2, show decide ((j : Int) < 0) = false from decide_eq_false (by omega)]
        have hl := ((hc3 s hsm).2 p hpm).1
        simp only [Bool.or_self, cond_false, Option.bind_some]
        refine all_loop (show p.2.2.length ≤ 1000 by omega) (fun k t x hx => ?_) (fun t => ?_)
        · simp only [lt_dec (List.getElem?_eq_some_iff.1 hx).1, cond_true, idx_nat, hx, Option.bind_some, i_Fetch_eq h hs]
        · simp only [ge_dec]; rfl
/-- Whether each snapshot can be restored. -/
def wholeB (c : D_Catalog) (st : List D_Blobs) : Bool := catOkB c && c.all fun s => s.2.all fun p => decide ((allGo st p.2.2 ByteArray.empty).2 = 0)
theorem s_Whole_eq {c : D_Catalog} {st : List D_Blobs} (ho : Ok.ok c) (h : st.length ≤ 9223372036854775807) (hs : ∀ d, d ∈ st → d.2.length ≤ 9223372036854775807) : s_Whole c st = some (wholeB c st) := by
  have hc1 : c.length ≤ 9223372036854775807 := ho.1
  have hc2 : ∀ s, s ∈ c → s.2.length ≤ 9223372036854775807 := fun s hs => (ho.2 s hs).2.1
  unfold s_Whole wholeB
  simp only [s_CatOk_eq ho, Option.bind_some]
  cases hk : catOkB c with
  | false => rfl
  | true =>
    obtain ⟨_, hc3⟩ := catOk_facts hk
    simp only [Bool.not_true, cond_false, Bool.true_and]
    rw [each_loop (l := c) (p := fun s => s.2.all fun p => decide ((allGo st p.2.2 ByteArray.empty).2 = 0)) (no := some false) (yes := some true) hc1]
    · cases c.all fun s => s.2.all fun p => decide ((allGo st p.2.2 ByteArray.empty).2 = 0) <;> rfl
    · intro k s hx
      have hsm := List.mem_of_getElem? hx
      simp only [lt_dec (List.getElem?_eq_some_iff.1 hx).1, cond_true, idx_nat, hx, Option.bind_some]
      rw [each_loop (l := s.2) (p := fun p => decide ((allGo st p.2.2 ByteArray.empty).2 = 0)) (no := some (.inr false)) (yes := some (.inl (IntKind.wrap .i64 ((k : Int) + 1)))) (hc2 s hsm)]
      · rfl
      · intro j p hj
        have hl := ((hc3 s hsm).2 p (List.mem_of_getElem? hj)).1
        simp only [lt_dec (List.getElem?_eq_some_iff.1 hj).1, cond_true, idx_nat, hj, Option.bind_some, s_l21All_eq h hs (show p.2.2.length ≤ 1000 by omega)]
        by_cases h0 : (allGo st p.2.2 ByteArray.empty).2 = 0
        · simp [h0]
        · simp [h0]
      · simp only [ge_dec]; rfl
    · simp only [ge_dec]; rfl
theorem i_Whole_go {c : D_Catalog} {st : List D_Blobs} (ho : Ok.ok c) (h : st.length ≤ 9223372036854775807) (hs : ∀ d, d ∈ st → d.2.length ≤ 9223372036854775807) : i_Whole c st = some ((c.all fun s => s.2.all fun p => decide ((restoreD c st s.1 p.1).2 = 0)) && catOkB c) := by
  have hc1 : c.length ≤ 9223372036854775807 := ho.1
  have hc2 : ∀ s, s ∈ c → s.2.length ≤ 9223372036854775807 := fun s hs => (ho.2 s hs).2.1
  unfold i_Whole
  simp only [i_CatOk_eq ho, Option.bind_some]
  rw [each_loop (l := c) (p := fun s => s.2.all fun p => decide ((restoreD c st s.1 p.1).2 = 0)) (no := some false) (yes := some (catOkB c)) hc1]
  · cases c.all fun s => s.2.all fun p => decide ((restoreD c st s.1 p.1).2 = 0) <;> rfl
  · intro k s hx
    have hsm := List.mem_of_getElem? hx
    simp only [lt_dec (List.getElem?_eq_some_iff.1 hx).1, cond_true, idx_nat, hx, Option.bind_some]
    rw [each_loop (l := s.2) (p := fun p => decide ((restoreD c st s.1 p.1).2 = 0)) (no := some (.inr false)) (yes := some (.inl (IntKind.wrap .i64 ((k : Int) + 1)))) (hc2 s hsm)]
    · rfl
    · intro j p hj
      simp only [lt_dec (List.getElem?_eq_some_iff.1 hj).1, cond_true, idx_nat, hj, Option.bind_some, i_Restore_eq ho h hs]
      by_cases h0 : (restoreD c st s.1 p.1).2 = 0
      · simp [h0]
      · simp [h0]
    · simp only [ge_dec]; rfl
  · simp only [ge_dec]; rfl
/-- In a valid catalog the names find what bears them. -/
theorem catOk_names {c : D_Catalog} (h : catOkB c = true) : ∀ s, s ∈ c → c.find? (fun q => decide (q.1 = s.1)) = some s ∧ ∀ p, p ∈ s.2 → s.2.find? (fun q => decide (q.1 = p.1)) = some p := by
  unfold catOkB at h
  simp only [Bool.and_eq_true, decide_eq_true_eq, List.all_eq_true, List.mem_range] at h
  have hs : c.Pairwise (fun a b : D_CSet => sLt a.1 b.1 = true) := pairwise_of_step (R := fun a b : D_CSet => sLt a.1 b.1 = true) (fun a b c => sLt_trans) c fun k hk => by
    have := h.2 (k + 1) hk
    unfold setAt at this
    rw [List.getElem?_eq_getElem hk] at this
    simp only [Bool.and_eq_true, decide_eq_true_eq, Bool.or_eq_true, Nat.add_sub_cancel, List.getElem?_eq_getElem (show k < c.length by omega), Option.all_some] at this
    rcases this.2 with h2 | h2
    · omega
    · exact h2
  intro s hm
  constructor
  · clear h
    induction c with
    | nil => cases hm
    | cons x xs ih =>
      have hs' := List.pairwise_cons.1 hs
      rcases List.mem_cons.1 hm with rfl | hm
      · simp
      · have := sLt_ne (hs'.1 s hm)
        rw [List.find?_cons_of_neg (by simpa using this)]
        exact ih hs'.2 hm
  · intro p hp
    obtain ⟨k, hk⟩ := List.getElem?_of_mem hm
    have h1 := h.2 k (List.getElem?_eq_some_iff.1 hk).1
    unfold setAt setOkB at h1
    rw [hk] at h1
    simp only [Bool.and_eq_true, decide_eq_true_eq, List.all_eq_true, List.mem_range] at h1
    obtain ⟨j, hj⟩ := List.getElem?_of_mem hp
    have h2 := h1.1.2 j (List.getElem?_eq_some_iff.1 hj).1
    unfold snapAt at h2
    rw [hj] at h2
    simp only [Bool.and_eq_true, decide_eq_true_eq] at h2
    rcases firstI_find (fun q : D_CSnap => decide (q.1 = p.1)) s.2 with ⟨g1, g2⟩ | ⟨i, q, g1, g2, g3, _⟩
    · rw [g1] at h2; omega
    · rw [g1] at h2
      obtain rfl : i = j := by omega
      rw [g3, ← g2, hj]
theorem i_Whole_eq {c : D_Catalog} {st : List D_Blobs} (ho : Ok.ok c) (h : st.length ≤ 9223372036854775807) (hs : ∀ d, d ∈ st → d.2.length ≤ 9223372036854775807) : i_Whole c st = some (wholeB c st) := by
  rw [i_Whole_go ho h hs]
  unfold wholeB
  cases hk : catOkB c with
  | false => simp
  | true =>
    rw [Bool.and_true, Bool.true_and]
    congr 1
    rw [Bool.eq_iff_iff]
    simp only [List.all_eq_true]
    have e : ∀ s, s ∈ c → ∀ p, p ∈ s.2 → restoreD c st s.1 p.1 = allGo st p.2.2 ByteArray.empty := by
      intro s hm p hp
      obtain ⟨e1, e2⟩ := catOk_names hk s hm
      unfold restoreD
      rw [if_pos hk, e1]
      dsimp only
      rw [e2 p hp]
    exact ⟨fun g s hm p hp => by have := g s hm p hp; rwa [e s hm p hp] at this, fun g s hm p hp => by rw [e s hm p hp]; exact g s hm p hp⟩
end Go.Proofs.SL
