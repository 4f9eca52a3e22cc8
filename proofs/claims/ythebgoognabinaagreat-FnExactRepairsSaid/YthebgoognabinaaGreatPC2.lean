/- All chunks of a catalog; Safe and Lost. -/
import Derived.Test.YthebgoognabinaaGreatPC
import Derived.Test.YthebgoognabinaaGreatWD
import Derived.Test.YthebgoognabinaaGreatPL3
namespace Go.Proofs.SL
open Go
theorem s_l15In_eq {l : List ByteArray} {n : ByteArray} (h : l.length ≤ 9223372036854775807) : s_l15In l n = some (l.any fun x => decide (x = n)) := by
  unfold s_l15In
  rw [whileP_find (fun x => decide (x = n)) (fun i => some (decide (0 ≤ i))) h, firstI_any]
  · intro k x hx
    simp only [lt_dec (List.getElem?_eq_some_iff.1 hx).1, cond_true, idx_nat, hx, Option.bind_some]
    cases decide (x = n) <;> simp
  · simp only [ge_dec]; rfl
def insL (x : ByteArray) : List ByteArray → List ByteArray
  | [] => [x]
  | y :: ys => if !sLt y x && !decide (y = x) then x :: y :: ys else y :: insL x ys
def putL (l : List ByteArray) (x : ByteArray) : List ByteArray := if l.any (fun y => decide (y = x)) then l else insL x l
def putStep (x : ByteArray) (t : List ByteArray × Bool) (y : ByteArray) : List ByteArray × Bool := if !t.2 && (!sLt y x && !decide (y = x)) then (t.1 ++ [x] ++ [y], true) else (t.1 ++ [y], t.2)
theorem putStep_true (x : ByteArray) : ∀ (ys acc : List ByteArray), ys.foldl (putStep x) (acc, true) = (acc ++ ys, true)
  | [], acc => by simp
  | y :: ys, acc => by
    rw [List.foldl_cons]
    unfold putStep
    simp only [Bool.not_true, Bool.false_and, Bool.false_eq_true, if_false]
    have := putStep_true x ys (acc ++ [y])
    unfold putStep at this
    rw [this]; simp
theorem putStep_false (x : ByteArray) : ∀ (ys acc : List ByteArray), (let t := ys.foldl (putStep x) (acc, false); if !t.2 then t.1 ++ [x] else t.1) = acc ++ insL x ys
  | [], acc => by simp [insL]
  | y :: ys, acc => by
    rw [List.foldl_cons]
    cases h : (!sLt y x && !decide (y = x)) with
    | true =>
      have : putStep x (acc, false) y = (acc ++ [x] ++ [y], true) := by unfold putStep; simp only [h]; rfl
      rw [this, putStep_true]
      simp only [insL, h, if_true]
      simp
    | false =>
      have : putStep x (acc, false) y = (acc ++ [y], false) := by unfold putStep; simp only [h]; rfl
      rw [this, putStep_false x ys (acc ++ [y])]
      simp only [insL, h, Bool.false_eq_true, if_false]
      simp
theorem s_l15Put_eq {l : List ByteArray} {x : ByteArray} (h : l.length ≤ 1000) : s_l15Put l x = some (putL l x) := by
  unfold s_l15Put
  simp only [Option.bind_some, s_l15In_eq (l := l) (n := x) (by omega)]
  rw [whileP_for (l := l) (fun k (t : List ByteArray × Bool) => (t.1, t.2, (k : Int))) (fun t y => .inl (putStep x t y)) (fun t => some (if !t.2 then t.1 ++ [x] else t.1)) (fun k t => t.1.length ≤ 2 * k) ([], l.any fun y => decide (y = x)) (s0 := ([], l.any fun y => decide (y = x), 0)) rfl (Nat.le_refl _), goE_fold]
  · unfold putL
    cases ha : l.any fun y => decide (y = x) with
    | true => rw [putStep_true]; simp
    | false =>
      have := putStep_false x l []
      simp only [List.nil_append] at this
      simp only [Bool.false_eq_true, if_false]
      exact congrArg some this
  · intro k t y hy hI
    have hlt := (List.getElem?_eq_some_iff.1 hy).1
    obtain ⟨acc, b⟩ := t
    dsimp only at hI
    refine .inl ⟨_, rfl, ?_, ?_⟩
    · simp only [lt_dec hlt, cond_true, idx_nat, hy, Option.bind_some, wrap_succ (show k < 9223372036854775807 by omega), appP_ok (a := acc) (b := [x]) (by simp; omega), appP_ok (a := acc) (b := [y]) (by simp; omega), appP_ok (a := acc ++ [x]) (b := [y]) (by simp; omega), gbs]
      unfold putStep
      cases b <;> cases hs : sLt y x <;> cases hd : decide (y = x) <;> simp [hs, hd, gb]
    · unfold putStep
      dsimp only
      split <;> simp <;> omega
  · intro t ht
    simp only [ge_dec, cond_false]
    obtain ⟨acc, b⟩ := t
    dsimp only at ht
    cases b
    · simp only [Bool.not_false, cond_true, if_true]
      rw [appP_ok (by simp; omega)]; rfl
    · rfl
theorem mem_insL {x z : ByteArray} : ∀ {l : List ByteArray}, z ∈ insL x l ↔ z = x ∨ z ∈ l
  | [] => by simp [insL]
  | y :: ys => by
    unfold insL
    split
    · simp
    · rw [List.mem_cons, mem_insL, List.mem_cons]
      constructor
      · rintro (h | h | h)
        · exact .inr (.inl h)
        · exact .inl h
        · exact .inr (.inr h)
      · rintro (h | h | h)
        · exact .inr (.inl h)
        · exact .inl h
        · exact .inr (.inr h)
theorem insL_sorted {x : ByteArray} : ∀ {l : List ByteArray}, l.Pairwise (fun a b => sLt a b = true) → x ∉ l → (insL x l).Pairwise (fun a b => sLt a b = true)
  | [], _, _ => by simp [insL]
  | y :: ys, h, hx => by
    obtain ⟨h1, h2⟩ := List.pairwise_cons.1 h
    have hyx : y ≠ x := fun e => hx (e ▸ List.mem_cons_self ..)
    unfold insL
    split
    · rename_i hc
      simp only [Bool.and_eq_true, Bool.not_eq_true', decide_eq_false_iff_not] at hc
      have hxy : sLt x y = true := by
        cases h3 : sLt x y with
        | true => rfl
        | false => exact absurd (sLt_tri hc.1 h3) hyx
      refine List.pairwise_cons.2 ⟨fun z hz => ?_, h⟩
      rcases List.mem_cons.1 hz with rfl | hz
      · exact hxy
      · exact sLt_trans hxy (h1 z hz)
    · rename_i hc
      have hyl : sLt y x = true := by
        cases h3 : sLt y x with
        | true => rfl
        | false => exact absurd (by simp [h3, hyx]) hc
      refine List.pairwise_cons.2 ⟨fun z hz => ?_, insL_sorted h2 fun hm => hx (List.mem_cons_of_mem _ hm)⟩
      rcases mem_insL.1 hz with rfl | hz
      · exact hyl
      · exact h1 z hz
theorem any_memS {l : List ByteArray} {x : ByteArray} : (l.any fun y => decide (y = x)) = true ↔ x ∈ l := by simp [List.any_eq_true]
theorem putL_facts {l : List ByteArray} {x : ByteArray} (h : l.Pairwise (fun a b => sLt a b = true)) : (putL l x).Pairwise (fun a b => sLt a b = true) ∧ ∀ z, z ∈ putL l x ↔ z = x ∨ z ∈ l := by
  unfold putL
  split
  · rename_i ha
    refine ⟨h, fun z => ⟨.inr, ?_⟩⟩
    rintro (rfl | hz)
    · exact any_memS.1 ha
    · exact hz
  · rename_i ha
    exact ⟨insL_sorted h fun hm => ha (any_memS.2 hm), fun z => mem_insL⟩
theorem putL_len (l : List ByteArray) (x : ByteArray) : (putL l x).length ≤ l.length + 1 := by
  have : ∀ l : List ByteArray, (insL x l).length = l.length + 1 := by
    intro l
    induction l with
    | nil => rfl
    | cons y ys ih => unfold insL; split <;> simp [ih]
  unfold putL
  split
  · omega
  · rw [this]; omega
theorem foldPut_facts : ∀ (xs l : List ByteArray), l.Pairwise (fun a b => sLt a b = true) → (xs.foldl putL l).Pairwise (fun a b => sLt a b = true) ∧ ∀ z, z ∈ xs.foldl putL l ↔ z ∈ xs ∨ z ∈ l
  | [], l, h => ⟨h, fun z => by simp⟩
  | x :: xs, l, h => by
    obtain ⟨h1, h2⟩ := putL_facts (x := x) h
    obtain ⟨h3, h4⟩ := foldPut_facts xs (putL l x) h1
    refine ⟨h3, fun z => ?_⟩
    rw [List.foldl_cons, h4, h2, List.mem_cons]
    constructor
    · rintro (h | h | h)
      · exact .inl (.inr h)
      · exact .inl (.inl h)
      · exact .inr h
    · rintro ((h | h) | h)
      · exact .inr (.inl h)
      · exact .inl h
      · exact .inr (.inr h)
theorem foldPut_len : ∀ (xs l : List ByteArray), (xs.foldl putL l).length ≤ l.length + xs.length
  | [], l => by simp
  | x :: xs, l => by
    rw [List.foldl_cons, List.length_cons]
    have := foldPut_len xs (putL l x)
    have := putL_len l x
    omega
def chunksOf (c : D_Catalog) : List ByteArray := c.flatMap fun s => s.2.flatMap fun p => p.2.2
def allL (c : D_Catalog) : List ByteArray := if catOkB c then (chunksOf c).foldl putL [] else []
theorem snaps_len {s : D_CSet} (h : s.2.length ≤ 5 ∧ ∀ p, p ∈ s.2 → p.2.2.length ≤ 4 ∧ ∀ x, x ∈ p.2.2 → x.size = 8) : (s.2.flatMap fun p => p.2.2).length ≤ 20 := by
  have : ∀ l : List D_CSnap, (∀ p, p ∈ l → p.2.2.length ≤ 4) → (l.flatMap fun p => p.2.2).length ≤ 4 * l.length := by
    intro l
    induction l with
    | nil => simp
    | cons p l ih =>
      intro hl
      have := hl p (List.mem_cons_self ..)
      have := ih fun q hq => hl q (List.mem_cons_of_mem _ hq)
      simp only [List.flatMap_cons, List.length_append, List.length_cons]; omega
  have := this s.2 fun p hp => (h.2 p hp).1
  omega
theorem s_AllChunks_eq {c : D_Catalog} (ho : Ok.ok c) : s_AllChunks c = some (allL c) := by
  unfold s_AllChunks allL
  simp only [Option.bind_some, s_CatOk_eq ho]
  cases hk : catOkB c with
  | false =>
    rw [whileP_eq]
    simp only [gbs]
    cases decide ((0 : Int) < (c.length : Int)) <;> rfl
  | true =>
    obtain ⟨hc1, hc2⟩ := catOk_facts hk
    rw [whileP_for (l := c) (fun k (t : List ByteArray) => (t, (k : Int))) (fun t s => .inl (s.2.foldl (fun t p => p.2.2.foldl putL t) t)) (fun t => some t) (fun k t => t.length ≤ 20 * k) [] (s0 := ([], 0)) rfl (Nat.le_refl _), goE_fold]
    · unfold chunksOf
      simp only [if_true]
      congr 1
      rw [List.foldl_flatMap]
      congr 1
      funext t s
      rw [List.foldl_flatMap]
    · intro k t s hs hI
      have hlt := (List.getElem?_eq_some_iff.1 hs).1
      obtain ⟨hs1, hs2⟩ := hc2 s (List.mem_of_getElem? hs)
      refine .inl ⟨_, rfl, ?_, ?_⟩
      · simp only [lt_dec hlt, gb, Option.bind_some, Bool.and_true, cond_true]
        rw [whileP_for (l := s.2) (fun j (t : List ByteArray) => (t, (j : Int))) (fun t p => .inl (p.2.2.foldl putL t)) (fun t => some (.inl (t, ((k + 1 : Nat) : Int)))) (fun j t => t.length ≤ 20 * k + 4 * j) t (s0 := (t, 0)) rfl (by omega), goE_fold]
        · intro j u p hp hJ
          have hjl := (List.getElem?_eq_some_iff.1 hp).1
          have hp1 := (hs2 p (List.mem_of_getElem? hp)).1
          refine .inl ⟨_, rfl, ?_, ?_⟩
          · simp only [idx_nat, hs, hp, Option.bind_some, lt_dec hjl, cond_true]
            rw [whileP_for (l := p.2.2) (fun i (t : List ByteArray) => (t, (i : Int))) (fun t x => .inl (putL t x)) (fun t => some (.inl (t, ((j + 1 : Nat) : Int)))) (fun i t => t.length ≤ 20 * k + 4 * j + i) u (s0 := (u, 0)) rfl (by omega), goE_fold]
            · intro i v x hx hK
              have hil := (List.getElem?_eq_some_iff.1 hx).1
              refine .inl ⟨_, rfl, ?_, by have := putL_len v x; omega⟩
              simp only [idx_nat, hs, hp, hx, Option.bind_some, lt_dec hil, cond_true, s_l15Put_eq (l := v) (x := x) (by omega), wrap_succ (show i < 9223372036854775807 by omega)]
            · intro v hK
              simp only [idx_nat, hs, hp, Option.bind_some, ge_dec, cond_false, wrap_succ (show j < 9223372036854775807 by omega)]
          · have := foldPut_len p.2.2 u; omega
        · intro u hJ
          simp only [idx_nat, hs, Option.bind_some, ge_dec, cond_false, wrap_succ (show k < 9223372036854775807 by omega)]
      · have h1 := foldPut_len (s.2.flatMap fun p => p.2.2) t
        have h2 := snaps_len ⟨hs1, hs2⟩
        rw [List.foldl_flatMap] at h1
        omega
    · intro t hI
      simp only [ge_dec, gb, Bool.false_and, cond_false]
theorem i_AllChunks_eq {c : D_Catalog} (ho : Ok.ok c) : i_AllChunks c = some (allL c) := by
  unfold i_AllChunks allL
  simp only [Option.bind_some, i_CatOk_eq ho]
  cases hk : catOkB c with
  | false => rfl
  | true =>
    obtain ⟨hc1, hc2⟩ := catOk_facts hk
    simp only [Bool.not_true, cond_false, if_true]
    rw [whileP_for (l := c) (fun k (t : List ByteArray) => (t, (k : Int))) (fun t s => .inl (t ++ s.2.flatMap fun p => p.2.2)) (fun t => Option.bind (sortSP t) compactSP) (fun k t => t.length ≤ 20 * k) [] (s0 := ([], 0)) rfl (Nat.le_refl _), goE_fold]
    · have hf : ∀ (l : D_Catalog) (t : List ByteArray), l.foldl (fun t s => t ++ s.2.flatMap fun p => p.2.2) t = t ++ chunksOf l := by
        intro l
        induction l with
        | nil => intro t; simp [chunksOf]
        | cons s l ih => intro t; rw [List.foldl_cons, ih]; simp [chunksOf]
      rw [hf, List.nil_append]
      have hl : (chunksOf c).length ≤ 100 := by
        have : ∀ l : D_Catalog, (∀ s, s ∈ l → (s.2.flatMap fun p => p.2.2).length ≤ 20) → (chunksOf l).length ≤ 20 * l.length := by
          intro l
          induction l with
          | nil => simp [chunksOf]
          | cons s l ih =>
            intro h
            have h1 := h s (List.mem_cons_self ..)
            have h2 := ih fun q hq => h q (List.mem_cons_of_mem _ hq)
            simp only [chunksOf, List.flatMap_cons, List.length_append, List.length_cons] at h2 ⊢; omega
        have := this c fun s hs => snaps_len (hc2 s hs)
        omega
      obtain ⟨m, hm, hm1, hm2⟩ := sortCompact (l := chunksOf c) (by omega)
      rw [hm]
      obtain ⟨h1, h2⟩ := foldPut_facts (chunksOf c) [] List.Pairwise.nil
      rw [ssorted_ext hm1 h1 fun x => by rw [hm2, h2]; simp]
    · intro k t s hs hI
      have hlt := (List.getElem?_eq_some_iff.1 hs).1
      obtain ⟨hs1, hs2⟩ := hc2 s (List.mem_of_getElem? hs)
      refine .inl ⟨_, rfl, ?_, ?_⟩
      · simp only [lt_dec hlt, idx_nat, hs, Option.bind_some, cond_true]
        rw [whileP_for (l := s.2) (fun j (t : List ByteArray) => (t, (j : Int))) (fun t p => .inl (t ++ p.2.2)) (fun t => some (.inl (t, ((k + 1 : Nat) : Int)))) (fun j t => t.length ≤ 20 * k + 4 * j) t (s0 := (t, 0)) rfl (by omega), goE_fold]
        · have hf : ∀ (l : List D_CSnap) (t : List ByteArray), l.foldl (fun t p => t ++ p.2.2) t = t ++ l.flatMap fun p => p.2.2 := by
            intro l
            induction l with
            | nil => intro t; simp
            | cons s l ih => intro t; rw [List.foldl_cons, ih]; simp
          rw [hf]
        · intro j u p hp hJ
          have hjl := (List.getElem?_eq_some_iff.1 hp).1
          have hp1 := (hs2 p (List.mem_of_getElem? hp)).1
          refine .inl ⟨_, rfl, ?_, by rw [List.length_append]; omega⟩
          simp only [idx_nat, hp, Option.bind_some, lt_dec hjl, cond_true, wrap_succ (show j < 9223372036854775807 by omega), appP_ok (a := u) (b := p.2.2) (by omega)]
        · intro u hJ
          simp only [ge_dec, cond_false, wrap_succ (show k < 9223372036854775807 by omega)]
      · have h2 := snaps_len ⟨hs1, hs2⟩
        rw [List.length_append]; omega
    · intro t hI
      simp only [ge_dec, cond_false]
      cases sortSP t with
      | none => rfl
      | some y =>
        simp only [Option.bind_some]
        cases compactSP y <;> rfl
theorem allL_len {c : D_Catalog} (ho : Ok.ok c) : (allL c).length ≤ 100 := by
  unfold allL
  split
  · rename_i hk
    obtain ⟨hc1, hc2⟩ := catOk_facts hk
    have h0 := foldPut_len (chunksOf c) []
    have : ∀ l : D_Catalog, (∀ s, s ∈ l → (s.2.flatMap fun p => p.2.2).length ≤ 20) → (chunksOf l).length ≤ 20 * l.length := by
      intro l
      induction l with
      | nil => simp [chunksOf]
      | cons s l ih =>
        intro h
        have h1 := h s (List.mem_cons_self ..)
        have h2 := ih fun q hq => h q (List.mem_cons_of_mem _ hq)
        simp only [chunksOf, List.flatMap_cons, List.length_append, List.length_cons] at h2 ⊢; omega
    have := this c fun s hs => snaps_len (hc2 s hs)
    simp only [List.length_nil] at h0
    omega
  · simp
/-- The nodes of a chunk that are up. -/
def haveL (u : D_Ups) (x : ByteArray) (up : List Bool) : List Int := (upNodes u x).filter fun n => (up[n.toNat]?).getD false
theorem upNodes_facts {u : D_Ups} {x : ByteArray} (h : upsOkB u = true) : (∀ n, n ∈ upNodes u x → 0 ≤ n ∧ n < 3) ∧ (upNodes u x).Pairwise (· < ·) := by
  unfold upNodes upFind
  cases hf : u.2.find? fun s : D_Up => decide (s.1 = x) with
  | none => exact ⟨fun n hn => (by cases hn), List.Pairwise.nil⟩
  | some y => exact nodesOk_facts ((upsOk_facts h).2.2.1 y (List.mem_of_find?_eq_some hf)).2.2.2
theorem s_l20Have_eq {u : D_Ups} {x : ByteArray} {up : List Bool} (ho : Ok.ok u) (h : upsOkB u = true) (hu : up.length = 3) : s_l20Have u x up = some (haveL u x up) := by
  unfold s_l20Have
  have hl : u.2.length ≤ 9223372036854775807 := ho.2.1
  obtain ⟨hn1, hn2⟩ := upNodes_facts (x := x) h
  have hnl := nodes_le hn1 hn2
  simp only [Prod.eta, s_l18At_eq hl, Option.bind_some]
  rcases firstI_find (fun s : D_Up => decide (s.1 = x)) u.2 with ⟨h1, h2⟩ | ⟨k, y, h1, h2, h3, _⟩
  · have hz : upNodes u x = [] := by unfold upNodes upFind; rw [h2]
    rw [h1, whileP_eq]
    unfold haveL
    rw [hz]
    rfl
  · have hz : upNodes u x = y.2.1 := by unfold upNodes upFind; rw [h3]
    rw [hz] at hn1 hn2 hnl
    rw [h1]
    simp only [show decide (0 ≤ (k : Int)) = true by simp, Bool.and_true, idx_nat, h2, Option.bind_some]
    rw [whileP_for (l := [0, 1, 2]) (fun k (t : List Int) => (t, (k : Int))) (fun t n => .inl (if ((up[n.toNat]?).getD false && y.2.1.any fun z => decide (z = n)) then t ++ [n] else t)) (fun t => some t) (fun k t => t.length ≤ k) [] (s0 := ([], 0)) rfl (Nat.le_refl _), goE_fold, foldl_filter', List.nil_append]
    · congr 1
      unfold haveL
      rw [hz]
      refine sorted_ext (List.Pairwise.filter _ (by simp)) (List.Pairwise.filter _ hn2) fun n => ?_
      rw [List.mem_filter, List.mem_filter]
      simp only [Bool.and_eq_true, any_mem]
      have h3 : n ∈ ([0, 1, 2] : List Int) ↔ (0 ≤ n ∧ n < 3) := by simp; omega
      rw [h3]
      constructor
      · rintro ⟨_, h4, h5⟩; exact ⟨h5, h4⟩
      · rintro ⟨h4, h5⟩; exact ⟨hn1 n h4, h5, h4⟩
    · intro j t n hx hI
      have hk : j < 3 ∧ n = (j : Int) := by
        match j, hx with
        | 0, hx => cases hx; simp
        | 1, hx => cases hx; simp
        | 2, hx => cases hx; simp
      obtain ⟨hk, rfl⟩ := hk
      have hb : up[j]? = some up[j] := List.getElem?_eq_getElem (by omega)
      generalize up[j] = b at hb
      refine .inl ⟨_, rfl, ?_, ?_⟩
      · simp only [show decide ((j : Int) < 3) = true by simp; omega, cond_true, idx_nat, hb, Option.bind_some, gbs, l18Has_eq (l := y.2.1) (n := (j : Int)) (by omega), wrap_succ (show j < 9223372036854775807 by omega), Int.toNat_natCast, Option.getD_some]
        rw [appP_ok (by simp; omega)]
        cases b <;> cases (y.2.1.any fun z => decide (z = (j : Int))) <;> rfl
      · split
        · simp; omega
        · omega
    · intro t ht
      rfl
theorem i_upOf_eq {l : List Int} {up : List Bool} (h1 : ∀ n, n ∈ l → 0 ≤ n ∧ n < 3) (h2 : l.length ≤ 3) (hu : up.length = 3) : i_upOf l up = some (l.filter fun n => (up[n.toNat]?).getD false) := by
  unfold i_upOf
  simp only [Option.bind_some]
  rw [whileP_for (l := l) (fun k (t : List Int) => (t, (k : Int))) (fun t n => .inl (if (up[n.toNat]?).getD false then t ++ [n] else t)) (fun t => some t) (fun k t => t.length ≤ k) [] (s0 := ([], 0)) rfl (Nat.le_refl _), goE_fold, foldl_filter', List.nil_append]
  · intro k t n hn hI
    have hlt := (List.getElem?_eq_some_iff.1 hn).1
    obtain ⟨hn0, hn3⟩ := h1 n (List.mem_of_getElem? hn)
    obtain ⟨j, rfl⟩ := Int.eq_ofNat_of_zero_le hn0
    have hb : up[j]? = some up[j] := List.getElem?_eq_getElem (by omega)
    generalize up[j] = b at hb
    refine .inl ⟨_, rfl, ?_, ?_⟩
    · simp only [lt_dec hlt, cond_true, idx_nat, hn, hb, Option.bind_some, wrap_succ (show k < 9223372036854775807 by omega), Int.toNat_natCast, Option.getD_some]
      rw [appP_ok (by simp; omega)]
      cases b <;> rfl
    · split
      · simp; omega
      · omega
  · intro t ht
    simp only [ge_dec]; rfl
end Go.Proofs.SL
