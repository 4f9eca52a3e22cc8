/- The base of the walks, seventh part: append; stores into elements. -/
import Derived.Test.YthebgoognabinaaBase6
namespace Go.Proofs.SL
open Go

variable {Γ : Cx} {l : Envl} {M F : List HP} {Q : Post} {K : Kont} {w0 w : World} {S0 : List Nat}
variable {rest : List Oper} {d : Nat} {ty : TypeId} {pos : String} {af : Array Edge}

theorem Holds.drew (h : Holds w0 S0 M w) : Holds w0 S0 M w.drew := ⟨h.os, h.tape, h.output, h.size, h.old, fun x hx => x.st w _ (fun _ _ => rfl) (h.prs x hx), h.nodup, h.rng⟩

/-- One row in the place of another one, its block turned or new; all else as it was. -/
theorem Holds.swap {h h' : HP} {w' : World} (hw : Holds w0 S0 (h :: F) w) (hos : w'.os = w.os) (htape : w'.tape = w.tape) (hout : w'.output = w.output) (hsz : w.heap.size ≤ w'.heap.size)
    (hsame : ∀ k, k < w.heap.size → k ∉ h.fp → w'.heap[k]? = w.heap[k]?) (hfp : ∀ k, k ∈ h'.fp → (k ∈ h.fp ∨ w.heap.size ≤ k) ∧ k < w'.heap.size) (hnd : h'.fp.Nodup) (hpr : h'.pr w') : Holds w0 S0 (h' :: F) w' := by
  have hnd0 := hw.nodup
  rw [fps_cons] at hnd0
  obtain ⟨_, hn2, hdis⟩ := List.nodup_append.1 hnd0
  have hr1 : ∀ k, k ∈ h.fp → (k ∈ S0 ∨ w0.heap.size ≤ k) ∧ k < w.heap.size := fun k hk => hw.rng k (by rw [fps_cons]; exact List.mem_append_left _ hk)
  have hr2 : ∀ k, k ∈ fps F → (k ∈ S0 ∨ w0.heap.size ≤ k) ∧ k < w.heap.size := fun k hk => hw.rng k (by rw [fps_cons]; exact List.mem_append_right _ hk)
  have hno : ∀ k, k ∈ fps F → k ∉ h.fp := fun k h2 h1 => hdis k h1 k h2 rfl
  refine ⟨hos.trans hw.os, htape.trans hw.tape, hout.trans hw.output, Nat.le_trans hw.size hsz, fun k hk hs => ?_, fun x hx => ?_, ?_, fun k hk => ?_⟩
  · rw [hsame k (Nat.lt_of_lt_of_le hk hw.size) (fun hm => by
      rcases (hr1 k hm).1 with h3 | h3
      · exact hs h3
      · omega)]
    exact hw.old k hk hs
  · rcases List.mem_cons.1 hx with rfl | hx
    · exact hpr
    · refine x.st w w' (fun k hk => ?_) (hw.prs x (List.mem_cons_of_mem _ hx))
      have hm : k ∈ fps F := List.mem_flatMap.2 ⟨x, hx, hk⟩
      exact hsame k (hr2 k hm).2 (hno k hm)
  · rw [fps_cons]
    refine List.nodup_append.2 ⟨hnd, hn2, fun a ha b hb e => ?_⟩
    subst e
    rcases (hfp a ha).1 with h3 | h3
    · exact hno a hb h3
    · have := (hr2 a hb).2; omega
  · rw [fps_cons] at hk
    rcases List.mem_append.1 hk with hk | hk
    · obtain ⟨h3, h4⟩ := hfp k hk
      refine ⟨?_, h4⟩
      rcases h3 with h3 | h3
      · exact (hr1 k h3).1
      · exact .inr (Nat.le_trans hw.size h3)
    · exact ⟨(hr2 k hk).1, Nat.lt_of_lt_of_le (hr2 k hk).2 hsz⟩

section
variable {τ δ : Type} [GT τ δ]

theorem size_zc (z : Array Value) (n : Nat) : (Builtin.zeroCells z n).size = n * z.size := by simp [Builtin.zeroCells]

/-- append to a row of our own of what can be read. -/
theorem append_row {P : Program} {T e sz by_ : Nat} {z : List Value} {L : TL τ} {ys : List τ} (ht : elOf P T = some (e, sz, by_, z)) (hsz : GT.sz τ = sz) (hz : z.length = sz) (hw : Holds w0 S0 (rowH L :: F) w) (he : L.e = e ∨ L.a = none)
    {a : Addr} {c : Nat} (hsrc : ∀ j v, (rowCells ys)[j]? = some v → w.cell? (a.add j) = some v) (hm : L.els.length + ys.length ≤ 4294967296) (hb : by_ ≤ 32768) (ty : TypeId) :
    ∃ a' c' tl w', (Builtin.append_ #[T, T] ty #[L.hdr, .slice (some a) ys.length c]).run P w = .ok (.slice a' (L.els ++ ys).length c') w' ∧ Holds w0 S0 (rowH (⟨a', c', e, L.els ++ ys, tl⟩ : TL τ) :: F) w' := by
  unfold elOf at ht
  split at ht <;> (try cases ht)
  rename_i e' het
  split at ht <;> (try cases ht)
  rename_i i' hi'
  split at ht <;> cases ht
  rename_i z' hz'
  have hzs : z'.cells.size = i'.size := by rw [← Array.length_toList]; exact hz
  have hpos : 0 < i'.size := hsz ▸ GT.pos (τ := τ)
  obtain ⟨La, Lc, Le, Lx, Lt⟩ := L
  have hr := hw.prs (rowH _) (List.mem_cons_self ..)
  obtain ⟨hr1, hr2, hr3, hr4⟩ := hr
  dsimp only at hr1 hr2 hr3 hr4 he hm ⊢
  have hlx : (rowCells Lx).length = Lx.length * i'.size := by rw [length_rowCells, hsz]
  have hly : (rowCells ys).length = ys.length * i'.size := by rw [length_rowCells, hsz]
  have hby : (Lx.length + ys.length) * i'.bytes ≤ 140737488355328 := by
    have := Nat.mul_le_mul hm hb
    omega
  have hone : ∀ u, u ∈ rowCells ys → u.oneCell' = true := fun u hu => rowCells_one ys u hu
  have hgrow : ∀ (old : Nat) (h : HP), h = rowH (⟨La, Lc, Le, Lx, Lt⟩ : TL τ) → Holds w0 S0 (rowH (⟨some ⟨w.heap.size, 0, none⟩, grownCap w (Lx.length + ys.length) old e, e, Lx ++ ys, (Builtin.zeroCells z'.cells (grownCap w (Lx.length + ys.length) old e - (Lx.length + ys.length))).toList⟩ : TL τ) :: F)
      (w.drew.alloc (.cells ((rowCells Lx).toArray ++ (rowCells ys).toArray ++ Builtin.zeroCells z'.cells (grownCap w (Lx.length + ys.length) old e - (Lx.length + ys.length))) e)) := by
    intro old h hh
    have hge := grownCap_ge w (Lx.length + ys.length) old e
    have hcm : grownCap w (Lx.length + ys.length) old e ≤ maxLen := grownCap_le_maxLen w (Lx.length + ys.length) old e (by simp only [maxLen]; omega)
    refine Holds.swap (w' := w.drew.alloc _) (hh ▸ hw : Holds w0 S0 (h :: F) w) rfl rfl rfl (by simp) (fun k hk _ => ?_) (fun k hk => ?_) (by simp [rowH]) ?_
    · rw [heap_alloc_old _ _ (by simpa using hk)]; rfl
    · simp [rowH] at hk; subst hk; exact ⟨.inr (Nat.le_refl _), by simp⟩
    · refine ⟨by simpa using hge, hcm, fun h => (by cases h), fun a ha => ?_⟩
      cases ha
      refine ⟨rfl, rfl, ?_, ?_⟩
      · have := heap_alloc_new w.drew (.cells ((rowCells Lx).toArray ++ (rowCells ys).toArray ++ Builtin.zeroCells z'.cells (grownCap w (Lx.length + ys.length) old e - (Lx.length + ys.length))) e)
        simp only [World.size_drew] at this
        rw [this]
        congr 2
        apply Array.ext'
        simp [rowCells_append]
      · simp only [Array.length_toList, size_zc, hzs, List.length_append, hsz]
        rw [← Nat.add_mul]; congr 1; omega
  cases La with
  | none =>
    obtain ⟨hx0, hc0⟩ := hr3 rfl
    subst hx0; subst hc0
    by_cases hy0 : ys = []
    · subst hy0
      refine ⟨none, 0, [], w, ?_, Holds.swap hw rfl rfl rfl (Nat.le_refl _) (fun _ _ _ => rfl) (fun k hk => by simp [rowH] at hk) (by simp [rowH]) ⟨by simp, by simp [maxLen], fun _ => ⟨rfl, rfl⟩, fun a ha => by cases ha⟩⟩
      simp [TL.hdr, Builtin.append_, run_underlying het, sizeOf, typeInfo, hi', Builtin.lenOf, Builtin.firstCells, loadCells, loadCellsFrom]
    · have hyl : 0 < ys.length := List.length_pos_iff.2 hy0
      have hrun := run_append_nil (P := P) w T ty e i' z' het hi' hz' a ys.length c (rowCells ys) hly hsrc hyl (by omega) (by simp at hby; omega)
      have := hgrow 0 _ rfl
      simp only [List.length_nil, Nat.zero_add, List.nil_append] at this ⊢
      have e0 : (rowCells ([] : List τ)).toArray = #[] := rfl
      rw [e0, Array.empty_append] at this
      exact ⟨_, _, _, _, hrun, this⟩
  | some La =>
    obtain ⟨h1, h2, h3, h4⟩ := hr4 La rfl
    obtain ⟨g, o, s⟩ := La
    dsimp only at h1 h2 h3
    subst h1; subst h2
    have hLe : Le = e := by rcases he with h | h; exact h; cases h
    subst hLe
    have hhd : TL.hdr (⟨some ⟨g, 0, none⟩, Lc, Le, Lx, Lt⟩ : TL τ) = .slice (some ⟨g, 0, none⟩) Lx.length Lc := rfl
    rw [hhd]
    rw [hsz] at h4
    have hsize : ((rowCells Lx ++ Lt).toArray).size = Lc * i'.size := by simp [hlx]; omega
    by_cases hroom : Lx.length + ys.length ≤ Lc
    · have hfit : Lx.length * i'.size + (rowCells ys).length ≤ ((rowCells Lx ++ Lt).toArray).size := by rw [hsize, hly, ← Nat.add_mul]; exact Nat.mul_le_mul_right _ hroom
      have hrun := run_append_room (P := P) w T ty Le i' het hi' g Lx.length Lc _ h3 a ys.length c (rowCells ys) hly hsrc hone hroom hfit
      refine ⟨some ⟨g, 0, none⟩, Lc, Lt.drop (rowCells ys).length, _, by rw [List.length_append]; exact hrun, ?_⟩
      have e1 : (List.take (Lx.length * i'.size) (rowCells Lx ++ Lt).toArray.toList ++ rowCells ys ++ List.drop (Lx.length * i'.size + (rowCells ys).length) (rowCells Lx ++ Lt).toArray.toList) = rowCells (Lx ++ ys) ++ Lt.drop (rowCells ys).length := by
        simp only []
        rw [← hlx, List.take_left, List.drop_append, List.drop_of_length_le (by omega), List.nil_append, Nat.add_sub_cancel_left, rowCells_append]
      rw [e1]
      refine Holds.swap hw rfl rfl rfl (by simp) (fun k hk hn => ?_) (fun k hk => ?_) (by simp [rowH]) ?_
      · exact setRow_other _ _ _ _ (fun e => hn (by simp [rowH, e]))
      · simp [rowH] at hk; subst hk; exact ⟨.inl (by simp [rowH]), by simp; exact (Array.getElem?_eq_some_iff.1 h3).1⟩
      · refine ⟨by simpa using hroom, hr2, fun h => (by cases h), fun a ha => ?_⟩
        cases ha
        refine ⟨rfl, rfl, setRow_heap _ _ _ _ _ _ h3, ?_⟩
        simp only [List.length_append, List.length_drop, hsz, hly]
        have := Nat.mul_le_mul_right i'.size hroom
        rw [Nat.add_mul] at this ⊢
        omega
    · have holds : ∀ j v, (rowCells Lx)[j]? = some v → w.cell? ((⟨g, 0, none⟩ : Addr).add j) = some v := fun j v hv => by
        rw [addr_add, Nat.zero_add, cell_of_row _ _ _ _ _ _ h3]
        simp only [List.getElem?_toArray]
        rw [List.getElem?_append_left (List.getElem?_eq_some_iff.1 hv).1]; exact hv
      have hrun := run_append_grow (P := P) w T ty Le i' z' het hi' hz' ⟨g, 0, none⟩ Lx.length Lc (rowCells Lx) hlx holds a ys.length c (rowCells ys) hly hsrc (by omega) (by omega) (growslice_fits (by omega) hby)
      refine ⟨_, _, _, _, by rw [List.length_append]; exact hrun, hgrow Lc _ rfl⟩

/-- append of nothing (a nil slice). -/
theorem append_none {P : Program} {T e sz by_ : Nat} {z : List Value} (ht : elOf P T = some (e, sz, by_, z)) {a : Option Addr} {n c c2 : Nat} (hnc : n ≤ c) (ty : TypeId) :
    (Builtin.append_ #[T, T] ty #[.slice a n c, .slice none 0 c2]).run P w = .ok (.slice a n c) w := by
  unfold elOf at ht
  split at ht <;> (try cases ht)
  rename_i e' het
  split at ht <;> (try cases ht)
  rename_i i' hi'
  cases a <;> simp [Builtin.append_, run_underlying het, sizeOf, typeInfo, hi', Builtin.lenOf, Builtin.firstCells, hnc, storeCells]

def elsT (xs : List τ) : HP := ⟨xs.flatMap GT.fp, fun w => ∀ x, x ∈ xs → GT.ow w x, fun w w' h hp x hx => GT.ow_st (fun k hk => h k (List.mem_flatMap.2 ⟨x, hx, hk⟩)) (hp x hx)⟩

theorem Holds.reFp {h1 h2 : List HP} {w : World} (hw : Holds w0 S0 h1 w) (he : List.Perm (fps h1) (fps h2)) (hp : ∀ x, x ∈ h2 → x.pr w) : Holds w0 S0 h2 w :=
  ⟨hw.os, hw.tape, hw.output, hw.size, hw.old, hp, he.nodup_iff.1 hw.nodup, fun k hk => hw.rng k (he.mem_iff.2 hk)⟩

theorem tree_row {L : TL τ} (h : Holds w0 S0 (treeH L :: M) w) : Holds w0 S0 (rowH L :: elsT L.els :: M) w := by
  have ht : GT.ow w L := h.prs _ (List.mem_cons_self ..)
  refine h.reFp (List.Perm.of_eq ?_) fun x hx => ?_
  · simp only [fps_cons]
    show ((match L.a with | none => [] | some a => [a.block]) ++ L.els.flatMap GT.fp) ++ fps M = _
    rw [List.append_assoc]; rfl
  · rcases List.mem_cons.1 hx with rfl | hx
    · exact ⟨ht.1, ht.2.1, ht.2.2.2.1, ht.2.2.2.2⟩
    rcases List.mem_cons.1 hx with rfl | hx
    · exact ht.2.2.1
    · exact h.prs _ (List.mem_cons_of_mem _ hx)
theorem row_tree {L : TL τ} (h : Holds w0 S0 (rowH L :: elsT L.els :: M) w) : Holds w0 S0 (treeH L :: M) w := by
  have hr := h.prs (rowH L) (List.mem_cons_self ..)
  have he := h.prs (elsT L.els) (List.mem_cons_of_mem _ (List.mem_cons_self ..))
  refine h.reFp (List.Perm.of_eq ?_) fun x hx => ?_
  · simp only [fps_cons]
    show _ = ((match L.a with | none => [] | some a => [a.block]) ++ L.els.flatMap GT.fp) ++ fps M
    rw [List.append_assoc]; rfl
  · rcases List.mem_cons.1 hx with rfl | hx
    · exact ⟨hr.1, hr.2.1, he, hr.2.2.1, hr.2.2.2⟩
    · exact h.prs _ (List.mem_cons_of_mem _ (List.mem_cons_of_mem _ hx))
theorem elsT_app {xs ys : List τ} (h : Holds w0 S0 (elsT xs :: elsT ys :: M) w) : Holds w0 S0 (elsT (xs ++ ys) :: M) w := by
  refine h.reFp (List.Perm.of_eq ?_) fun x hx => ?_
  · simp only [fps_cons]; show _ = (xs ++ ys).flatMap GT.fp ++ fps M; rw [List.flatMap_append, List.append_assoc]; rfl
  · rcases List.mem_cons.1 hx with rfl | hx
    · intro y hy
      rcases List.mem_append.1 hy with hy | hy
      · exact h.prs (elsT xs) (List.mem_cons_self ..) y hy
      · exact h.prs (elsT ys) (List.mem_cons_of_mem _ (List.mem_cons_self ..)) y hy
    · exact h.prs _ (List.mem_cons_of_mem _ (List.mem_cons_of_mem _ hx))
theorem elsT_one {x : τ} (h : Holds w0 S0 (treeH x :: M) w) : Holds w0 S0 (elsT [x] :: M) w := by
  refine h.reFp (List.Perm.of_eq ?_) fun y hy => ?_
  · simp only [fps_cons]; show _ = [x].flatMap GT.fp ++ fps M; simp [treeH]
  · rcases List.mem_cons.1 hy with rfl | hy
    · intro z hz; simp at hz; subst hz; exact h.prs (treeH z) (List.mem_cons_self ..)
    · exact h.prs _ (List.mem_cons_of_mem _ hy)
theorem one_elsT {x : τ} (h : Holds w0 S0 (elsT [x] :: M) w) : Holds w0 S0 (treeH x :: M) w := by
  refine h.reFp (List.Perm.of_eq ?_) fun y hy => ?_
  · simp only [fps_cons]; show [x].flatMap GT.fp ++ fps M = _; simp [treeH]
  · rcases List.mem_cons.1 hy with rfl | hy
    · exact h.prs (elsT [x]) (List.mem_cons_self ..) x (by simp)
    · exact h.prs _ (List.mem_cons_of_mem _ hy)
theorem elsT_flat {xs : List τ} (h : Holds w0 S0 M w) (hf : ∀ x, x ∈ xs → Flat x) : Holds w0 S0 (elsT xs :: M) w := by
  refine h.reFp (List.Perm.of_eq ?_) fun y hy => ?_
  · rw [fps_cons]; show _ = xs.flatMap GT.fp ++ fps M; rw [fps_flat xs hf]; rfl
  · rcases List.mem_cons.1 hy with rfl | hy
    · exact fun x hx => (hf x hx).ow w
    · exact h.prs _ hy
/-- One element taken out of the others. -/
theorem elsT_pick {xs : List τ} {i : Nat} {x : τ} (hi : xs[i]? = some x) (h : Holds w0 S0 (elsT xs :: M) w) : Holds w0 S0 (treeH x :: elsT (xs.eraseIdx i) :: M) w := by
  have hp : List.Perm xs (x :: xs.eraseIdx i) := by
    have hlt := (List.getElem?_eq_some_iff.1 hi).1
    have hx := (List.getElem?_eq_some_iff.1 hi).2
    rw [List.eraseIdx_eq_take_drop_succ]
    have : xs = xs.take i ++ x :: xs.drop (i + 1) := by
      rw [← hx, ← List.drop_eq_getElem_cons hlt, List.take_append_drop]
    conv => lhs; rw [this]
    exact List.perm_middle
  refine h.reFp ?_ fun y hy => ?_
  · simp only [fps_cons]
    show List.Perm (xs.flatMap GT.fp ++ fps M) (GT.fp x ++ ((xs.eraseIdx i).flatMap GT.fp ++ fps M))
    rw [← List.append_assoc]
    exact List.Perm.append_right _ (hp.flatMap_right _)
  · have he := h.prs (elsT xs) (List.mem_cons_self ..)
    rcases List.mem_cons.1 hy with rfl | hy
    · exact he x (List.mem_of_getElem? hi)
    rcases List.mem_cons.1 hy with rfl | hy
    · exact fun z hz => he z (hp.mem_iff.2 (List.mem_cons_of_mem _ hz))
    · exact h.prs _ (List.mem_cons_of_mem _ hy)
theorem elsT_put {xs : List τ} {i : Nat} {x' : τ} (hi : i < xs.length) (h : Holds w0 S0 (treeH x' :: elsT (xs.eraseIdx i) :: M) w) : Holds w0 S0 (elsT (xs.set i x') :: M) w := by
  have hp : List.Perm (xs.set i x') (x' :: xs.eraseIdx i) := by
    rw [List.eraseIdx_eq_take_drop_succ, List.set_eq_take_append_cons_drop, if_pos hi]
    exact List.perm_middle
  refine h.reFp ?_ fun y hy => ?_
  · simp only [fps_cons]
    show List.Perm (GT.fp x' ++ ((xs.eraseIdx i).flatMap GT.fp ++ fps M)) ((xs.set i x').flatMap GT.fp ++ fps M)
    rw [← List.append_assoc]
    exact List.Perm.append_right _ (hp.symm.flatMap_right _)
  · have h1 := h.prs (treeH x') (List.mem_cons_self ..)
    have h2 := h.prs (elsT (xs.eraseIdx i)) (List.mem_cons_of_mem _ (List.mem_cons_self ..))
    rcases List.mem_cons.1 hy with rfl | hy
    · intro z hz
      rcases List.mem_cons.1 (hp.mem_iff.1 hz) with rfl | hz
      · exact h1
      · exact h2 z hz
    · exact h.prs _ (List.mem_cons_of_mem _ (List.mem_cons_of_mem _ hy))

theorem rowCells_set (xs : List τ) (i : Nat) (x' : τ) (hi : i < xs.length) : rowCells (xs.set i x') = (rowCells xs).take (i * GT.sz τ) ++ GT.cells x' ++ (rowCells xs).drop (i * GT.sz τ + GT.sz τ) := by
  have h1 : xs = xs.take i ++ xs[i] :: xs.drop (i + 1) := by rw [← List.drop_eq_getElem_cons hi, List.take_append_drop]
  have h2 : rowCells xs = rowCells (xs.take i) ++ GT.cells xs[i] ++ rowCells (xs.drop (i + 1)) := by
    conv => lhs; rw [h1]
    rw [rowCells_append, rowCells_cons, List.append_assoc]
  have l1 : (rowCells (xs.take i)).length = i * GT.sz τ := by rw [length_rowCells, List.length_take, Nat.min_eq_left (Nat.le_of_lt hi)]
  have l2 : (rowCells (xs.take i) ++ GT.cells xs[i]).length = i * GT.sz τ + GT.sz τ := by rw [List.length_append, l1, GT.len]
  rw [List.set_eq_take_append_cons_drop, if_pos hi, rowCells_append, rowCells_cons, ← List.append_assoc]
  congr 1
  · congr 1
    rw [h2, List.append_assoc, ← l1, List.take_left]
  · rw [h2, ← l2, List.drop_left]

/-- A store into element i of a row of ours. -/
theorem store_el {P : Program} {L : TL τ} {g i fo : Nat} {x x' : τ} {vs : List Value} (hw : Holds w0 S0 (rowH L :: F) w) (ha : L.a = some ⟨g, 0, none⟩) (hi : L.els[i]? = some x)
    (hc : GT.cells x' = (GT.cells x).take fo ++ vs ++ (GT.cells x).drop (fo + vs.length)) (h1 : ∀ v, v ∈ vs → v.oneCell' = true) (hfo : fo + vs.length ≤ GT.sz τ) :
    ∃ w', (storeCells ⟨g, 0 + i * GT.sz τ + fo, none⟩ vs).run P w = .ok () w' ∧ Holds w0 S0 (rowH { L with els := L.els.set i x' } :: F) w' := by
  have hr := hw.prs (rowH L) (List.mem_cons_self ..)
  obtain ⟨hr1, hr2, hr3, hr4⟩ := hr
  obtain ⟨h2, h3, h4, h5⟩ := hr4 _ ha
  have hlt := (List.getElem?_eq_some_iff.1 hi).1
  have hlen : (rowCells L.els).length = L.els.length * GT.sz τ := length_rowCells _
  have hle : i * GT.sz τ + GT.sz τ ≤ L.els.length * GT.sz τ := by rw [← Nat.succ_mul]; exact Nat.mul_le_mul_right _ hlt
  have hs := run_store_blk (P := P) (fo := 0 + i * GT.sz τ + fo) (vs := vs) (ty := 0) h4 (by rw [List.length_append, hlen]; omega) h1
  refine ⟨_, hs, ?_⟩
  have e : (rowCells L.els ++ L.tail).take (0 + i * GT.sz τ + fo) ++ vs ++ (rowCells L.els ++ L.tail).drop (0 + i * GT.sz τ + fo + vs.length) = rowCells (L.els.set i x') ++ L.tail := by
    rw [Nat.zero_add, rowCells_set _ _ _ hlt, hc]
    have hget : ((rowCells L.els).drop (i * GT.sz τ)).take (GT.sz τ) = GT.cells x := by
      refine List.ext_getElem? fun j => ?_
      rw [List.getElem?_take]
      split
      · rename_i hj
        rw [List.getElem?_drop, rowCells_get _ _ _ _ hi hj]
      · rename_i hj
        rw [List.getElem?_eq_none]; rw [GT.len]; omega
    have h6 : rowCells L.els = (rowCells L.els).take (i * GT.sz τ) ++ GT.cells x ++ (rowCells L.els).drop (i * GT.sz τ + GT.sz τ) := by
      rw [← hget, List.append_assoc, ← List.drop_drop, List.take_append_drop, List.take_append_drop]
    have l1 : ((rowCells L.els).take (i * GT.sz τ)).length = i * GT.sz τ := by rw [List.length_take, hlen]; omega
    generalize hA : (rowCells L.els).take (i * GT.sz τ) = A at *
    generalize hB : (rowCells L.els).drop (i * GT.sz τ + GT.sz τ) = B at *
    rw [h6]
    have lx : (GT.cells x).length = GT.sz τ := GT.len x
    have t1 : (A ++ GT.cells x ++ B ++ L.tail).take (i * GT.sz τ + fo) = A ++ (GT.cells x).take fo := by
      rw [List.append_assoc, List.append_assoc, List.take_append, List.take_of_length_le (by omega), l1, Nat.add_sub_cancel_left, List.take_append_of_le_length (by omega)]
    have t2 : (A ++ GT.cells x ++ B ++ L.tail).drop (i * GT.sz τ + fo + vs.length) = (GT.cells x).drop (fo + vs.length) ++ (B ++ L.tail) := by
      rw [List.append_assoc, List.append_assoc, List.drop_append, List.drop_of_length_le (by omega), List.nil_append, l1, show i * GT.sz τ + fo + vs.length - i * GT.sz τ = fo + vs.length by omega, List.drop_append_of_le_length (by omega)]
    rw [t1, t2]
    simp only [List.append_assoc]
  rw [e]
  refine Holds.swap hw rfl rfl rfl (by simp) (fun k hk hn => ?_) (fun k hk => ?_) (by rw [show (rowH { L with els := L.els.set i x' }).fp = [g] by simp [rowH, ha]]; simp) ?_
  · exact setRow_other _ _ _ _ (fun e => hn (by simp [rowH, ha, e]))
  · have hk' : k = g := by simpa [rowH, ha] using hk
    subst hk'
    exact ⟨.inl (by simp [rowH, ha]), by simp; exact (Array.getElem?_eq_some_iff.1 h4).1⟩
  · refine ⟨by simpa using hr1, hr2, fun h => ?_, fun a ha' => ?_⟩
    · have : L.a = none := h
      rw [ha] at this; cases this
    · have ha2 : L.a = some a := ha'
      rw [ha] at ha2; cases ha2
      exact ⟨rfl, rfl, setRow_heap _ _ _ _ _ _ h4, by simpa using h5⟩
end
end Go.Proofs.SL
