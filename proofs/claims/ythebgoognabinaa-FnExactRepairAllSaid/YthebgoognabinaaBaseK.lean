/- Slices of strings; an element of a slice of one's own, opened. -/
import Derived.Test.YthebgoognabinaaBaseJ
namespace Go.Proofs.SL
open Go

variable {Γ : Cx} {l : Envl} {M M' M1 M2 F : List HP} {Q : Post} {K : Kont} {w0 w : World} {S0 : List Nat}
variable {rest : List Oper} {d : Nat} {ty : TypeId} {pos : String} {af : Array Edge}
variable {ops : Array Oper} {Msh pool : List HP} {E : Fl} {rs : List (Option Nat × Rel)} {cs0 : List Nat} {KD : List (Option Nat × Rel) → List Nat → List HP → Prop} {gd : Option (Nat × Bool)}

theorem run_sslO {P : Program} {T : TypeId} {s r : ByteArray} {vlo vhi : Option Value} {a b : Int} (ht : isStr P T = true) (hlo : (vlo = none ∧ a = 0) ∨ ∃ k, vlo = some (.int k a)) (hhi : (vhi = none ∧ b = (s.size : Int)) ∨ ∃ k, vhi = some (.int k b))
    (hr : sslP s a b = some r) (w : World) : (Instr.sliceAt T (.string s) vlo vhi none).run P w = .ok (.string r) w := by
  have h2 : P.underlying T = some .string := by unfold isStr at ht; split at ht <;> simp_all
  unfold sslP at hr
  split at hr
  · rename_i hb
    cases hr
    have e1 := fun k w => run_sliceBound (P := P) (k := k) (code := .sliceAlen) (show 0 ≤ b by omega) (show b ≤ ((s.size : Nat) : Int) by omega) w
    have e2 := fun k w => run_sliceBound (P := P) (k := k) (code := .sliceB) hb.1 (show a ≤ ((b.toNat : Nat) : Int) by omega) w
    have e3 := fun k w => run_sliceBound (P := P) (k := k) (code := .sliceB) hb.1 (show a ≤ ((s.size : Nat) : Int) by omega) w
    rcases hlo with ⟨rfl, rfl⟩ | ⟨k1, rfl⟩ <;> rcases hhi with ⟨rfl, rfl⟩ | ⟨k2, rfl⟩
    · simp [Instr.sliceAt, Instr.slice, underlying, h2, Instr.sliceBounds]
    · simp [Instr.sliceAt, Instr.slice, underlying, h2, Instr.sliceBounds, e1]
    · simp [Instr.sliceAt, Instr.slice, underlying, h2, Instr.sliceBounds, e3]
    · simp [Instr.sliceAt, Instr.slice, underlying, h2, Instr.sliceBounds, e1, e2]
  · cases hr
theorem L_ssl {x : Operand} {lo hi : Option Operand} {T : TypeId} {s r : ByteArray} {a b : Int} (hn : Nat.blt d Γ.n = true) (hx : ev l x = some (.string s)) (hlo : optI l lo 0 = some a) (hhi : optI l hi (s.size : Int) = some b)
    (ht : isStr Γ.P T = true) (hr : sslP s a b = some r) (hk : L Γ rest ((d, .string r) :: l) M K) :
    L Γ ({ dst := some d, op := .slice T x lo hi none, type := ty, pos := pos, after := af, guard := none } :: rest) l M K :=
  L_pure hn (fun a' w ha hw => by
    have e0 := ha.eval hx
    have h1 := run_sslO (P := Γ.P) (T := T) (s := s) (r := r) (vlo := lo.map a'.eval) (vhi := hi.map a'.eval) (a := a) (b := b) ht (by
      cases lo with
      | none => cases hlo; exact .inl ⟨rfl, rfl⟩
      | some o => obtain ⟨k, h⟩ := optI_some hlo; exact .inr ⟨k, by simp [ha.eval h]⟩) (by
      cases hi with
      | none => cases hhi; exact .inl ⟨rfl, rfl⟩
      | some o => obtain ⟨k, h⟩ := optI_some hhi; exact .inr ⟨k, by simp [ha.eval h]⟩) hr w
    simp [execOp, e0, h1]) hk
def optD (E : Fl) (x : Option Operand) (c : Prop) (n i : Int) : Prop := match x with
  | none => n = i
  | some o => ∃ k, OpV E o c (.int k i)
theorem optD.none {c : Prop} {n : Int} : optD E Option.none c n n := rfl
theorem optD.some {o : Operand} {c : Prop} {n i : Int} {k : IntKind} (h : OpV E o c (.int k i)) : optD E (Option.some o) c n i := ⟨k, h⟩
theorem D_ssl {x : Operand} {lo hi : Option Operand} {T : TypeId} {s r : ByteArray} {a b : Int} {c : Prop} (hg : GC ops E { dst := some d, op := .slice T x lo hi none, type := ty, pos := pos, after := af, guard := gd } c)
    (hx : OpV E x c (.string s)) (hlo : optD E lo c 0 a) (hhi : optD E hi c (s.size : Int) b) (ht : isStr Γ.P T = true) (hr : c → sslP s a b = some r)
    (hk : DV Γ ops Msh pool ((d, FC c (.string r)) :: E) ((some d, FC c (.string r)) :: rs) cs0 rest KD) :
    DV Γ ops Msh pool E rs cs0 ({ dst := some d, op := .slice T x lo hi none, type := ty, pos := pos, after := af, guard := gd } :: rest) KD :=
  DV_pure c _ hg (fun a' w F hc hf hs => by
    have e0 := hx.eval hf (by simp [Op.operands]) hc
    have h1 := run_sslO (P := Γ.P) (T := T) (s := s) (r := r) (vlo := lo.map a'.eval) (vhi := hi.map a'.eval) (a := a) (b := b) ht (by
      cases lo with
      | none => cases hlo; exact .inl ⟨rfl, rfl⟩
      | some o => obtain ⟨k, h⟩ := hlo; exact .inr ⟨k, by simp [OpV.eval h hf (by simp [Op.operands]) hc]⟩) (by
      cases hi with
      | none => cases hhi; exact .inl ⟨rfl, rfl⟩
      | some o => obtain ⟨k, h⟩ := hhi; exact .inr ⟨k, by simp [OpV.eval h hf (by simp [Op.operands]) hc]⟩) (hr hc) w
    simp [execOp, e0, h1]) hk

section
variable {τ δ : Type} [GT τ δ]
/-- A slice of one's own, its element i opened: the element's cells stand as they are named, what it owned is elsewhere. -/
def holeH (X : TL τ) (i : Nat) (cs : List Value) : HP := ⟨[X.g] ++ (X.els.eraseIdx i).flatMap GT.fp,
  fun w => cs.length = GT.sz τ ∧ i < X.els.length ∧ X.els.length ≤ X.cap ∧ X.cap ≤ maxLen ∧ X.a = some ⟨X.g, 0, none⟩ ∧ (∀ x, x ∈ X.els.eraseIdx i → GT.ow w x) ∧
    w.heap[X.g]? = some (.cells (rowCells (X.els.take i) ++ (cs ++ (rowCells (X.els.drop (i + 1)) ++ X.tail))).toArray X.e (0, 0)) ∧ X.els.length * GT.sz τ + X.tail.length = X.cap * GT.sz τ,
  fun w w' h hp => ⟨hp.1, hp.2.1, hp.2.2.1, hp.2.2.2.1, hp.2.2.2.2.1, fun x hx => GT.ow_st (fun k hk => h k (List.mem_append_right _ (List.mem_flatMap.2 ⟨x, hx, hk⟩))) (hp.2.2.2.2.2.1 x hx), by
    rw [h X.g (by simp)]; exact hp.2.2.2.2.2.2.1, hp.2.2.2.2.2.2.2⟩⟩

theorem row_parts (xs : List τ) {i : Nat} {x : τ} (hi : xs[i]? = some x) : rowCells xs = rowCells (xs.take i) ++ (GT.cells x ++ rowCells (xs.drop (i + 1))) := by
  obtain ⟨hlt, hx⟩ := List.getElem?_eq_some_iff.1 hi
  have h1 : xs = xs.take i ++ xs[i] :: xs.drop (i + 1) := by rw [← List.drop_eq_getElem_cons hlt, List.take_append_drop]
  conv => lhs; rw [h1]
  rw [rowCells_append, rowCells_cons, hx]
theorem perm_el (xs : List τ) {i : Nat} {x : τ} (hi : xs[i]? = some x) : List.Perm xs (x :: xs.eraseIdx i) := by
  obtain ⟨hlt, hx⟩ := List.getElem?_eq_some_iff.1 hi
  rw [List.eraseIdx_eq_take_drop_succ]
  have : xs = xs.take i ++ x :: xs.drop (i + 1) := by rw [← hx, ← List.drop_eq_getElem_cons hlt, List.take_append_drop]
  conv => lhs; rw [this]
  exact List.perm_middle

theorem hole_open {X : TL τ} {i : Nat} {x : τ} (hi : X.els[i]? = some x) (p : Pick (treeH X) M M1) (h : Holds w0 S0 M w) : Holds w0 S0 (treeH x :: holeH X i (GT.cells x) :: M1) w := by
  have h := h.perm p.perm
  have ht : GT.ow w X := h.prs _ (List.mem_cons_self ..)
  have hlt := (List.getElem?_eq_some_iff.1 hi).1
  obtain ⟨r1, r2, r3, r4, r5⟩ := ht
  obtain ⟨g, ha⟩ := (ow_facts (w := w) (L := X) ⟨r1, r2, r3, r4, r5⟩).2 (by omega)
  have hg : X.g = g := by unfold TL.g; rw [ha]; rfl
  subst hg
  obtain ⟨h1, h2, h3, h4⟩ := r5 _ ha
  refine h.reFp ?_ fun y hy => ?_
  · simp only [fps_cons]
    show List.Perm (((match X.a with | none => [] | some a => [a.block]) ++ X.els.flatMap GT.fp) ++ fps M1) (GT.fp x ++ (([X.g] ++ (X.els.eraseIdx i).flatMap GT.fp) ++ fps M1))
    rw [ha]
    have hp := (perm_el X.els hi).flatMap_right GT.fp
    rw [List.flatMap_cons] at hp
    show List.Perm (([X.g] ++ X.els.flatMap GT.fp) ++ fps M1) _
    rw [← List.append_assoc, ← List.append_assoc]
    refine List.Perm.append_right _ ?_
    refine (hp.append_left [X.g]).trans ?_
    rw [← List.append_assoc]
    exact List.perm_append_comm.append_right _
  · rcases List.mem_cons.1 hy with rfl | hy
    · exact r3 x (List.mem_of_getElem? hi)
    rcases List.mem_cons.1 hy with rfl | hy
    · refine ⟨GT.len x, hlt, r1, r2, ha, fun z hz => r3 z ((perm_el X.els hi).mem_iff.2 (List.mem_cons_of_mem _ hz)), ?_, h4⟩
      rw [row_parts X.els hi] at h3
      simpa [List.append_assoc] using h3
    · exact h.prs _ (List.mem_cons_of_mem _ hy)

theorem hole_close {X : TL τ} {i : Nat} {x' : τ} {cs : List Value} (hc : cs = GT.cells x') (p : Pick (holeH X i cs) M M1) (q : Pick (treeH x') M1 M2) (h : Holds w0 S0 M w) :
    Holds w0 S0 (treeH ({ X with els := X.els.set i x' } : TL τ) :: M2) w := by
  subst hc
  have h := h.perm (p.perm.trans (q.perm.cons _))
  obtain ⟨r1, r2, r3, r4, r5, r6, r7, r8⟩ := h.prs (holeH X i (GT.cells x')) (List.mem_cons_self ..)
  have hx := h.prs (treeH x') (List.mem_cons_of_mem _ (List.mem_cons_self ..))
  have hi : (X.els.set i x')[i]? = some x' := by rw [List.getElem?_set_self]; exact r2
  have he : (X.els.set i x').eraseIdx i = X.els.eraseIdx i := by
    rw [List.eraseIdx_eq_take_drop_succ, List.eraseIdx_eq_take_drop_succ, List.take_set_of_le (Nat.le_refl _), List.drop_set_of_lt (Nat.lt_succ_self _)]
  refine h.reFp ?_ fun y hy => ?_
  · simp only [fps_cons]
    show List.Perm (([X.g] ++ (X.els.eraseIdx i).flatMap GT.fp) ++ (GT.fp x' ++ fps M2)) (((match X.a with | none => [] | some a => [a.block]) ++ (X.els.set i x').flatMap GT.fp) ++ fps M2)
    rw [r5]
    have hp := (perm_el _ hi).flatMap_right GT.fp
    rw [List.flatMap_cons, he] at hp
    show List.Perm _ (([X.g] ++ (X.els.set i x').flatMap GT.fp) ++ fps M2)
    rw [← List.append_assoc]
    refine List.Perm.append_right _ ?_
    rw [List.append_assoc]
    exact ((List.perm_append_comm).trans hp.symm).append_left [X.g]
  · rcases List.mem_cons.1 hy with rfl | hy
    · refine ⟨by simpa using r3, r4, fun z hz => ?_, fun ha => ?_, fun a ha => ?_⟩
      · rcases List.mem_cons.1 ((perm_el _ hi).mem_iff.1 hz) with rfl | hz
        · exact hx
        · rw [he] at hz; exact r6 z hz
      · have ha' : X.a = none := ha
        rw [r5] at ha'; cases ha'
      · have ha' : X.a = some a := ha
        rw [r5] at ha'; cases ha'
        refine ⟨rfl, rfl, ?_, by simpa using r8⟩
        rw [row_parts _ hi, List.take_set_of_le (Nat.le_refl _), List.drop_set_of_lt (Nat.lt_succ_self _)]
        simpa [List.append_assoc] using r7
    · exact h.prs _ (List.mem_cons_of_mem _ (List.mem_cons_of_mem _ hy))
theorem dat_set (X : TL τ) (i : Nat) (x' : τ) : GT.dat ({ X with els := X.els.set i x' } : TL τ) = (GT.dat X).set i (GT.dat x') := by
  rw [dat_els, dat_els, List.map_set]

theorem RdC.hole {X : TL τ} {i : Nat} {cs : List Value} (h : holeH X i cs ∈ M) : RdC Γ M X.g (X.o + i * GT.sz τ) cs := fun w hw j v hv => by
  obtain ⟨r1, r2, r3, r4, r5, r6, r7, r8⟩ := hw.prs _ h
  have ho : X.o = 0 := by unfold TL.o; rw [r5]; rfl
  have hj := (List.getElem?_eq_some_iff.1 hv).1
  have hl : (rowCells (X.els.take i)).length = i * GT.sz τ := by rw [length_rowCells, List.length_take, Nat.min_eq_left (by omega)]
  rw [ho, Nat.zero_add, cell_of_row _ _ _ _ _ _ r7]
  simp only [List.getElem?_toArray]
  rw [List.getElem?_append_right (by omega), hl, Nat.add_sub_cancel_left, List.getElem?_append_left hj]
  exact hv

/-- A store into the opened element. -/
theorem L_stH {x y : Operand} {T sz fo n : Nat} {v : Value} {X : TL τ} {i : Nat} {cs : List Value} (hx : ev l x = some (.pointer (some ⟨X.g, X.o + i * sz + fo, none⟩))) (hy : ev l y = some v)
    (hp : Pick (holeH X i cs) M M1) (hsz : GT.sz τ = sz) (hT : aggOf Γ.P T = some n ∨ (oneOf Γ.P T = true ∧ n = 1)) (hv : v.cells.toList.length = n) (h1 : ∀ u, u ∈ v.cells.toList → u.oneCell' = true) (hfit : fo + n ≤ cs.length)
    (hk : L Γ rest l (holeH X i (cs.take fo ++ v.cells.toList ++ cs.drop (fo + n)) :: M1) K) :
    L Γ ({ dst := none, op := .store T x y, type := ty, pos, after := af, guard := none } :: rest) l M K :=
  L_skip rfl rfl (fun a w ha hw => by
    subst hsz; subst hv
    have hw1 := hw.perm hp.perm
    obtain ⟨r1, r2, r3, r4, r5, r6, r7, r8⟩ := hw1.prs (holeH X i cs) (List.mem_cons_self ..)
    have ho : X.o = 0 := by unfold TL.o; rw [r5]; rfl
    have hl : (rowCells (X.els.take i)).length = i * GT.sz τ := by rw [length_rowCells, List.length_take, Nat.min_eq_left (by omega)]
    have hs := run_store_blk (P := Γ.P) (fo := i * GT.sz τ + fo) (vs := v.cells.toList) (ty := 0) r7 (by
      simp only [List.length_append, hl]; omega) h1
    have e : (rowCells (X.els.take i) ++ (cs ++ (rowCells (X.els.drop (i + 1)) ++ X.tail))).take (i * GT.sz τ + fo) ++ v.cells.toList ++ (rowCells (X.els.take i) ++ (cs ++ (rowCells (X.els.drop (i + 1)) ++ X.tail))).drop (i * GT.sz τ + fo + v.cells.toList.length)
        = rowCells (X.els.take i) ++ ((cs.take fo ++ v.cells.toList ++ cs.drop (fo + v.cells.toList.length)) ++ (rowCells (X.els.drop (i + 1)) ++ X.tail)) := by
      generalize rowCells (X.els.take i) = A at *
      generalize (rowCells (X.els.drop (i + 1)) ++ X.tail) = B at *
      rw [← hl]
      rw [List.take_append, List.take_of_length_le (by omega), Nat.add_sub_cancel_left, List.take_append_of_le_length (by omega)]
      rw [show A.length + fo + v.cells.toList.length = A.length + (fo + v.cells.toList.length) by omega, List.drop_append, List.drop_of_length_le (by omega), List.nil_append, Nat.add_sub_cancel_left, List.drop_append_of_le_length (by omega)]
      simp only [List.append_assoc]
    rw [e] at hs
    refine ⟨w.setRow X.g (rowCells (X.els.take i) ++ ((cs.take fo ++ v.cells.toList ++ cs.drop (fo + v.cells.toList.length)) ++ (rowCells (X.els.drop (i + 1)) ++ X.tail))).toArray, ?_, ?_⟩
    · have hx' := ha.eval hx
      rw [ho, Nat.zero_add] at hx'
      rcases hT with hT | ⟨hT, hn1⟩
      · have hcs : v.cells.size = v.cells.toList.length := by simp
        simp [execOp, hx', ha.eval hy, Instr.storeAt, Instr.sureAddr, storeVar, run_isAgg_agg hT, hs]
      · have hcs : v.cells.size = 1 := by rw [← hn1]; simp
        simp [execOp, hx', ha.eval hy, Instr.storeAt, Instr.sureAddr, storeVar, run_isAgg_one hT, hcs, hs]
    · refine Holds.swap hw1 rfl rfl rfl (by simp) (fun k hk hn => ?_) (fun k hk => ?_) ?_ ?_
      · exact setRow_other _ _ _ _ (fun e => hn (by simp [holeH, e]))
      · have hk' : k ∈ (holeH X i cs).fp := hk
        refine ⟨.inl hk', ?_⟩
        rw [size_setRow]
        exact (hw1.rng k (by rw [fps_cons]; exact List.mem_append_left _ hk')).2
      · have := hw1.nodup
        rw [fps_cons] at this
        exact (List.nodup_append.1 this).1
      · have hdis : ∀ k, k ∈ (X.els.eraseIdx i).flatMap GT.fp → k ≠ X.g := fun k hk e => by
          have := hw1.nodup
          rw [fps_cons] at this
          have h2 := (List.nodup_append.1 this).1
          have h3 : (X.g :: (X.els.eraseIdx i).flatMap GT.fp).Nodup := h2
          rw [List.nodup_cons] at h3
          exact h3.1 (e ▸ hk)
        refine ⟨?_, r2, r3, r4, r5, fun z hz => GT.ow_st (fun k hk => setRow_other _ _ _ _ (fun e => hdis k (List.mem_flatMap.2 ⟨z, hz, hk⟩) e)) (r6 z hz), setRow_heap _ _ _ _ _ _ r7, r8⟩
        simp only [List.length_append, List.length_take, List.length_drop]; omega) hk
/-- The address of an element of a slice with an opened element. -/
theorem L_idxH {x y : Operand} {T e sz by_ : Nat} {z : List Value} {k : IntKind} {i : Int} {j : Nat} {cs : List Value} {X : TL τ} {u : τ} (hn : Nat.blt d Γ.n = true) (hx : ev l x = some X.hdr) (hy : ev l y = some (.int k i))
    (ht : elOf Γ.P T = some (e, sz, by_, z)) (hm : holeH X j cs ∈ M) (hi : 0 ≤ i ∧ X.els[i.toNat]? = some u) (hk : L Γ rest ((d, .pointer (some ⟨X.g, X.o + i.toNat * sz, none⟩)) :: l) M K) :
    L Γ ({ dst := some d, op := .indexAddr T x y, type := ty, pos := pos, after := af, guard := none } :: rest) l M K :=
  L_pure hn (fun a' w ha hw => by
    obtain ⟨r1, r2, r3, r4, r5, r6, r7, r8⟩ := hw.prs _ hm
    have ho : X.o = 0 := by unfold TL.o; rw [r5]; rfl
    have h1 := ha.eval hx
    have h2 : X.hdr = .slice (some ⟨X.g, X.o, none⟩) X.els.length X.cap := by show Value.slice X.a X.els.length X.cap = _; rw [ho, ← r5]
    rw [h2] at h1
    simp [execOp, h1, ha.eval hy, run_indexAt ht X.g X.o X.els.length X.cap k i i.toNat (by omega) (List.getElem?_eq_some_iff.1 hi.2).1 w]) hk
end
end Go.Proofs.SL
