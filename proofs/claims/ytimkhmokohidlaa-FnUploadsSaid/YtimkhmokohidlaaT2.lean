/- The texts of the proof, part 2: the base, walks of functions, plain Lean. -/
import Derived.Test.YtimkhmokohidlaaT1
import Derived.Sort.Grow
import Derived.Sort.EncStr
import Derived.Lib.SlicesCompact
import Derived.Laws.StructEq
import Derived.Test.YtimkhmokohidlaaRows
import Derived.Lib.Overlaps
import Derived.Lib.AppendZerosOnto
import Derived.Laws.Externs
import Derived.Shelf.Sort.Plain
import Derived.Shelf.Slices.In.SortNone
import Derived.OrdersHeld
namespace Go.Proofs.SL
open Go
variable {Γ : Cx} {l : Envl} {M M' M1 M2 F : List HP} {Q : Post} {K : Kont} {w0 w : World} {S0 : List Nat}
variable {rest : List Oper} {d : Nat} {ty : TypeId} {pos : String} {af : Array Edge}
variable {ops : Array Oper} {Msh pool : List HP} {E : Fl} {rs : List (Option Nat × Rel)} {cs0 : List Nat} {KD : List (Option Nat × Rel) → List Nat → List HP → Prop} {gd : Option (Nat × Bool)}
theorem run_sslO {P : Program} {T : TypeId} {s r : ByteArray} {vlo vhi : Option Value} {a b : Int} (ht : isStr P T = true) (hlo : (vlo = none ∧ a = 0) ∨ ∃ k, vlo = some (.int k a)) (hhi : (vhi = none ∧ b = (s.size : Int)) ∨ ∃ k, vhi = some (.int k b))
    (hr : sslP s a b = some r) (w : World) : (Instr.sliceAt T (.string s) vlo vhi none).run P w = .ok (.string r) w := by
  have h2 : P.underlying T = some .string := by unfold isStr at ht; split at ht <;> simp_all
  unfold sslP at hr
  split at hr
  · rename_i hb
    cases hr
    have e1 := fun k w => run_sliceBound (P := P) (k := k) (code := .sliceAlen) (show 0 ≤ b by omega) (show b ≤ ((s.size : Nat) : Int) by omega) w
    have e2 := fun k w => run_sliceBound (P := P) (k := k) (code := .sliceB) hb.1 (show a ≤ ((b.toNat : Nat) : Int) by omega) w
    have e3 := fun k w => run_sliceBound (P := P) (k := k) (code := .sliceB) hb.1 (show a ≤ ((s.size : Nat) : Int) by omega) w
    rcases hlo with ⟨rfl, rfl⟩ | ⟨k1, rfl⟩ <;> rcases hhi with ⟨rfl, rfl⟩ | ⟨k2, rfl⟩
    · simp [Instr.sliceAt, Instr.slice, underlying, h2, Instr.sliceBounds]
    · simp [Instr.sliceAt, Instr.slice, underlying, h2, Instr.sliceBounds, e1]
    · simp [Instr.sliceAt, Instr.slice, underlying, h2, Instr.sliceBounds, e3]
    · simp [Instr.sliceAt, Instr.slice, underlying, h2, Instr.sliceBounds, e1, e2]
  · cases hr
theorem L_ssl {x : Operand} {lo hi : Option Operand} {T : TypeId} {s r : ByteArray} {a b : Int} (hn : Nat.blt d Γ.n = true) (hx : ev l x = some (.string s)) (hlo : optI l lo 0 = some a) (hhi : optI l hi (s.size : Int) = some b)
    (ht : isStr Γ.P T = true) (hr : sslP s a b = some r) (hk : L Γ rest ((d, .string r) :: l) M K) :
    L Γ ({ dst := some d, op := .slice T x lo hi none, type := ty, pos := pos, after := af, guard := none } :: rest) l M K :=
  L_pure hn (fun a' w ha hw => by
    have e0 := ha.eval hx
    have h1 := run_sslO (P := Γ.P) (T := T) (s := s) (r := r) (vlo := lo.map a'.eval) (vhi := hi.map a'.eval) (a := a) (b := b) ht (by
      cases lo with
      | none => cases hlo; exact .inl ⟨rfl, rfl⟩
      | some o => obtain ⟨k, h⟩ := optI_some hlo; exact .inr ⟨k, by simp [ha.eval h]⟩) (by
      cases hi with
      | none => cases hhi; exact .inl ⟨rfl, rfl⟩
      | some o => obtain ⟨k, h⟩ := optI_some hhi; exact .inr ⟨k, by simp [ha.eval h]⟩) hr w
    simp [execOp, e0, h1]) hk
def optD (E : Fl) (x : Option Operand) (c : Prop) (n i : Int) : Prop := match x with
  | none => n = i
  | some o => ∃ k, OpV E o c (.int k i)
theorem optD.none {c : Prop} {n : Int} : optD E Option.none c n n := rfl
theorem optD.some {o : Operand} {c : Prop} {n i : Int} {k : IntKind} (h : OpV E o c (.int k i)) : optD E (Option.some o) c n i := ⟨k, h⟩
section
variable {τ δ : Type} [GT τ δ]
/-- A slice of one's own, its element i opened: the element's cells stand as they are named, what it owned is elsewhere. -/
def holeH (X : TL τ) (i : Nat) (cs : List Value) : HP := ⟨[X.g] ++ (X.els.eraseIdx i).flatMap GT.fp,
  fun w => cs.length = GT.sz τ ∧ i < X.els.length ∧ X.els.length ≤ X.cap ∧ X.cap ≤ maxLen ∧ X.a = some ⟨X.g, 0, none⟩ ∧ (∀ x, x ∈ X.els.eraseIdx i → GT.ow w x) ∧
    w.heap[X.g]? = some (.cells (rowCells (X.els.take i) ++ (cs ++ (rowCells (X.els.drop (i + 1)) ++ X.tail))).toArray X.e (0, 0)) ∧ X.els.length * GT.sz τ + X.tail.length = X.cap * GT.sz τ,
  fun w w' h hp => ⟨hp.1, hp.2.1, hp.2.2.1, hp.2.2.2.1, hp.2.2.2.2.1, fun x hx => GT.ow_st (fun k hk => h k (List.mem_append_right _ (List.mem_flatMap.2 ⟨x, hx, hk⟩))) (hp.2.2.2.2.2.1 x hx), by
    rw [h X.g (by simp)]; exact hp.2.2.2.2.2.2.1, hp.2.2.2.2.2.2.2⟩⟩
theorem row_parts (xs : List τ) {i : Nat} {x : τ} (hi : xs[i]? = some x) : rowCells xs = rowCells (xs.take i) ++ (GT.cells x ++ rowCells (xs.drop (i + 1))) := by
  obtain ⟨hlt, hx⟩ := List.getElem?_eq_some_iff.1 hi
  have h1 : xs = xs.take i ++ xs[i] :: xs.drop (i + 1) := by rw [← List.drop_eq_getElem_cons hlt, List.take_append_drop]
  conv => lhs; rw [h1]
  rw [rowCells_append, rowCells_cons, hx]
theorem perm_el (xs : List τ) {i : Nat} {x : τ} (hi : xs[i]? = some x) : List.Perm xs (x :: xs.eraseIdx i) := by
  obtain ⟨hlt, hx⟩ := List.getElem?_eq_some_iff.1 hi
  rw [List.eraseIdx_eq_take_drop_succ]
  have : xs = xs.take i ++ x :: xs.drop (i + 1) := by rw [← hx, ← List.drop_eq_getElem_cons hlt, List.take_append_drop]
  conv => lhs; rw [this]
  exact List.perm_middle
theorem hole_open {X : TL τ} {i : Nat} {x : τ} (hi : X.els[i]? = some x) (p : Pick (treeH X) M M1) (h : Holds w0 S0 M w) : Holds w0 S0 (treeH x :: holeH X i (GT.cells x) :: M1) w := by
  have h := h.perm p.perm
  have ht : GT.ow w X := h.prs _ (List.mem_cons_self ..)
  have hlt := (List.getElem?_eq_some_iff.1 hi).1
  obtain ⟨r1, r2, r3, r4, r5⟩ := ht
  obtain ⟨g, ha⟩ := (ow_facts (w := w) (L := X) ⟨r1, r2, r3, r4, r5⟩).2 (by omega)
  have hg : X.g = g := by unfold TL.g; rw [ha]; rfl
  subst hg
  obtain ⟨h1, h2, h3, h4⟩ := r5 _ ha
  refine h.reFp ?_ fun y hy => ?_
  · simp only [fps_cons]
    show List.Perm (((match X.a with | none => [] | some a => [a.block]) ++ X.els.flatMap GT.fp) ++ fps M1) (GT.fp x ++ (([X.g] ++ (X.els.eraseIdx i).flatMap GT.fp) ++ fps M1))
    rw [ha]
    have hp := (perm_el X.els hi).flatMap_right GT.fp
    rw [List.flatMap_cons] at hp
    show List.Perm (([X.g] ++ X.els.flatMap GT.fp) ++ fps M1) _
    rw [← List.append_assoc, ← List.append_assoc]
    refine List.Perm.append_right _ ?_
    refine (hp.append_left [X.g]).trans ?_
    rw [← List.append_assoc]
    exact List.perm_append_comm.append_right _
  · rcases List.mem_cons.1 hy with rfl | hy
    · exact r3 x (List.mem_of_getElem? hi)
    rcases List.mem_cons.1 hy with rfl | hy
    · refine ⟨GT.len x, hlt, r1, r2, ha, fun z hz => r3 z ((perm_el X.els hi).mem_iff.2 (List.mem_cons_of_mem _ hz)), ?_, h4⟩
      rw [row_parts X.els hi] at h3
      simpa [List.append_assoc] using h3
    · exact h.prs _ (List.mem_cons_of_mem _ hy)
theorem hole_close {X : TL τ} {i : Nat} {x' : τ} {cs : List Value} (hc : cs = GT.cells x') (p : Pick (holeH X i cs) M M1) (q : Pick (treeH x') M1 M2) (h : Holds w0 S0 M w) :
    Holds w0 S0 (treeH ({ X with els := X.els.set i x' } : TL τ) :: M2) w := by
  subst hc
  have h := h.perm (p.perm.trans (q.perm.cons _))
  obtain ⟨r1, r2, r3, r4, r5, r6, r7, r8⟩ := h.prs (holeH X i (GT.cells x')) (List.mem_cons_self ..)
  have hx := h.prs (treeH x') (List.mem_cons_of_mem _ (List.mem_cons_self ..))
  have hi : (X.els.set i x')[i]? = some x' := by rw [List.getElem?_set_self]; exact r2
  have he : (X.els.set i x').eraseIdx i = X.els.eraseIdx i := by
    rw [List.eraseIdx_eq_take_drop_succ, List.eraseIdx_eq_take_drop_succ, List.take_set_of_le (Nat.le_refl _), List.drop_set_of_lt (Nat.lt_succ_self _)]
  refine h.reFp ?_ fun y hy => ?_
  · simp only [fps_cons]
    show List.Perm (([X.g] ++ (X.els.eraseIdx i).flatMap GT.fp) ++ (GT.fp x' ++ fps M2)) (((match X.a with | none => [] | some a => [a.block]) ++ (X.els.set i x').flatMap GT.fp) ++ fps M2)
    rw [r5]
    have hp := (perm_el _ hi).flatMap_right GT.fp
    rw [List.flatMap_cons, he] at hp
    show List.Perm _ (([X.g] ++ (X.els.set i x').flatMap GT.fp) ++ fps M2)
    rw [← List.append_assoc]
    refine List.Perm.append_right _ ?_
    rw [List.append_assoc]
    exact ((List.perm_append_comm).trans hp.symm).append_left [X.g]
  · rcases List.mem_cons.1 hy with rfl | hy
    · refine ⟨by simpa using r3, r4, fun z hz => ?_, fun ha => ?_, fun a ha => ?_⟩
      · rcases List.mem_cons.1 ((perm_el _ hi).mem_iff.1 hz) with rfl | hz
        · exact hx
        · rw [he] at hz; exact r6 z hz
      · have ha' : X.a = none := ha
        rw [r5] at ha'; cases ha'
      · have ha' : X.a = some a := ha
        rw [r5] at ha'; cases ha'
        refine ⟨rfl, rfl, ?_, by simpa using r8⟩
        rw [row_parts _ hi, List.take_set_of_le (Nat.le_refl _), List.drop_set_of_lt (Nat.lt_succ_self _)]
        simpa [List.append_assoc] using r7
    · exact h.prs _ (List.mem_cons_of_mem _ (List.mem_cons_of_mem _ hy))
theorem dat_set (X : TL τ) (i : Nat) (x' : τ) : GT.dat ({ X with els := X.els.set i x' } : TL τ) = (GT.dat X).set i (GT.dat x') := by
  rw [dat_els, dat_els, List.map_set]
theorem RdC.hole {X : TL τ} {i : Nat} {cs : List Value} (h : holeH X i cs ∈ M) : RdC Γ M X.g (X.o + i * GT.sz τ) cs := fun w hw j v hv => by
  obtain ⟨r1, r2, r3, r4, r5, r6, r7, r8⟩ := hw.prs _ h
  have ho : X.o = 0 := by unfold TL.o; rw [r5]; rfl
  have hj := (List.getElem?_eq_some_iff.1 hv).1
  have hl : (rowCells (X.els.take i)).length = i * GT.sz τ := by rw [length_rowCells, List.length_take, Nat.min_eq_left (by omega)]
  rw [ho, Nat.zero_add, cell_of_row _ _ _ _ _ _ r7]
  simp only [List.getElem?_toArray]
  rw [List.getElem?_append_right (by omega), hl, Nat.add_sub_cancel_left, List.getElem?_append_left hj]
  exact hv
/-- A store into the opened element. -/
theorem L_stH {x y : Operand} {T sz fo n : Nat} {v : Value} {X : TL τ} {i : Nat} {cs : List Value} (hx : ev l x = some (.pointer (some ⟨X.g, X.o + i * sz + fo, none⟩))) (hy : ev l y = some v)
    (hp : Pick (holeH X i cs) M M1) (hsz : GT.sz τ = sz) (hT : aggOf Γ.P T = some n ∨ (oneOf Γ.P T = true ∧ n = 1)) (hv : v.cells.toList.length = n) (h1 : ∀ u, u ∈ v.cells.toList → u.oneCell' = true) (hfit : fo + n ≤ cs.length)
    (hk : L Γ rest l (holeH X i (cs.take fo ++ v.cells.toList ++ cs.drop (fo + n)) :: M1) K) :
    L Γ ({ dst := none, op := .store T x y, type := ty, pos, after := af, guard := none } :: rest) l M K :=
  L_skip rfl rfl (fun a w ha hw => by
    subst hsz; subst hv
    have hw1 := hw.perm hp.perm
    obtain ⟨r1, r2, r3, r4, r5, r6, r7, r8⟩ := hw1.prs (holeH X i cs) (List.mem_cons_self ..)
    have ho : X.o = 0 := by unfold TL.o; rw [r5]; rfl
    have hl : (rowCells (X.els.take i)).length = i * GT.sz τ := by rw [length_rowCells, List.length_take, Nat.min_eq_left (by omega)]
    have hs := run_store_blk (P := Γ.P) (fo := i * GT.sz τ + fo) (vs := v.cells.toList) (ty := 0) r7 (by
      simp only [List.length_append, hl]; omega) h1
    have e : (rowCells (X.els.take i) ++ (cs ++ (rowCells (X.els.drop (i + 1)) ++ X.tail))).take (i * GT.sz τ + fo) ++ v.cells.toList ++ (rowCells (X.els.take i) ++ (cs ++ (rowCells (X.els.drop (i + 1)) ++ X.tail))).drop (i * GT.sz τ + fo + v.cells.toList.length)
        = rowCells (X.els.take i) ++ ((cs.take fo ++ v.cells.toList ++ cs.drop (fo + v.cells.toList.length)) ++ (rowCells (X.els.drop (i + 1)) ++ X.tail)) := by
      generalize rowCells (X.els.take i) = A at *
      generalize (rowCells (X.els.drop (i + 1)) ++ X.tail) = B at *
      rw [← hl]
      rw [List.take_append, List.take_of_length_le (by omega), Nat.add_sub_cancel_left, List.take_append_of_le_length (by omega)]
      rw [show A.length + fo + v.cells.toList.length = A.length + (fo + v.cells.toList.length) by omega, List.drop_append, List.drop_of_length_le (by omega), List.nil_append, Nat.add_sub_cancel_left, List.drop_append_of_le_length (by omega)]
      simp only [List.append_assoc]
    rw [e] at hs
    refine ⟨w.setRow X.g (rowCells (X.els.take i) ++ ((cs.take fo ++ v.cells.toList ++ cs.drop (fo + v.cells.toList.length)) ++ (rowCells (X.els.drop (i + 1)) ++ X.tail))).toArray, ?_, ?_⟩
    · have hx' := ha.eval hx
      rw [ho, Nat.zero_add] at hx'
      rcases hT with hT | ⟨hT, hn1⟩
      · have hcs : v.cells.size = v.cells.toList.length := by simp
        simp [execOp, hx', ha.eval hy, Instr.storeAt, Instr.sureAddr, storeVar, run_isAgg_agg hT, hs]
      · have hcs : v.cells.size = 1 := by rw [← hn1]; simp
        simp [execOp, hx', ha.eval hy, Instr.storeAt, Instr.sureAddr, storeVar, run_isAgg_one hT, hcs, hs]
    · refine Holds.swap hw1 rfl rfl rfl (by simp) (fun k hk hn => ?_) (fun k hk => ?_) ?_ ?_
      · exact setRow_other _ _ _ _ (fun e => hn (by simp [holeH, e]))
      · have hk' : k ∈ (holeH X i cs).fp := hk
        refine ⟨.inl hk', ?_⟩
        rw [size_setRow]
        exact (hw1.rng k (by rw [fps_cons]; exact List.mem_append_left _ hk')).2
      · have := hw1.nodup
        rw [fps_cons] at this
        exact (List.nodup_append.1 this).1
      · have hdis : ∀ k, k ∈ (X.els.eraseIdx i).flatMap GT.fp → k ≠ X.g := fun k hk e => by
          have := hw1.nodup
          rw [fps_cons] at this
          have h2 := (List.nodup_append.1 this).1
          have h3 : (X.g :: (X.els.eraseIdx i).flatMap GT.fp).Nodup := h2
          rw [List.nodup_cons] at h3
          exact h3.1 (e ▸ hk)
        refine ⟨?_, r2, r3, r4, r5, fun z hz => GT.ow_st (fun k hk => setRow_other _ _ _ _ (fun e => hdis k (List.mem_flatMap.2 ⟨z, hz, hk⟩) e)) (r6 z hz), setRow_heap _ _ _ _ _ _ r7, r8⟩
        simp only [List.length_append, List.length_take, List.length_drop]; omega) hk
/-- The address of an element of a slice with an opened element. -/
theorem L_idxH {x y : Operand} {T e sz by_ : Nat} {z : List Value} {k : IntKind} {i : Int} {j : Nat} {cs : List Value} {X : TL τ} {u : τ} (hn : Nat.blt d Γ.n = true) (hx : ev l x = some X.hdr) (hy : ev l y = some (.int k i))
    (ht : elOf Γ.P T = some (e, sz, by_, z)) (hm : holeH X j cs ∈ M) (hi : 0 ≤ i ∧ X.els[i.toNat]? = some u) (hk : L Γ rest ((d, .pointer (some ⟨X.g, X.o + i.toNat * sz, none⟩)) :: l) M K) :
    L Γ ({ dst := some d, op := .indexAddr T x y, type := ty, pos := pos, after := af, guard := none } :: rest) l M K :=
  L_pure hn (fun a' w ha hw => by
    obtain ⟨r1, r2, r3, r4, r5, r6, r7, r8⟩ := hw.prs _ hm
    have ho : X.o = 0 := by unfold TL.o; rw [r5]; rfl
    have h1 := ha.eval hx
    have h2 : X.hdr = .slice (some ⟨X.g, X.o, none⟩) X.els.length X.cap := by show Value.slice X.a X.els.length X.cap = _; rw [ho, ← r5]
    rw [h2] at h1
    simp [execOp, h1, ha.eval hy, run_indexAt ht X.g X.o X.els.length X.cap k i i.toNat (by omega) (List.getElem?_eq_some_iff.1 hi.2).1 w]) hk
end
end Go.Proofs.SL
namespace Go.Proofs.SL
open Go
theorem cells_int (n : Int) : GT.cells n = [.int .i64 n] := rfl
theorem cells_bool (b : Bool) : GT.cells b = [.bool b] := rfl
theorem cells_str (s : ByteArray) : GT.cells s = [.string s] := rfl
theorem cells_TL {τ δ : Type} [GT τ δ] (X : TL τ) : GT.cells X = [X.hdr] := rfl
theorem gnot {b : Bool} (h : b = false) : (!b) = true := by rw [h]; rfl
theorem gand {a b : Bool} (h : a = true) (h2 : b = true) : (a && b) = true := by rw [h, h2]; rfl
theorem allOne {cs : List Value} (h : cs.all Value.oneCell' = true) : ∀ v, v ∈ cs → v.oneCell' = true := List.all_eq_true.1 h
variable {Γ : Cx} {l : Envl} {M M' M1 M2 F : List HP} {Q : Post} {K : Kont} {w0 w : World} {S0 : List Nat}
variable {rest : List Oper} {d : Nat} {ty : TypeId} {pos : String} {af : Array Edge}
theorem RdT.now {τ δ : Type} [GT τ δ] {t : τ} (h : RdT Γ M t) (hw : Holds Γ.w0 Γ.S0 M w) : GT.rd w [] t := h w hw.sees
theorem RdT.nowS {τ δ : Type} [GT τ δ] {t : τ} (h : RdT Γ M t) (hw : Holds Γ.w0 Γ.S0 F w) (hs : ∀ x, x ∈ M → x ∈ F) : GT.rd w [] t := h w (hw.seesSub hs)
theorem addNilT {τ δ : Type} [GT τ δ] (e : TypeId) (h : Holds w0 S0 M w) : Holds w0 S0 (treeH (TL.nil τ e) :: M) w := h.addFlat (flat_nil e)
theorem L_mk0 (τ : Type) {δ : Type} [GT τ δ] {T e sz by_ : Nat} {z : List Value} (hn : Nat.blt d Γ.n = true) (ht : elOf Γ.P T = some (e, sz, by_, z))
    (hk : ∀ X : TL τ, GT.dat X = [] → L Γ rest ((d, X.hdr) :: l) (treeH X :: M) K) :
    L Γ ({ dst := some d, op := .buildSlice T 0 #[], type := ty, pos, after := af, guard := none } :: rest) l M K :=
  L_buildSlice0 τ hn ht (fun b => hk ⟨some ⟨b, 0, none⟩, 0, e, [], []⟩ rfl)
end Go.Proofs.SL
namespace Go.Proofs.SL
open Go
variable {Γ : Cx} {l : Envl} {M M' M1 M2 F : List HP} {Q : Post} {K : Kont} {w0 w : World} {S0 : List Nat}
variable {rest : List Oper} {d : Nat} {ty : TypeId} {pos : String} {af : Array Edge}
variable {ops : Array Oper} {Msh pool pool' : List HP} {E : Fl} {rs : List (Option Nat × Rel)} {cs0 : List Nat} {KD : List (Option Nat × Rel) → List Nat → List HP → Prop}
def RowV (cs : List Value) (e : TypeId) : Rel := fun v M => ∃ b, v = .slice (some ⟨b, 0, none⟩) 1 1 ∧ M = [blk b cs e]
theorem run_bs1 {P : Program} {T e sz by_ : Nat} {z : List Value} {v : Value} (ht : elOf P T = some (e, sz, by_, z)) (hz : z.length = sz) (hsz : 0 < sz) (hns : sz ≤ 65536) (hv : v.cells.toList.length = sz) (w : World) :
    (Instr.buildSlice T 1 #[(0, v)]).run P w = .ok (.slice (some ⟨w.heap.size, 0, none⟩) 1 1) (w.alloc (.cells v.cells.toList.toArray e (0, 0))) :=
  run_buildSlice (w := w) (n := 1) (ps := [(0, v)]) (cs := v.cells.toList) ht hz hsz (by omega) (by omega) (by
    simp only [fillL, Nat.zero_mul, Nat.one_mul, Nat.zero_add, hv, Nat.beq_refl, Bool.true_and, List.length_map, List.length_range, List.take_zero, List.nil_append]
    rw [show Nat.ble sz sz = true from Nat.ble_eq_true_of_le (Nat.le_refl _)]
    simp only []
    rw [List.drop_of_length_le (by simp), List.append_nil])
theorem D_bs1 {x : Operand} {T e sz by_ : Nat} {z : List Value} {v : Value} (hx : OpV E x True v) (ht : elOf Γ.P T = some (e, sz, by_, z)) (hz : z.length = sz) (hsz : 0 < sz) (hns : sz ≤ 65536) (hv : v.cells.toList.length = sz)
    (hk : DV Γ ops Msh pool ((d, RowV v.cells.toList e) :: E) ((some d, RowV v.cells.toList e) :: rs) cs0 rest KD) :
    DV Γ ops Msh pool E rs cs0 ({ dst := some d, op := .buildSlice T 1 #[(0, x)], type := ty, pos := pos, after := af, guard := none } :: rest) KD := by
  refine DV.mk (RowV v.cells.toList e) [] pool [] (by simp) rfl ?_ (by rw [dropE_nil]; exact hk)
  intro a w F Mk _ _ hw hm hfa hcf
  have hMk : Mk = [] := hcf
  subst hMk
  rw [dropE_nil] at hfa
  simp only [List.nil_append] at hw ⊢
  rw [if_pos (by simp [Region.wanted])]
  have e1 := hx.eval hfa (by simp [Op.operands]) trivial
  have h1 : (execOp a.eval { dst := some d, op := .buildSlice T 1 #[(0, x)], type := ty, pos := pos, after := af, guard := none }).run Γ.P w = .ok (.value (.slice (some ⟨w.heap.size, 0, none⟩) 1 1)) (w.alloc (.cells v.cells.toList.toArray e (0, 0))) := by
    simp only [execOp]
    have : (#[(0, x)] : Array (Nat × Operand)).map (fun (i, x) => (i, a.eval x)) = #[(0, v)] := by simp [e1]
    rw [this]
    simp [run_bs1 ht hz hsz hns hv]
  rw [h1]
  exact ⟨[blk w.heap.size v.cells.toList e], ⟨_, rfl, rfl⟩, Holds.new (show Holds Γ.w0 Γ.S0 F w by simpa using hw) rfl⟩
section
variable {τ δ : Type} [GT τ δ]
def OwnV (r : List δ) : Rel := fun v M => ∃ X : TL τ, v = X.hdr ∧ GT.dat X = r ∧ M = [treeH X]
/-! A row whose elements are handed on -/
theorem RdC.row {X : TL τ} {j : Nat} {x : τ} (h : rowH X ∈ M) (hi : X.els[j]? = some x) : RdC Γ M X.g (X.o + j * GT.sz τ) (GT.cells x) := fun w hw k v hv => by
  obtain ⟨r1, r2, r3, r4⟩ := hw.prs _ h
  have hlt := (List.getElem?_eq_some_iff.1 hi).1
  have hk : k < GT.sz τ := by rw [← GT.len x]; exact (List.getElem?_eq_some_iff.1 hv).1
  cases ha : X.a with
  | none => have := (r3 ha).1; rw [this] at hlt; simp at hlt
  | some a =>
    obtain ⟨h1, h2, h3, h4⟩ := r4 a ha
    have hg : X.g = a.block := by unfold TL.g; rw [ha]; rfl
    have ho : X.o = 0 := by unfold TL.o; rw [ha]; exact h2
    rw [hg, ho, Nat.zero_add, cell_of_row _ _ _ _ _ _ h3]
    simp only [List.getElem?_toArray]
    have hc := rowCells_get X.els j k x hi hk
    rw [List.getElem?_append_left (by rw [hv] at hc; exact (List.getElem?_eq_some_iff.1 hc).1), hc]
    exact hv
theorem row_adr {X : TL τ} {j : Nat} {u : τ} (h : (rowH X).pr w) (hi : X.els[j]? = some u) : X.hdr = .slice (some ⟨X.g, X.o, none⟩) X.els.length X.cap := by
  obtain ⟨r1, r2, r3, r4⟩ := h
  have hlt := (List.getElem?_eq_some_iff.1 hi).1
  show Value.slice X.a X.els.length X.cap = _
  cases ha : X.a with
  | none => have := (r3 ha).1; rw [this] at hlt; simp at hlt
  | some a =>
    obtain ⟨h1, h2, h3, h4⟩ := r4 a ha
    obtain ⟨b, o, s⟩ := a
    have h1 : s = none := h1
    subst h1
    simp [TL.g, TL.o, ha]
/-- The next element leaves the pool. -/
theorem els_next {X : TL τ} {i : Nat} {u : τ} (hi : X.els[i]? = some u) (p : Pick (elsT (X.els.drop i)) M M1) (h : Holds w0 S0 M w) : Holds w0 S0 (treeH u :: elsT (X.els.drop (i + 1)) :: M1) w := by
  have h1 := h.perm p.perm
  obtain ⟨hlt, hx⟩ := List.getElem?_eq_some_iff.1 hi
  have he : X.els.drop i = u :: X.els.drop (i + 1) := by rw [← hx, ← List.drop_eq_getElem_cons hlt]
  rw [he] at h1
  refine h1.reFp (List.Perm.of_eq ?_) fun y hy => ?_
  · simp only [fps_cons]
    show (u :: X.els.drop (i + 1)).flatMap GT.fp ++ fps M1 = GT.fp u ++ ((X.els.drop (i + 1)).flatMap GT.fp ++ fps M1)
    rw [List.flatMap_cons, List.append_assoc]
  · have h2 := h1.prs (elsT (u :: X.els.drop (i + 1))) (List.mem_cons_self ..)
    rcases List.mem_cons.1 hy with rfl | hy
    · exact h2 u (List.mem_cons_self ..)
    rcases List.mem_cons.1 hy with rfl | hy
    · exact fun x hx => h2 x (List.mem_cons_of_mem _ hx)
    · exact h1.prs _ (List.mem_cons_of_mem _ hy)
theorem els_start {X : TL τ} (p : Pick (treeH X) M M1) (h : Holds w0 S0 M w) : Holds w0 S0 (rowH X :: elsT (X.els.drop 0) :: M1) w := tree_row (h.perm p.perm)
theorem els_step {X : TL τ} {i : Int} {u : τ} (hi : 0 ≤ i ∧ X.els[i.toNat]? = some u) (hm : rowH X ∈ M) (p : Pick (elsT (X.els.drop (i.toNat + 1))) M M1) (h : Holds w0 S0 M w) :
    Holds w0 S0 (elsT (X.els.drop (IntKind.wrap .i64 (i + 1)).toNat) :: M1) w := by
  have h1 := h.perm p.perm
  have hlt := (List.getElem?_eq_some_iff.1 hi.2).1
  obtain ⟨r1, r2, _⟩ := h.prs _ hm
  simp only [maxLen] at r2
  rw [wrap64_in (by unfold inR; omega), show (i + 1).toNat = i.toNat + 1 by omega]
  exact h1
end
end Go.Proofs.SL
namespace Go.Proofs.SL
open Go
variable {Γ : Cx} {l : Envl} {M M' M1 M2 F : List HP} {Q : Post} {K : Kont} {rest : List Oper}
section
variable {τ δ : Type} [GT τ δ]
theorem L_close {X : TL τ} {i : Nat} {cs : List Value} (x' : τ) {r : List δ} (hc : cs = GT.cells x') (p : Pick (holeH X i cs) M M1) (q : Pick (treeH x') M1 M2) (hr : some ((GT.dat X).set i (GT.dat x')) = some r)
    (hk : ∀ X2 : TL τ, GT.dat X2 = r → X2.hdr = X.hdr → L Γ rest l (treeH X2 :: M2) K) : L Γ rest l M K :=
  L_conv (fun w h => hole_close hc p q h) (hk _ (by rw [dat_set]; exact Option.some.inj hr) (by show Value.slice X.a (X.els.set i x').length X.cap = Value.slice X.a X.els.length X.cap; rw [List.length_set]))
end
end Go.Proofs.SL
namespace Go.Proofs.SL
open Go
variable {Γ : Cx} {rest : List Oper} {d : Nat} {ty : TypeId} {pos : String} {af : Array Edge} {gd : Option (Nat × Bool)}
variable {ops : Array Oper} {Msh pool : List HP} {E : Fl} {rs : List (Option Nat × Rel)} {cs0 : List Nat} {KD : List (Option Nat × Rel) → List Nat → List HP → Prop}
theorem D_idxH {τ δ : Type} [GT τ δ] {x y : Operand} {T e sz by_ j : Nat} {z cs : List Value} {k : IntKind} {i : Int} {X : TL τ} {u : τ} {c : Prop} (hg : GC ops E { dst := some d, op := .indexAddr T x y, type := ty, pos := pos, after := af, guard := gd } c)
    (hx : OpV E x c X.hdr) (hy : OpV E y c (.int k i)) (ht : elOf Γ.P T = some (e, sz, by_, z)) (hm : holeH X j cs ∈ Msh) (hi : c → 0 ≤ i ∧ X.els[i.toNat]? = some u)
    (hk : DV Γ ops Msh pool ((d, FC c (.pointer (some ⟨X.g, X.o + i.toNat * sz, none⟩))) :: E) ((some d, FC c (.pointer (some ⟨X.g, X.o + i.toNat * sz, none⟩))) :: rs) cs0 rest KD) :
    DV Γ ops Msh pool E rs cs0 ({ dst := some d, op := .indexAddr T x y, type := ty, pos := pos, after := af, guard := gd } :: rest) KD :=
  DV_pure c _ hg (fun a w F hc hf hs => by
    have e1 := hx.eval hf (by simp [Op.operands]) hc
    have e2 := hy.eval hf (by simp [Op.operands]) hc
    obtain ⟨h0, h1⟩ := hi hc
    obtain ⟨r1, r2, r3, r4, r5, r6, r7, r8⟩ := hs.prs _ hm
    have ho : X.o = 0 := by unfold TL.o; rw [r5]; rfl
    have h2 : X.hdr = .slice (some ⟨X.g, X.o, none⟩) X.els.length X.cap := by show Value.slice X.a X.els.length X.cap = _; rw [ho, ← r5]
    rw [h2] at e1
    simp [execOp, e1, e2, run_indexAt ht X.g X.o X.els.length X.cap k i i.toNat (by omega) (List.getElem?_eq_some_iff.1 h1).1 w]) hk
end Go.Proofs.SL
namespace Go.Proofs.SL
open Go
variable {Γ : Cx} {rest : List Oper} {d : Nat} {ty : TypeId} {pos : String} {af : Array Edge} {gd : Option (Nat × Bool)}
variable {ops : Array Oper} {Msh pool : List HP} {E : Fl} {rs : List (Option Nat × Rel)} {cs0 : List Nat} {KD : List (Option Nat × Rel) → List Nat → List HP → Prop}
theorem D_idxR {τ δ : Type} [GT τ δ] {x y : Operand} {T e sz by_ : Nat} {z : List Value} {k : IntKind} {i : Int} {X : TL τ} {u : τ} {c : Prop} (hg : GC ops E { dst := some d, op := .indexAddr T x y, type := ty, pos := pos, after := af, guard := gd } c)
    (hx : OpV E x c X.hdr) (hy : OpV E y c (.int k i)) (ht : elOf Γ.P T = some (e, sz, by_, z)) (hm : rowH X ∈ Msh) (hi : c → 0 ≤ i ∧ X.els[i.toNat]? = some u)
    (hk : DV Γ ops Msh pool ((d, FC c (.pointer (some ⟨X.g, X.o + i.toNat * sz, none⟩))) :: E) ((some d, FC c (.pointer (some ⟨X.g, X.o + i.toNat * sz, none⟩))) :: rs) cs0 rest KD) :
    DV Γ ops Msh pool E rs cs0 ({ dst := some d, op := .indexAddr T x y, type := ty, pos := pos, after := af, guard := gd } :: rest) KD :=
  DV_pure c _ hg (fun a w F hc hf hs => by
    have e1 := hx.eval hf (by simp [Op.operands]) hc
    have e2 := hy.eval hf (by simp [Op.operands]) hc
    obtain ⟨h0, h1⟩ := hi hc
    rw [row_adr (hs.prs _ hm) h1] at e1
    simp [execOp, e1, e2, run_indexAt ht X.g X.o X.els.length X.cap k i i.toNat (by omega) (List.getElem?_eq_some_iff.1 h1).1 w]) hk
end Go.Proofs.SL
namespace Go.Proofs.SL
open Go
section
variable {α β σ τ : Type}
theorem wrap_succ {k : Nat} (h : k < 9223372036854775807) : IntKind.wrap .i64 ((k : Int) + 1) = ((k + 1 : Nat) : Int) := by rw [wrap64_in (by unfold inR; omega)]; omega
theorem gb_true [Inhabited α] {o : Option α} {k : α → Option β} : gb true o k = o.bind k := rfl
theorem gb_false [Inhabited α] {o : Option α} {k : α → Option β} : gb false o k = k default := rfl
theorem gb_some [Inhabited α] {g : Bool} {a : α} {k : α → Option β} (h : g = false → k a = k default) : gb g (some a) k = k a := by
  cases g with
  | true => rfl
  | false => exact (h rfl).symm
/-- What a walk along a list does. -/
def goE (step : τ → β → τ ⊕ Option α) (fin : τ → Option α) : List β → τ → Option α
  | [], t => fin t
  | x :: xs, t => match step t x with
    | .inl t' => goE step fin xs t'
    | .inr r => r
theorem whileP_go {f : σ → Option (σ ⊕ α)} {l : List β} (mk : Nat → τ → σ) (step : τ → β → τ ⊕ Option α) (fin : τ → Option α) (I : Nat → τ → Prop)
    (hs : ∀ k t x, l[k]? = some x → I k t → (∃ t', step t x = .inl t' ∧ f (mk k t) = some (.inl (mk (k + 1) t')) ∧ I (k + 1) t') ∨ (∃ r, step t x = .inr r ∧ f (mk k t) = r.map .inr))
    (he : ∀ t, I l.length t → f (mk l.length t) = (fin t).map .inr) : ∀ (xs : List β) (k : Nat) (t : τ), l.drop k = xs → I k t → k ≤ l.length → whileP f (mk k t) = goE step fin xs t
  | [], k, t, hd, hi, hk => by
    have hlen : k = l.length := by
      have := congrArg List.length hd
      simp at this; omega
    subst hlen
    rw [whileP_eq, he t hi]
    show _ = fin t
    cases fin t <;> rfl
  | x :: xs, k, t, hd, hi, hk => by
    have hx : l[k]? = some x := by
      have := congrArg (fun q => q[0]?) hd
      simpa [List.getElem?_drop] using this
    have hlt := (List.getElem?_eq_some_iff.1 hx).1
    have hd' : l.drop (k + 1) = xs := by
      have := congrArg List.tail hd
      simpa [List.tail_drop] using this
    rw [whileP_eq]
    rcases hs k t x hx hi with ⟨t', h1, h2, h3⟩ | ⟨r, h1, h2⟩
    · rw [h2]
      show whileP f (mk (k + 1) t') = _
      rw [whileP_go mk step fin I hs he xs (k + 1) t' hd' h3 (by omega)]
      simp only [goE, h1]
    · rw [h2]
      simp only [goE, h1]
      cases r <;> rfl
theorem whileP_for {f : σ → Option (σ ⊕ α)} {l : List β} (mk : Nat → τ → σ) (step : τ → β → τ ⊕ Option α) (fin : τ → Option α) (I : Nat → τ → Prop) (t0 : τ) {s0 : σ} (h0 : mk 0 t0 = s0) (hI : I 0 t0)
    (hs : ∀ k t x, l[k]? = some x → I k t → (∃ t', step t x = .inl t' ∧ f (mk k t) = some (.inl (mk (k + 1) t')) ∧ I (k + 1) t') ∨ (∃ r, step t x = .inr r ∧ f (mk k t) = r.map .inr))
    (he : ∀ t, I l.length t → f (mk l.length t) = (fin t).map .inr) : whileP f s0 = goE step fin l t0 := by
  subst h0
  exact whileP_go mk step fin I hs he l 0 t0 rfl hI (Nat.zero_le _)
theorem goE_app (xs acc : List β) (g : List β → Option α) : goE (fun (t : List β) x => (.inl (t ++ [x]) : List β ⊕ Option α)) g xs acc = g (acc ++ xs) := by
  induction xs generalizing acc with
  | nil => simp [goE]
  | cons x xs ih => simp only [goE]; rw [ih]; simp
/-- A walk without early ends. -/
theorem goE_fold (h : τ → β → τ) (g : τ → Option α) : ∀ (xs : List β) (t : τ), goE (fun t x => (.inl (h t x) : τ ⊕ Option α)) g xs t = g (xs.foldl h t)
  | [], t => rfl
  | x :: xs, t => by simp only [goE, List.foldl_cons]; exact goE_fold h g xs (h t x)
theorem appP_ok {δ : Type} {a b : List δ} (h : a.length + b.length ≤ 4294967296) : appP a b = some (a ++ b) := if_pos h
theorem catP_ok {a b : ByteArray} (h : a.size + b.size ≤ 9223372036854775807) : catP a b = some (a ++ b) := if_pos h
theorem lt_dec {k n : Nat} (h : k < n) : decide ((k : Int) < (n : Int)) = true := decide_eq_true (by omega)
theorem ge_dec {n : Nat} : decide ((n : Int) < (n : Int)) = false := decide_eq_false (by omega)
/-- A check of all places. -/
theorem whileP_all {f : Int → Option (Int ⊕ α)} {n : Nat} (b : Nat → Bool) (no yes : Option α)
    (h : ∀ k, k < n → f (k : Int) = if b k then some (.inl ((k + 1 : Nat) : Int)) else no.map .inr) (hn : f (n : Int) = yes.map .inr) : whileP f 0 = if (List.range n).all b then yes else no := by
  have key : ∀ m k, n - k = m → k ≤ n → whileP f (k : Int) = if (List.range' k (n - k)).all b then yes else no := by
    intro m
    induction m with
    | zero =>
      intro k hm hk
      have : k = n := by omega
      subst this
      rw [whileP_eq, hn, Nat.sub_self]
      cases yes <;> rfl
    | succ m ih =>
      intro k hm hk
      rw [whileP_eq, h k (by omega), show n - k = (n - (k + 1)) + 1 by omega, List.range'_succ, List.all_cons]
      cases hb : b k with
      | true =>
        simp only [if_true, Bool.true_and]
        exact ih (k + 1) (by omega) (by omega)
      | false =>
        simp only [Bool.false_and, Bool.false_eq_true, if_false]
        cases no <;> rfl
  have := key n 0 (by omega) (by omega)
  rw [Nat.sub_zero, ← List.range_eq_range'] at this
  exact this
/-- A search for the first that passes: what the loop yields where one does, or at the end. -/
theorem whileP_find {γ : Type} {f : Int → Option (Int ⊕ γ)} {l : List β} (p : β → Bool) (q : Int → Option γ) (hl : l.length ≤ 9223372036854775807)
    (hs : ∀ (k : Nat) x, l[k]? = some x → f (k : Int) = if p x then (q k).map .inr else some (.inl (IntKind.wrap .i64 ((k : Int) + 1)))) (he : f (l.length : Int) = (q (-1)).map .inr) : whileP f 0 = q (firstI p l) := by
  have key : ∀ (xs : List β) (k : Nat), l.drop k = xs → k ≤ l.length → (∀ j x, j < k → l[j]? = some x → p x = false) → whileP f (k : Int) = q (firstI p l) := by
    intro xs
    induction xs with
    | nil =>
      intro k hd hk hf
      have hlen : k = l.length := by have := congrArg List.length hd; simp at this; omega
      subst hlen
      rw [whileP_eq, he, firstI_miss (fun x hx => by
        obtain ⟨j, hj⟩ := List.getElem?_of_mem hx
        exact hf j x (List.getElem?_eq_some_iff.1 hj).1 hj)]
      cases q (-1) <;> rfl
    | cons x xs ih =>
      intro k hd hk hf
      have hx : l[k]? = some x := by
        have := congrArg (fun q => q[0]?) hd
        simpa [List.getElem?_drop] using this
      have hlt := (List.getElem?_eq_some_iff.1 hx).1
      rw [whileP_eq, hs k x hx]
      cases hp : p x with
      | true =>
        rw [firstI_hit (fun y hy => by
          obtain ⟨j, hj⟩ := List.getElem?_of_mem hy
          have hjl := (List.getElem?_eq_some_iff.1 hj).1
          rw [List.length_take] at hjl
          rw [List.getElem?_take_of_lt (by omega)] at hj
          exact hf j y (by omega) hj) hx hp]
        simp only [if_true]
        cases q (k : Int) <;> rfl
      | false =>
        simp only [Bool.false_eq_true, if_false]
        rw [wrap_succ (by omega)]
        refine ih (k + 1) ?_ (by omega) (fun j y hj hy => ?_)
        · have := congrArg List.tail hd
          simpa [List.tail_drop] using this
        · rcases Nat.lt_or_ge j k with h1 | h1
          · exact hf j y h1 hy
          · have : j = k := by omega
            subst this
            rw [hx] at hy; cases hy; exact hp
  exact key l 0 rfl (Nat.zero_le _) (fun j x hj => absurd hj (Nat.not_lt_zero _))
theorem all_range_get {l : List β} {p : β → Bool} : (List.range l.length).all (fun k => (l[k]?).all p) = l.all p := by
  rw [Bool.eq_iff_iff, List.all_eq_true, List.all_eq_true]
  constructor
  · intro h x hx
    obtain ⟨i, hi⟩ := List.getElem?_of_mem hx
    have := h i (List.mem_range.2 (List.getElem?_eq_some_iff.1 hi).1)
    rw [hi] at this; exact this
  · intro h k hk
    have hk := List.mem_range.1 hk
    rw [List.getElem?_eq_getElem hk]
    exact h _ (List.getElem_mem hk)
end
end Go.Proofs.SL
namespace Go.Proofs.SL
open Go
variable {Γ : Cx} {l : Envl} {M M' M1 M2 F : List HP} {Q : Post} {K : Kont} {w0 w : World} {S0 : List Nat} {P : Program}
variable {rest : List Oper} {d : Nat} {ty : TypeId} {pos : String} {af : Array Edge}
variable {ops : Array Oper} {Msh pool : List HP} {E : Fl} {rs : List (Option Nat × Rel)} {cs0 : List Nat} {KD : List (Option Nat × Rel) → List Nat → List HP → Prop} {gd : Option (Nat × Bool)}
section
variable {τ δ : Type} [GT τ δ]
theorem els_sub {xs ys zs : List τ} (hp : List.Perm xs (ys ++ zs)) (p : Pick (elsT xs) M M1) (h : Holds w0 S0 M w) : Holds w0 S0 (elsT ys :: M1) w := by
  have h1 := h.perm p.perm
  have h2 : Holds w0 S0 (elsT ys :: elsT zs :: M1) w := by
    refine h1.reFp ?_ fun x hx => ?_
    · simp only [fps_cons]
      show List.Perm (xs.flatMap GT.fp ++ fps M1) (ys.flatMap GT.fp ++ (zs.flatMap GT.fp ++ fps M1))
      rw [← List.append_assoc, ← List.flatMap_append]
      exact (hp.flatMap_right _).append_right _
    · have h3 := h1.prs (elsT xs) (List.mem_cons_self ..)
      rcases List.mem_cons.1 hx with rfl | hx
      · exact fun y hy => h3 y (hp.mem_iff.2 (List.mem_append_left _ hy))
      rcases List.mem_cons.1 hx with rfl | hx
      · exact fun y hy => h3 y (hp.mem_iff.2 (List.mem_append_right _ hy))
      · exact h1.prs _ (List.mem_cons_of_mem _ hx)
  exact h2.sub ⟨[elsT zs], (List.perm_append_comm (l₁ := [elsT zs]) (l₂ := M1)).cons _⟩
theorem raw_facts {X : TL τ} (h : GT.ow w X) (hx : X.els ≠ []) : X.a = some ⟨X.g, 0, none⟩ ∧ X.els.length ≤ X.cap ∧ X.cap ≤ maxLen ∧ X.els.length * GT.sz τ + X.tail.length = X.cap * GT.sz τ ∧ w.heap[X.g]? = some (.cells (rowCells X.els ++ X.tail).toArray X.e (0, 0)) := by
  obtain ⟨r1, r2, r3, r4, r5⟩ := h
  cases ha : X.a with
  | none => exact (hx (r4 ha).1).elim
  | some a =>
    obtain ⟨h1, h2, h3, h4⟩ := r5 a ha
    have hg : X.g = a.block := by unfold TL.g; rw [ha]; rfl
    obtain ⟨b, o, s⟩ := a
    have h1 : s = none := h1
    have h2 : o = 0 := h2
    subst h1; subst h2
    refine ⟨by rw [hg], r1, r2, h4, by rw [hg]; exact h3⟩
theorem raw_open {X : TL τ} (hx : X.els ≠ []) (p : Pick (treeH X) M M1) (h : Holds w0 S0 M w) : Holds w0 S0 (blk X.g (rowCells X.els ++ X.tail) X.e :: elsT X.els :: M1) w := by
  have h1 := h.perm p.perm
  have ht : GT.ow w X := h1.prs _ (List.mem_cons_self ..)
  obtain ⟨f1, _, _, _, f5⟩ := raw_facts ht hx
  refine h1.reFp (List.Perm.of_eq ?_) fun x hx => ?_
  · simp only [fps_cons]
    show ((match X.a with | none => [] | some a => [a.block]) ++ X.els.flatMap GT.fp) ++ fps M1 = [X.g] ++ (X.els.flatMap GT.fp ++ fps M1)
    rw [f1, List.append_assoc]
  · rcases List.mem_cons.1 hx with rfl | hx
    · exact f5
    rcases List.mem_cons.1 hx with rfl | hx
    · exact ht.2.2.1
    · exact h1.prs _ (List.mem_cons_of_mem _ hx)
theorem W_raw {c : Code} {X : TL τ} (hx : X.els ≠ []) (p : Pick (treeH X) M M1)
    (hk : X.a = some ⟨X.g, 0, none⟩ → X.els.length ≤ X.cap → X.cap ≤ maxLen → X.els.length * GT.sz τ + X.tail.length = X.cap * GT.sz τ → W Γ c l (blk X.g (rowCells X.els ++ X.tail) X.e :: elsT X.els :: M1) Q) : W Γ c l M Q :=
  W_fact (φ := X.a = some ⟨X.g, 0, none⟩ ∧ X.els.length ≤ X.cap ∧ X.cap ≤ maxLen ∧ X.els.length * GT.sz τ + X.tail.length = X.cap * GT.sz τ)
    (fun w h => by obtain ⟨f1, f2, f3, f4, _⟩ := raw_facts ((h.perm p.perm).prs (treeH X) (List.mem_cons_self ..)) hx; exact ⟨f1, f2, f3, f4⟩)
    (fun ⟨f1, f2, f3, f4⟩ => W_conv (fun w h => raw_open hx p h) (hk f1 f2 f3 f4))
theorem raw_close {g cap : Nat} {e : TypeId} {els : List τ} {tail cs : List Value} (hc : cs = rowCells els ++ tail) (h1 : els.length ≤ cap) (h2 : cap ≤ maxLen) (h3 : els.length * GT.sz τ + tail.length = cap * GT.sz τ)
    (p : Pick (blk g cs e) M M1) (q : Pick (elsT els) M1 M2) (h : Holds w0 S0 M w) : Holds w0 S0 (treeH (⟨some ⟨g, 0, none⟩, cap, e, els, tail⟩ : TL τ) :: M2) w := by
  subst hc
  have h4 := h.perm (p.perm.trans (q.perm.cons _))
  refine h4.reFp (List.Perm.of_eq ?_) fun x hx => ?_
  · simp only [fps_cons]
    show [g] ++ (els.flatMap GT.fp ++ fps M2) = ([g] ++ els.flatMap GT.fp) ++ fps M2
    rw [List.append_assoc]
  · rcases List.mem_cons.1 hx with rfl | hx
    · refine ⟨h1, h2, h4.prs (elsT els) (List.mem_cons_of_mem _ (List.mem_cons_self ..)), fun h => (by cases h), fun a ha => ?_⟩
      cases ha
      exact ⟨rfl, rfl, h4.prs (blk g _ e) (List.mem_cons_self ..), h3⟩
    · exact h4.prs _ (List.mem_cons_of_mem _ (List.mem_cons_of_mem _ hx))
end
/-! Headers -/
def slA (o c lo sz : Nat) : Nat := if c = lo then o else o + lo * sz
theorem run_slV {T e sz by_ : Nat} {z : List Value} {g o n c : Nat} {vlo vhi : Option Value} {a b : Int} (ht : elOf P T = some (e, sz, by_, z)) (hlo : (vlo = none ∧ a = 0) ∨ ∃ k, vlo = some (.int k a)) (hhi : (vhi = none ∧ b = (n : Int)) ∨ ∃ k, vhi = some (.int k b))
    (h0 : 0 ≤ a) (h1 : a ≤ b) (h2 : b ≤ (c : Int)) (w : World) : (Instr.sliceAt T (.slice (some ⟨g, o, none⟩) n c) vlo vhi none).run P w = .ok (.slice (some ⟨g, slA o c a.toNat sz, none⟩) (b.toNat - a.toNat) (c - a.toNat)) w := by
  unfold elOf at ht
  split at ht <;> (try cases ht)
  rename_i e' het
  split at ht <;> (try cases ht)
  rename_i i' hi'
  split at ht <;> cases ht
  have e1 := fun k w => run_sliceBound (P := P) (k := k) (code := .sliceAcap) (show 0 ≤ b by omega) (show b ≤ ((c : Nat) : Int) by omega) w
  have e2 := fun k w => run_sliceBound (P := P) (k := k) (code := .sliceB) h0 (show a ≤ ((b.toNat : Nat) : Int) by omega) w
  have hv : (if c = a.toNat then (⟨g, o, none⟩ : Addr) else (⟨g, o, none⟩ : Addr).add (a.toNat * i'.size)) = ⟨g, slA o c a.toNat i'.size, none⟩ := by
    unfold slA; split
    · rfl
    · rw [addr_add]
  rw [← hv]
  rcases hlo with ⟨rfl, rfl⟩ | ⟨k1, rfl⟩ <;> rcases hhi with ⟨rfl, rfl⟩ | ⟨k2, rfl⟩
  · simp [Instr.sliceAt, Instr.slice, underlying, het, Instr.sliceBounds, sizeOf, typeInfo, hi']
    split <;> rfl
  · simp [Instr.sliceAt, Instr.slice, underlying, het, Instr.sliceBounds, sizeOf, typeInfo, hi', e1]
    split <;> rfl
  · have e3 := fun k w => run_sliceBound (P := P) (k := k) (code := .sliceB) h0 (show a ≤ ((n : Nat) : Int) by omega) w
    simp [Instr.sliceAt, Instr.slice, underlying, het, Instr.sliceBounds, sizeOf, typeInfo, hi', e3]
    split <;> rfl
  · simp [Instr.sliceAt, Instr.slice, underlying, het, Instr.sliceBounds, sizeOf, typeInfo, hi', e1, e2]
    split <;> rfl
theorem L_slV {x : Operand} {lo hi : Option Operand} {T e sz by_ : Nat} {z : List Value} {g o n c : Nat} {a b : Int} (hn : Nat.blt d Γ.n = true) (hx : ev l x = some (.slice (some ⟨g, o, none⟩) n c)) (hlo : optI l lo 0 = some a) (hhi : optI l hi (n : Int) = some b)
    (ht : elOf Γ.P T = some (e, sz, by_, z)) (h0 : 0 ≤ a) (h1 : a ≤ b) (h2 : b ≤ (c : Int)) (hk : L Γ rest ((d, .slice (some ⟨g, slA o c a.toNat sz, none⟩) (b.toNat - a.toNat) (c - a.toNat)) :: l) M K) :
    L Γ ({ dst := some d, op := .slice T x lo hi none, type := ty, pos := pos, after := af, guard := none } :: rest) l M K :=
  L_pure hn (fun a' w ha hw => by
    have h3 := run_slV (P := Γ.P) (T := T) (g := g) (o := o) (n := n) (c := c) (vlo := lo.map a'.eval) (vhi := hi.map a'.eval) (a := a) (b := b) ht (by
      cases lo with
      | none => cases hlo; exact .inl ⟨rfl, rfl⟩
      | some q => obtain ⟨k, h⟩ := optI_some hlo; exact .inr ⟨k, by simp [ha.eval h]⟩) (by
      cases hi with
      | none => cases hhi; exact .inl ⟨rfl, rfl⟩
      | some q => obtain ⟨k, h⟩ := optI_some hhi; exact .inr ⟨k, by simp [ha.eval h]⟩) h0 h1 h2 w
    simp [execOp, ha.eval hx, h3]) hk
theorem D_slV {x : Operand} {lo hi : Option Operand} {T e sz by_ : Nat} {z : List Value} {g o n c : Nat} {a b : Int} {cc : Prop} (hg : GC ops E { dst := some d, op := .slice T x lo hi none, type := ty, pos := pos, after := af, guard := gd } cc)
    (hx : OpV E x cc (.slice (some ⟨g, o, none⟩) n c)) (hlo : optD E lo cc 0 a) (hhi : optD E hi cc (n : Int) b) (ht : elOf Γ.P T = some (e, sz, by_, z)) (h0 : 0 ≤ a) (h1 : a ≤ b) (h2 : b ≤ (c : Int))
    (hk : DV Γ ops Msh pool ((d, FC cc (.slice (some ⟨g, slA o c a.toNat sz, none⟩) (b.toNat - a.toNat) (c - a.toNat))) :: E) ((some d, FC cc (.slice (some ⟨g, slA o c a.toNat sz, none⟩) (b.toNat - a.toNat) (c - a.toNat))) :: rs) cs0 rest KD) :
    DV Γ ops Msh pool E rs cs0 ({ dst := some d, op := .slice T x lo hi none, type := ty, pos := pos, after := af, guard := gd } :: rest) KD :=
  DV_pure cc _ hg (fun a' w F hc hf hs => by
    have e0 := hx.eval hf (by simp [Op.operands]) hc
    have h3 := run_slV (P := Γ.P) (T := T) (g := g) (o := o) (n := n) (c := c) (vlo := lo.map a'.eval) (vhi := hi.map a'.eval) (a := a) (b := b) ht (by
      cases lo with
      | none => cases hlo; exact .inl ⟨rfl, rfl⟩
      | some q => obtain ⟨k, h⟩ := hlo; exact .inr ⟨k, by simp [OpV.eval h hf (by simp [Op.operands]) hc]⟩) (by
      cases hi with
      | none => cases hhi; exact .inl ⟨rfl, rfl⟩
      | some q => obtain ⟨k, h⟩ := hhi; exact .inr ⟨k, by simp [OpV.eval h hf (by simp [Op.operands]) hc]⟩) h0 h1 h2 w
    simp [execOp, e0, h3]) hk
/-- A slice with three bounds, of which only the check counts. -/
theorem L_sl3 {x lo hi mx : Operand} {T e sz by_ : Nat} {z : List Value} {g o n c : Nat} {a b m : Int} {k1 k2 k3 : IntKind} (hn : Nat.blt d Γ.n = true) (hx : ev l x = some (.slice (some ⟨g, o, none⟩) n c)) (hlo : ev l lo = some (.int k1 a)) (hhi : ev l hi = some (.int k2 b)) (hmx : ev l mx = some (.int k3 m))
    (ht : elOf Γ.P T = some (e, sz, by_, z)) (h0 : 0 ≤ a) (h1 : a ≤ b) (h2 : b ≤ m) (h3 : m ≤ (c : Int)) (hk : ∀ v, L Γ rest ((d, v) :: l) M K) :
    L Γ ({ dst := some d, op := .slice T x (some lo) (some hi) (some mx), type := ty, pos := pos, after := af, guard := none } :: rest) l M K := by
  unfold elOf at ht
  split at ht <;> (try cases ht)
  rename_i e' het
  split at ht <;> (try cases ht)
  rename_i i' hi'
  split at ht <;> cases ht
  refine L_pure hn (v := .slice (if m.toNat = a.toNat then some ⟨g, o, none⟩ else some ((⟨g, o, none⟩ : Addr).add (a.toNat * i'.size))) (b.toNat - a.toNat) (m.toNat - a.toNat)) (fun a' w ha hw => ?_) (hk _)
  have e1 := fun w => run_sliceBound (P := Γ.P) (k := k3) (code := .slice3Acap) (show 0 ≤ m by omega) (show m ≤ ((c : Nat) : Int) by omega) w
  have e2 := fun w => run_sliceBound (P := Γ.P) (k := k2) (code := .slice3B) (show 0 ≤ b by omega) (show b ≤ ((m.toNat : Nat) : Int) by omega) w
  have e3 := fun w => run_sliceBound (P := Γ.P) (k := k1) (code := .slice3C) h0 (show a ≤ ((b.toNat : Nat) : Int) by omega) w
  simp [execOp, ha.eval hx, ha.eval hlo, ha.eval hhi, ha.eval hmx, Instr.sliceAt, Instr.slice, underlying, het, Instr.sliceBounds, sizeOf, typeInfo, hi', e1, e2, e3]
/-! Cells -/
theorem cells_at {b : Nat} {cs : List Value} {T : TypeId} (hp : w.heap[b]? = some (.cells cs.toArray T (0, 0))) (o n : Nat) : ∀ j v, ((cs.drop o).take n)[j]? = some v → w.cell? ⟨b, o + j, none⟩ = some v := fun j v hv => by
  rw [cell_of_row _ _ _ _ _ _ hp]
  simp only [List.getElem?_toArray]
  rw [List.getElem?_take] at hv
  split at hv
  · rw [List.getElem?_drop] at hv; exact hv
  · cases hv
/-- append in place, out of the same block. -/
theorem L_appRaw {s x : Operand} {T e sz by_ g n m c c2 o : Nat} {z cs : List Value} {e2 : TypeId} (hn : Nat.blt d Γ.n = true) (hs : ev l s = some (.slice (some ⟨g, 0, none⟩) n c)) (hx : ev l x = some (.slice (some ⟨g, o, none⟩) m c2))
    (ht : elOf Γ.P T = some (e, sz, by_, z)) (hp : Pick (blk g cs e2) M M1) (hroom : n + m ≤ c) (h1 : o + m * sz ≤ cs.length) (h2 : n * sz + m * sz ≤ cs.length) (hone : ∀ u, u ∈ (cs.drop o).take (m * sz) → u.oneCell' = true)
    (hk : L Γ rest ((d, .slice (some ⟨g, 0, none⟩) (n + m) c) :: l) (blk g (cs.take (n * sz) ++ (cs.drop o).take (m * sz) ++ cs.drop (n * sz + m * sz)) e2 :: M1) K) :
    L Γ ({ dst := some d, op := .call { callee := .builtin .append, args := #[s, x], argTypes := #[T, T] }, type := ty, pos, after := af, guard := none } :: rest) l M K := by
  refine L_step rfl rfl (Nat.le_of_ble_eq_true hn) (fun a w ha hw => ?_) hk
  unfold elOf at ht
  split at ht <;> (try cases ht)
  rename_i e' het
  split at ht <;> (try cases ht)
  rename_i i' hi'
  split at ht <;> cases ht
  have hw1 := hw.perm hp.perm
  have hh : w.heap[g]? = some (.cells cs.toArray e2 (0, 0)) := hw1.prs (blk g cs e2) (List.mem_cons_self ..)
  have hl : ((cs.drop o).take (m * i'.size)).length = m * i'.size := by rw [List.length_take, List.length_drop]; omega
  have hr := run_append_roomE (P := Γ.P) w T ty e e2 i' het hi' g n c cs.toArray hh ⟨g, o, none⟩ m c2 ((cs.drop o).take (m * i'.size)) hl
    (fun j u hu => by rw [addr_add]; exact cells_at hh o (m * i'.size) j u hu) hone hroom (by rw [hl]; simpa using h2)
  rw [hl] at hr
  exact ⟨_, by simp [execOp, resolve, invoke, builtin, ha.eval hs, ha.eval hx, hr], setRow_blk hw1⟩
theorem flatten_rep (z : List Value) (n : Nat) : ((Array.range (n * z.length)).map (fun i => (z.toArray)[i % z.length]!)).toList = (List.replicate n z).flatten := by
  refine List.ext_getElem? fun i => ?_
  by_cases hz : z.length = 0
  · have : z = [] := List.eq_nil_of_length_eq_zero hz
    subst this; simp
  · have hpos : 0 < z.length := by omega
    by_cases hi : i < n * z.length
    · have h1 : i / z.length < n := Nat.div_lt_of_lt_mul (by rw [Nat.mul_comm]; exact hi)
      have h2 : i % z.length < z.length := Nat.mod_lt _ hpos
      simp only [Array.toList_map, Array.toList_range, List.getElem?_map, List.getElem?_range hi, Option.map_some]
      have key : ∀ (n i : Nat), i < n * z.length → ((List.replicate n z).flatten)[i]? = z[i % z.length]? := by
        intro n
        induction n with
        | zero => intro i h; simp at h
        | succ n ih =>
          intro i h
          rw [List.replicate_succ, List.flatten_cons]
          by_cases hlt : i < z.length
          · rw [List.getElem?_append_left hlt, Nat.mod_eq_of_lt hlt]
          · rw [List.getElem?_append_right (by omega), ih (i - z.length) (by rw [Nat.add_mul] at h; omega)]
            rw [← Nat.mod_eq_sub_mod (by omega)]
      rw [key n i hi, getElem!_pos z.toArray (i % z.length) (by simpa using h2)]
      simp [h2]
    · rw [List.getElem?_eq_none (by simpa using hi), List.getElem?_eq_none (by simp; omega)]
/-- An operation whose value is not kept. -/
theorem L_val0 {o : Oper} {v : Value} (hg : o.guard = none) (hd : o.dst = none)
    (he : ∀ a w, Env a Γ.n l → Holds Γ.w0 Γ.S0 M w → ∃ w', (execOp a.eval o).run Γ.P w = .ok (.value v) w' ∧ Holds Γ.w0 Γ.S0 M' w')
    (hk : L Γ rest l M' K) : L Γ (o :: rest) l M K := fun ops a w Q ha hw hq =>
  wpList_plain hg fun K' hK' => by
    obtain ⟨w', h1, h2⟩ := he a w ha hw
    unfold Oper.wp
    rw [h1, Oper.upon_value, hd]
    exact hK' _ _ (hk ops _ w' Q (by simpa [Act.put] using ha) h2 hq)
theorem run_clr {T e sz by_ g o n c : Nat} {z cs : List Value} {e2 : TypeId} (ht : elOf P T = some (e, sz, by_, z)) (hz : z.length = sz) (hone : ∀ u, u ∈ z → u.oneCell' = true)
    (hh : w.heap[g]? = some (.cells cs.toArray e2 (0, 0))) (h1 : o + n * sz ≤ cs.length) (hn : n ≠ 0) (ty : TypeId) :
    (Builtin.clear_ #[T] ty #[.slice (some ⟨g, o, none⟩) n c]).run P w = .ok (.tuple #[]) (w.setRow g (cs.take o ++ (List.replicate n z).flatten ++ cs.drop (o + n * sz)).toArray) := by
  unfold elOf at ht
  split at ht <;> (try cases ht)
  rename_i e' het
  split at ht <;> (try cases ht)
  rename_i i' hi'
  split at ht <;> cases ht
  rename_i z' hz'
  have hfl : ((List.replicate n z'.cells.toList).flatten).length = n * i'.size := by simp [hz]
  have hs := run_store_blk (P := P) (fo := o) (vs := (List.replicate n z'.cells.toList).flatten) (ty := 0) hh (by rw [hfl]; exact h1) (fun u hu => by
    obtain ⟨q, hq, hu⟩ := List.mem_flatten.1 hu
    rw [List.eq_of_mem_replicate hq] at hu
    exact hone u hu)
  rw [hfl] at hs
  have hzc : (Builtin.zeroCells z'.cells n).toList = (List.replicate n z'.cells.toList).flatten := flatten_rep z'.cells.toList n
  obtain ⟨k, rfl⟩ := Nat.exists_eq_succ_of_ne_zero hn
  simp only [Builtin.clear_]
  simp [underlying, het, zeroValue, typeInfo, hi', hz', hzc, hs]
/-- clear. -/
theorem L_clrRaw {x : Operand} {T e sz by_ g o n c : Nat} {z cs : List Value} {e2 : TypeId} (hx : ev l x = some (.slice (some ⟨g, o, none⟩) n c)) (ht : elOf Γ.P T = some (e, sz, by_, z)) (hz : z.length = sz) (hone : ∀ u, u ∈ z → u.oneCell' = true)
    (hp : Pick (blk g cs e2) M M1) (h1 : o + n * sz ≤ cs.length) (hn : n ≠ 0)
    (hk : L Γ rest l (blk g (cs.take o ++ (List.replicate n z).flatten ++ cs.drop (o + n * sz)) e2 :: M1) K) :
    L Γ ({ dst := none, op := .call { callee := .builtin .clear, args := #[x], argTypes := #[T] }, type := ty, pos, after := af, guard := none } :: rest) l M K :=
  L_val0 (v := .tuple #[]) rfl rfl (fun a w ha hw => by
    have hw1 := hw.perm hp.perm
    have hh : w.heap[g]? = some (.cells cs.toArray e2 (0, 0)) := hw1.prs (blk g cs e2) (List.mem_cons_self ..)
    have hr := run_clr (P := Γ.P) (c := c) ht hz hone hh h1 hn ty
    exact ⟨_, by simp [execOp, resolve, invoke, builtin, ha.eval hx, hr], setRow_blk hw1⟩) hk
/-! slices.Delete -/
def delP {δ : Type} (xs : List δ) (i j : Int) : Option (List δ) := if 0 ≤ i ∧ i < j ∧ j ≤ xs.length then some (xs.take i.toNat ++ xs.drop j.toNat) else none
section
variable {τ δ : Type} [GT τ δ]
theorem perm_del (xs : List τ) (i j : Nat) (h : i ≤ j) : List.Perm xs ((xs.take i ++ xs.drop j) ++ (xs.drop i).take (j - i)) := by
  have h1 : xs = xs.take i ++ ((xs.drop i).take (j - i) ++ xs.drop j) := by
    have h2 : (xs.drop i).drop (j - i) = xs.drop j := by rw [List.drop_drop]; congr 1; omega
    rw [← h2, List.take_append_drop, List.take_append_drop]
  conv => lhs; rw [h1]
  rw [List.append_assoc]
  exact (List.perm_append_comm).append_left _
theorem sl0 (c sz : Nat) : slA 0 c 0 sz = 0 := by unfold slA; split <;> simp
theorem slLt {c lo sz : Nat} (h : lo < c) : slA 0 c lo sz = lo * sz := by unfold slA; rw [if_neg (by omega)]; simp
theorem seg_drop {X : TL τ} {j sz : Nat} (hsz : GT.sz τ = sz) (hj : j ≤ X.els.length) (hc : X.els.length ≤ X.cap) : ((rowCells X.els ++ X.tail).drop (slA 0 X.cap j sz)).take ((X.els.length - j) * sz) = rowCells (X.els.drop j) := by
  subst hsz
  rcases Nat.lt_or_ge j X.cap with h | h
  · rw [slLt h]
    have h1 : rowCells X.els = rowCells (X.els.take j) ++ rowCells (X.els.drop j) := by rw [← rowCells_append, List.take_append_drop]
    have h2 : (rowCells (X.els.take j)).length = j * GT.sz τ := by rw [length_rowCells, List.length_take, Nat.min_eq_left hj]
    have h3 : (rowCells (X.els.drop j)).length = (X.els.length - j) * GT.sz τ := by rw [length_rowCells, List.length_drop]
    rw [h1, List.append_assoc, ← h2, List.drop_left, ← h3, List.take_left]
  · have : X.els.length - j = 0 := by omega
    rw [this, Nat.zero_mul, List.take_zero, List.drop_of_length_le (by omega)]; rfl
theorem del_cells {xs : List τ} {t : List Value} {i j n sz : Nat} (z : List Value) (hsz : GT.sz τ = sz) (hn : n = xs.length) (hij : i < j) (hj : j ≤ n) (cs : List Value) (hcs : cs = (rowCells xs ++ t).take (i * sz) ++ rowCells (xs.drop j) ++ (rowCells xs ++ t).drop (i * sz + (n - j) * sz)) :
    cs.take ((i + (n - j)) * sz) ++ z ++ cs.drop ((i + (n - j)) * sz + (n - (i + (n - j))) * sz) = rowCells (xs.take i ++ xs.drop j) ++ (z ++ t) := by
  subst hsz; subst hn; subst hcs
  have h1 : (rowCells xs ++ t).take (i * GT.sz τ) = rowCells (xs.take i) := by
    have h1 : rowCells xs = rowCells (xs.take i) ++ rowCells (xs.drop i) := by rw [← rowCells_append, List.take_append_drop]
    have h2 : (rowCells (xs.take i)).length = i * GT.sz τ := by rw [length_rowCells, List.length_take, Nat.min_eq_left (by omega)]
    rw [h1, List.append_assoc, ← h2, List.take_left]
  have h2 : (rowCells (xs.take i) ++ rowCells (xs.drop j)).length = (i + (xs.length - j)) * GT.sz τ := by
    rw [← rowCells_append, length_rowCells, List.length_append, List.length_take, List.length_drop, Nat.min_eq_left (by omega)]
  rw [h1, ← h2, List.take_left, rowCells_append]
  have h3 : (xs.length - (i + (xs.length - j))) * GT.sz τ + (i * GT.sz τ + (xs.length - j) * GT.sz τ) = xs.length * GT.sz τ := by
    rw [← Nat.add_mul, ← Nat.add_mul]; congr 1; omega
  rw [List.drop_append, List.drop_of_length_le (Nat.le_add_right _ _), List.nil_append, Nat.add_sub_cancel_left, List.drop_drop]
  rw [show i * GT.sz τ + (xs.length - j) * GT.sz τ + (xs.length - (i + (xs.length - j))) * GT.sz τ = xs.length * GT.sz τ by omega]
  have h4 : (rowCells xs).length = xs.length * GT.sz τ := length_rowCells _
  rw [← h4, List.drop_left]
  simp only [List.append_assoc]
theorem row_take (xs : List τ) (i : Nat) (t : List Value) (hi : i ≤ xs.length) : (rowCells xs ++ t).take (i * GT.sz τ) = rowCells (xs.take i) := by
  have h1 : rowCells xs = rowCells (xs.take i) ++ rowCells (xs.drop i) := by rw [← rowCells_append, List.take_append_drop]
  have h2 : (rowCells (xs.take i)).length = i * GT.sz τ := by rw [length_rowCells, List.length_take, Nat.min_eq_left hi]
  rw [h1, List.append_assoc, ← h2, List.take_left]
theorem row_drop (xs : List τ) (i : Nat) (t : List Value) (hi : i ≤ xs.length) : (rowCells xs ++ t).drop (i * GT.sz τ) = rowCells (xs.drop i) ++ t := by
  have h1 : rowCells xs = rowCells (xs.take i) ++ rowCells (xs.drop i) := by rw [← rowCells_append, List.take_append_drop]
  have h2 : (rowCells (xs.take i)).length = i * GT.sz τ := by rw [length_rowCells, List.length_take, Nat.min_eq_left hi]
  rw [h1, List.append_assoc, ← h2, List.drop_left]
end
end Go.Proofs.SL
namespace Go.Proofs.SL
open Go
theorem RdT.w0 {Γ : Cx} {τ δ : Type} [GT τ δ] {t : τ} (h : RdT Γ [] t) : GT.rd Γ.w0 [] t := h Γ.w0 ⟨fun _ _ _ => rfl, fun _ h => by cases h⟩
end Go.Proofs.SL
namespace Go.Proofs.SL
open Go
variable {Γ : Cx} {l : Envl} {M M' M1 M2 F : List HP} {Q : Post} {K : Kont} {w0 w : World} {S0 : List Nat} {P : Program}
variable {rest : List Oper} {d : Nat} {ty : TypeId} {pos : String} {af : Array Edge}
/-- What can be read by a callee that is given M1, while M2 stays behind. -/
def RdX {τ δ : Type} [GT τ δ] (Γ : Cx) (M1 M2 : List HP) (t : τ) : Prop := ∀ w, Holds Γ.w0 Γ.S0 (M1 ++ M2) w → GT.rd w (fps M1) t
section
variable {τ δ : Type} [GT τ δ] {t : τ}
theorem RdX.old (h : GT.rd Γ.w0 Γ.S0 t) : RdX Γ M1 M2 t := fun _ hw => GT.rd_mono h fun _ _ ho => ho.carry hw
theorem RdX.tree (h : treeH t ∈ M2) : RdX Γ M1 M2 t := fun w hw => by
  have ho : GT.ow w t := hw.prs (treeH t) (List.mem_append_right _ h)
  refine GT.ow_rd ho fun k hk hk1 => ?_
  have hnd := hw.nodup
  rw [fps_append] at hnd
  exact (List.nodup_append.1 hnd).2.2 k hk1 k (List.mem_flatMap.2 ⟨_, h, hk⟩) rfl
theorem RdX.fst {α β δ ε : Type} [GT α δ] [GT β ε] {t : α × β} (h : RdX Γ M1 M2 t) : RdX Γ M1 M2 t.1 := fun w hw => (h w hw).1
theorem RdX.snd {α β δ ε : Type} [GT α δ] [GT β ε] {t : α × β} (h : RdX Γ M1 M2 t) : RdX Γ M1 M2 t.2 := fun w hw => (h w hw).2
theorem RdX.of {X : TL τ} {j : Nat} {x : τ} (h : RdX Γ M1 M2 X) (hi : X.els[j]? = some x) : RdX Γ M1 M2 x := fun w hw => (h w hw).2.2.1 x (List.mem_of_getElem? hi)
theorem RdX.pair {α β δ ε : Type} [GT α δ] [GT β ε] {a : α} {b : β} (h1 : RdX Γ M1 M2 a) (h2 : RdX Γ M1 M2 b) : RdX Γ M1 M2 (a, b) := fun w hw => ⟨h1 w hw, h2 w hw⟩
theorem RdX.int {n : Int} : RdX Γ M1 M2 n := fun _ _ => trivial
theorem RdX.bool {n : Bool} : RdX Γ M1 M2 n := fun _ _ => trivial
theorem RdX.str {n : ByteArray} : RdX Γ M1 M2 n := fun _ _ => trivial
theorem RdX.u8 {n : UInt8} : RdX Γ M1 M2 n := fun _ _ => trivial
theorem nil_rd {w : World} {S : List Nat} (e : TypeId) : GT.rd w S (TL.nil τ e) := ⟨Nat.le_refl _, by simp [TL.nil, maxLen], fun x hx => by simp [TL.nil] at hx, fun _ => rfl, fun a ha => by simp [TL.nil] at ha⟩
theorem RdX.nil (e : TypeId) : RdX Γ M1 M2 (TL.nil τ e) := fun _ _ => nil_rd e
theorem RdX.map {α δ' : Type} [GT α δ'] {a : α} (f : ∀ w S, GT.rd w S a → GT.rd w S t) (h : RdX Γ M1 M2 a) : RdX Γ M1 M2 t := fun w hw => f w _ (h w hw)
theorem RdT.map {α δ' : Type} [GT α δ'] {a : α} (f : ∀ w S, GT.rd w S a → GT.rd w S t) (h : RdT Γ M a) : RdT Γ M t := fun w hw => f w _ (h w hw)
end
/-- The same, of one world. -/
def RdO {τ δ : Type} [GT τ δ] (w : World) (S : List Nat) (t : τ) : Prop := GT.rd w S t
section
variable {τ δ : Type} [GT τ δ] {t : τ} {S : List Nat}
theorem RdO.old (h : GT.rd w S t) : RdO w S t := h
theorem RdO.fst {α β δ ε : Type} [GT α δ] [GT β ε] {t : α × β} (h : RdO w S t) : RdO w S t.1 := h.1
theorem RdO.snd {α β δ ε : Type} [GT α δ] [GT β ε] {t : α × β} (h : RdO w S t) : RdO w S t.2 := h.2
theorem RdO.of {X : TL τ} {j : Nat} {x : τ} (h : RdO w S X) (hi : X.els[j]? = some x) : RdO w S x := h.2.2.1 x (List.mem_of_getElem? hi)
theorem RdO.pair {α β δ ε : Type} [GT α δ] [GT β ε] {a : α} {b : β} (h1 : RdO w S a) (h2 : RdO w S b) : RdO w S (a, b) := ⟨h1, h2⟩
theorem RdO.int {n : Int} : RdO w S n := trivial
theorem RdO.bool {n : Bool} : RdO w S n := trivial
theorem RdO.str {n : ByteArray} : RdO w S n := trivial
theorem RdO.u8 {n : UInt8} : RdO w S n := trivial
theorem RdO.nil (e : TypeId) : RdO w S (TL.nil τ e) := nil_rd e
theorem RdO.map {α δ' : Type} [GT α δ'] {a : α} (f : ∀ w S, GT.rd w S a → GT.rd w S t) (h : RdO w S a) : RdO w S t := f w _ h
end
/-- A call that is given some parts. -/
theorem L_callM {f : Nat} {xs : List Operand} {ats : Array TypeId} {vs : List Value} {R : Value → List HP → Prop} (M1 M2 : List HP)
    (hn : Nat.blt d Γ.n = true) (hf : IsFn Γ.P f) (hx : evs l xs = some vs) (hp : List.Perm M (M1 ++ M2)) (hc : ∀ w, Holds Γ.w0 Γ.S0 (M1 ++ M2) w → Spec Γ.P f vs.toArray w M1 R)
    (hk : ∀ v M', R v M' → L Γ rest ((d, v) :: l) (M' ++ M2) K) : L Γ ({ dst := some d, op := .call { callee := .value (.func f), args := xs.toArray, argTypes := ats }, type := ty, pos := pos, after := af, guard := none } :: rest) l M K :=
  L_call (M1 := M1) (M2 := M2) (R := R) rfl rfl rfl (Nat.le_of_ble_eq_true hn) hf hx hp hc hk
end Go.Proofs.SL
namespace Go.Proofs.SL
open Go
variable {Γ : Cx} {l : Envl} {M M' M1 M2 F : List HP} {Q : Post} {K : Kont} {w0 w : World} {S0 : List Nat} {P : Program}
variable {rest : List Oper} {d : Nat} {ty : TypeId} {pos : String} {af : Array Edge}
section
variable {τ δ : Type} [GT τ δ]
def chkP (b : Bool) : Option Unit := if b then some () else none
theorem chkP_some {b : Bool} {u : Unit} (h : chkP b = some u) : b = true := by
  unfold chkP at h; split at h
  · assumption
  · cases h
theorem slcP_some {α : Type} {l r : List α} {a b : Int} (h : slcP l a b = some r) : 0 ≤ a ∧ a ≤ b ∧ b ≤ l.length ∧ r = (l.drop a.toNat).take (b.toNat - a.toNat) := by
  unfold slcP at h; split at h
  · rename_i hb; cases h; exact ⟨hb.1, hb.2.1, hb.2.2, rfl⟩
  · cases h
end
end Go.Proofs.SL
namespace Go.Proofs.SL
open Go
variable {Γ : Cx} {l : Envl} {M M' M1 M2 F : List HP} {Q : Post} {K : Kont} {w0 w : World} {S0 : List Nat}
variable {rest : List Oper} {d : Nat} {ty : TypeId} {pos : String} {af : Array Edge}
variable {ops : Array Oper} {Msh pool pool' : List HP} {E : Fl} {rs : List (Option Nat × Rel)} {cs0 : List Nat} {KD : List (Option Nat × Rel) → List Nat → List HP → Prop}
section
variable {τ δ : Type} [GT τ δ]
theorem D_appT [FlatT τ] {s x : Operand} {T e sz by_ : Nat} {z : List Value} {X Y : TL τ} {r : List δ}
    (hs : OpV E s True X.hdr) (hx : OpV E x True Y.hdr) (ht : elOf Γ.P T = some (e, sz, by_, z)) (hsz : GT.sz τ = sz) (hz : z.length = sz)
    (hp : Pick (treeH X) pool pool') (hsrc : RdT Γ Msh Y) (hr : appP (GT.dat X) (GT.dat Y) = some r) (hb : by_ ≤ 32768)
    (hk : DV Γ ops Msh pool' ((d, OwnV (τ := τ) r) :: E) ((some d, OwnV (τ := τ) r) :: rs) cs0 rest KD) :
    DV Γ ops Msh pool E rs cs0 ({ dst := some d, op := .call { callee := .builtin .append, args := #[s, x], argTypes := #[T, T] }, type := ty, pos := pos, after := af, guard := none } :: rest) KD := by
  refine DV.mk (OwnV (τ := τ) r) ([treeH X]) pool' [] hp.perm rfl ?_ (by rw [dropE_nil]; exact hk)
  intro a w F Mk _ _ hw hm hfa hcf
  have hMk : Mk = [] := hcf
  subst hMk
  rw [dropE_nil] at hfa
  rw [if_pos (by simp [Region.wanted])]
  have e1 := hs.eval hfa (by simp [Op.operands, Call.operands]) trivial
  have e2 := hx.eval hfa (by simp [Op.operands, Call.operands]) trivial
  have hw1 : Holds Γ.w0 Γ.S0 (treeH X :: F) w := by simpa using hw
  obtain ⟨hl, rfl⟩ := appP_some hr
  simp only [dat_els, List.length_map] at hl
  have hrd : GT.rd w (fps Msh ++ Γ.S0) Y → True := fun _ => trivial
  have hY := hsrc w (hw1.seesSub fun h hh => List.mem_cons_of_mem _ (hm h hh))
  cases hya : Y.a with
  | some ad =>
    have hsp : Y.els ≠ [] → ad.spot = none := fun hne => (hY.2.2.2.2 ad hya).1 hne
    have hsrc2 : ∀ j v, (rowCells Y.els)[j]? = some v → w.cell? (ad.add j) = some v := fun j v hv => by
      have hne : Y.els ≠ [] := fun e => by rw [e] at hv; simp [rowCells] at hv
      obtain ⟨b, o, sp⟩ := ad
      have h3 : sp = none := hsp hne
      subst h3
      rw [addr_add]; exact ((hY.2.2.2.2 _ hya).2 j v hv).1
    obtain ⟨a', c', e', tl, w', h1, h2⟩ := append_rowE (P := Γ.P) (c := Y.cap) ht hsz hz (tree_row hw1) hsrc2 hl hb ty
    have h1' : (Builtin.append_ #[T, T] ty #[X.hdr, Y.hdr]).run Γ.P w = .ok (TL.hdr (⟨a', c', e', X.els ++ Y.els, tl⟩ : TL τ)) w' := by
      have : Y.hdr = .slice (some ad) Y.els.length Y.cap := by show Value.slice Y.a _ _ = _; rw [hya]
      rw [this]; exact h1
    have h3 : (execOp a.eval { dst := some d, op := .call { callee := .builtin .append, args := #[s, x], argTypes := #[T, T] }, type := ty, pos := pos, after := af, guard := none }).run Γ.P w = .ok (.value (TL.hdr (⟨a', c', e', X.els ++ Y.els, tl⟩ : TL τ))) w' := by
      generalize TL.hdr (⟨a', c', e', X.els ++ Y.els, tl⟩ : TL τ) = vv at *
      generalize X.hdr = uu at *
      generalize Y.hdr = yy at *
      simp [execOp, resolve, invoke, builtin, e1, e2, h1']
    rw [h3]
    refine ⟨[treeH (⟨a', c', e', X.els ++ Y.els, tl⟩ : TL τ)], ⟨_, rfl, ?_, rfl⟩, ?_⟩
    · rw [dat_els, List.map_append, dat_els, dat_els]
    · refine row_tree ?_
      have h4 : Holds Γ.w0 Γ.S0 (elsT X.els :: elsT Y.els :: rowH (⟨a', c', e', X.els ++ Y.els, tl⟩ : TL τ) :: F) w' := by
        have h5 := elsT_flat (xs := Y.els) h2 (fun x _ => FlatT.flat x)
        exact h5.perm (((List.Perm.swap _ _ _).trans ((List.Perm.swap _ _ _).cons _)).trans (List.Perm.swap _ _ _ |>.trans ((List.Perm.refl _)))) |>.perm (by
          first
          | exact List.Perm.refl _
          | exact (List.Perm.swap _ _ _)
          | exact ((List.Perm.swap _ _ _).cons _)
          | exact (List.Perm.swap _ _ _).trans ((List.Perm.swap _ _ _).cons _)
          | exact ((List.Perm.swap _ _ _).cons _).trans (List.Perm.swap _ _ _))
      exact (elsT_app h4).perm (List.Perm.swap _ _ _)
  | none =>
    have hye : Y.els = [] := hY.2.2.2.1 hya
    have hr0 : GT.ow w X := hw1.prs _ (List.mem_cons_self ..)
    have h5 : (Builtin.append_ #[T, T] ty #[X.hdr, Y.hdr]).run Γ.P w = .ok X.hdr w := by
      have : Y.hdr = .slice none 0 Y.cap := by show Value.slice Y.a _ _ = _; rw [hya, hye]; rfl
      rw [this]; exact append_none (P := Γ.P) (w := w) (a := X.a) (n := X.els.length) (c := X.cap) (c2 := Y.cap) ht hr0.1 ty
    have h3 : (execOp a.eval { dst := some d, op := .call { callee := .builtin .append, args := #[s, x], argTypes := #[T, T] }, type := ty, pos := pos, after := af, guard := none }).run Γ.P w = .ok (.value X.hdr) w := by
      generalize X.hdr = uu at *
      generalize Y.hdr = yy at *
      simp [execOp, resolve, invoke, builtin, e1, e2, h5]
    rw [h3]
    exact ⟨[treeH X], ⟨X, rfl, by rw [dat_els Y, hye]; simp, rfl⟩, hw1⟩
/-- A value that is built over a slice of one's own. -/
def AggO (f : Value → Value) (r : List δ) : Rel := fun v M => ∃ X : TL τ, v = f X.hdr ∧ GT.dat X = r ∧ M = [treeH X]
def RowO (f : Value → Value) (e : TypeId) (r : List δ) : Rel := fun v M => ∃ (X : TL τ) (b : Nat), v = .slice (some ⟨b, 0, none⟩) 1 1 ∧ GT.dat X = r ∧ M = [blk b (f X.hdr).cells.toList e, treeH X]
def OpVp (E : Fl) : List (Nat × Operand) → List (Nat × Value) → Prop
  | [], [] => True
  | x :: xs, v :: vs => (x.1 = v.1 ∧ OpV E x.2 True v.2) ∧ OpVp E xs vs
  | _, _ => False
theorem OpVp.nil : OpVp E [] [] := trivial
theorem OpVp.cons {i : Nat} {x : Operand} {v : Value} {xs : List (Nat × Operand)} {vs : List (Nat × Value)} (h : OpV E x True v) (hs : OpVp E xs vs) : OpVp E ((i, x) :: xs) ((i, v) :: vs) := ⟨⟨rfl, h⟩, hs⟩
theorem OpVp.evals {a : Act} {F : List HP} {o : Oper} (hf : Facts E (o.looksAt ops) F a) : ∀ (xs : List (Nat × Operand)) (vs : List (Nat × Value)), OpVp E xs vs → (∀ x, x ∈ xs → x.2 ∈ o.op.operands.toList) → xs.map (fun p => (p.1, a.eval p.2)) = vs
  | [], [], _, _ => rfl
  | x :: xs, v :: vs, h, hm => by
    rw [List.map_cons, h.1.2.eval hf (hm x (by simp)) trivial, OpVp.evals hf xs vs h.2 (fun y hy => hm y (List.mem_cons_of_mem _ hy)), h.1.1]
  | [], _ :: _, h, _ => h.elim
  | _ :: _, [], h, _ => h.elim
theorem D_buildO {T : TypeId} {t : Nat} {xs : List (Nat × Operand)} {ps : Value → List (Nat × Value)} {pl : List (Nat × Nat)} {z : List Value} {cs : Value → List Value} {r : List δ}
    (hR : E.lookup t = some (OwnV (τ := τ) r)) (hx : ∀ u, OpVp ((t, FC True u) :: dropE [t] E) xs (ps u)) (ht : bldOf Γ.P T = some (pl, z)) (hf : ∀ X : TL τ, fillL (pl[·]?) z (ps X.hdr) = some (cs X.hdr))
    (hlin : linB ops { dst := some d, op := .build T xs.toArray, type := ty, pos := pos, after := af, guard := none } [t] = true)
    (hk : DV Γ ops Msh pool ((d, AggO (τ := τ) (fun u => .agg (cs u).toArray) r) :: dropE [t] E) ((some d, AggO (τ := τ) (fun u => .agg (cs u).toArray) r) :: rs) ([t] ++ cs0) rest KD) :
    DV Γ ops Msh pool E rs cs0 ({ dst := some d, op := .build T xs.toArray, type := ty, pos := pos, after := af, guard := none } :: rest) KD := by
  refine DV.mk (AggO (τ := τ) (fun u => .agg (cs u).toArray) r) [] pool ([t]) (by simp) hlin ?_ hk
  intro a w F Mk _ _ hw hm hfa hcf
  obtain ⟨Mx, Mk', rfl, hRR, hnil⟩ := hcf
  have hnil : Mk' = [] := hnil
  subst hnil
  obtain ⟨X, hv, hd, rfl⟩ := hRR _ hR
  rw [if_pos (by simp [Region.wanted])]
  have hf2 : Facts ((t, FC True X.hdr) :: dropE [t] E) (Oper.looksAt ops { dst := some d, op := .build T xs.toArray, type := ty, pos := pos, after := af, guard := none }) F a := by
    intro t' R' h1 h2
    rw [List.lookup_cons] at h2
    cases hb : t' == t with
    | true =>
      rw [hb] at h2
      cases h2
      have : t' = t := by simpa using hb
      subst this
      exact ⟨[], ⟨rfl, fun _ => hv, fun hn => (hn trivial).elim⟩, fun _ h => by cases h⟩
    | false => rw [hb] at h2; exact hfa t' R' h1 h2
  have h1 : xs.toArray.map (fun (i, x) => (i, a.eval x)) = (ps X.hdr).toArray := by
    have := OpVp.evals (o := { dst := some d, op := .build T xs.toArray, type := ty, pos := pos, after := af, guard := none }) hf2 xs (ps X.hdr) (hx X.hdr) (fun x hx => by simp [Op.operands]; exact ⟨_, hx⟩)
    rw [← this]; simp
  have h3 : (execOp a.eval { dst := some d, op := .build T xs.toArray, type := ty, pos := pos, after := af, guard := none }).run Γ.P w = .ok (.value (.agg (cs X.hdr).toArray)) w := by
    simp only [execOp, h1]
    simp [run_build ht (hf X)]
  rw [h3]
  exact ⟨[treeH X], ⟨X, rfl, hd, rfl⟩, by simpa using hw⟩
theorem D_bs1O {t T e sz by_ : Nat} {z : List Value} {f : Value → Value} {r : List δ} (hR : E.lookup t = some (AggO (τ := τ) f r)) (ht : elOf Γ.P T = some (e, sz, by_, z)) (hz : z.length = sz) (hsz : 0 < sz) (hns : sz ≤ 65536)
    (hv : ∀ X : TL τ, (f X.hdr).cells.toList.length = sz)
    (hlin : linB ops { dst := some d, op := .buildSlice T 1 #[(0, .tmp t)], type := ty, pos := pos, after := af, guard := none } [t] = true)
    (hk : DV Γ ops Msh pool ((d, RowO (τ := τ) f e r) :: dropE [t] E) ((some d, RowO (τ := τ) f e r) :: rs) ([t] ++ cs0) rest KD) :
    DV Γ ops Msh pool E rs cs0 ({ dst := some d, op := .buildSlice T 1 #[(0, .tmp t)], type := ty, pos := pos, after := af, guard := none } :: rest) KD := by
  refine DV.mk (RowO (τ := τ) f e r) [] pool ([t]) (by simp) hlin ?_ hk
  intro a w F Mk _ _ hw hm hfa hcf
  obtain ⟨Mx, Mk', rfl, hRR, hnil⟩ := hcf
  have hnil : Mk' = [] := hnil
  subst hnil
  obtain ⟨X, hx, hd, rfl⟩ := hRR _ hR
  rw [if_pos (by simp [Region.wanted])]
  have e1 : a.eval (.tmp t) = f X.hdr := hx
  have h1 : (execOp a.eval { dst := some d, op := .buildSlice T 1 #[(0, .tmp t)], type := ty, pos := pos, after := af, guard := none }).run Γ.P w = .ok (.value (.slice (some ⟨w.heap.size, 0, none⟩) 1 1)) (w.alloc (.cells (f X.hdr).cells.toList.toArray e (0, 0))) := by
    simp only [execOp]
    have : (#[(0, Operand.tmp t)] : Array (Nat × Operand)).map (fun (i, x) => (i, a.eval x)) = #[(0, f X.hdr)] := by simp [e1]
    rw [this]
    simp [run_bs1 ht hz hsz hns (hv X)]
  rw [h1]
  exact ⟨[blk w.heap.size (f X.hdr).cells.toList e, treeH X], ⟨X, _, rfl, hd, rfl⟩, Holds.new (show Holds Γ.w0 Γ.S0 (treeH X :: F) w by simpa using hw) rfl⟩
end
end Go.Proofs.SL
namespace Go.Proofs.SL
open Go
variable {M M1 : List HP} {w0 w : World} {S0 : List Nat}
def condH : Bool → HP → HP
  | true, _ => ⟨[], fun _ => True, fun _ _ _ h => h⟩
  | false, h => h
theorem condH_true {h : HP} (hh : Holds w0 S0 M w) : Holds w0 S0 (condH true h :: M) w := by
  refine hh.reFp (List.Perm.of_eq rfl) fun x hx => ?_
  rcases List.mem_cons.1 hx with rfl | hx
  · trivial
  · exact hh.prs _ hx
theorem cond_in {h : HP} {b : Bool} (p : Pick h M M1) (hh : Holds w0 S0 M w) : Holds w0 S0 (condH b h :: M1) w := by
  cases b with
  | false => exact hh.perm p.perm
  | true => exact condH_true ((hh.perm p.perm).sub ⟨[h], List.perm_append_comm (l₁ := [h])⟩)
theorem cond_out {h : HP} {b : Bool} (p : Pick (condH b h) M M1) (hb : b = false) (hh : Holds w0 S0 M w) : Holds w0 S0 (h :: M1) w := by
  subst hb; exact hh.perm p.perm
theorem bf1 {b : Bool} (h : (!b) = true) : b = false := by simpa using h
theorem bf2 {b c : Bool} (h : (!b && c) = true) : b = false := by cases b <;> simp_all
end Go.Proofs.SL
namespace Go.Proofs.SL
open Go
theorem els_skip {M M1 : List HP} {w0 w : World} {S0 : List Nat} {τ δ : Type} [GT τ δ] {X : TL τ} {i : Int} {u : τ} (hi : 0 ≤ i ∧ X.els[i.toNat]? = some u) (hm : rowH X ∈ M) (p : Pick (elsT (X.els.drop i.toNat)) M M1) (h : Holds w0 S0 M w) :
    Holds w0 S0 (elsT (X.els.drop (IntKind.wrap .i64 (i + 1)).toNat) :: M1) w := by
  have h1 := els_next hi.2 p h
  have h2 : Holds w0 S0 (elsT (X.els.drop (i.toNat + 1)) :: M1) w := h1.sub ⟨[treeH u], List.perm_append_comm (l₁ := [treeH u])⟩
  have hlt := (List.getElem?_eq_some_iff.1 hi.2).1
  obtain ⟨r1, r2, _⟩ := h.prs _ hm
  simp only [maxLen] at r2
  rw [wrap64_in (by unfold inR; omega), show (i + 1).toNat = i.toNat + 1 by omega]
  exact h2
end Go.Proofs.SL
namespace Go.Proofs.SL
open Go
variable {Γ : Cx} {l : Envl} {M M' M1 M2 F : List HP} {Q : Post} {K : Kont} {w0 w : World} {S0 : List Nat} {P : Program}
variable {rest : List Oper} {d : Nat} {ty : TypeId} {pos : String} {af : Array Edge}
section
variable {τ δ : Type} [GT τ δ]
theorem L_slcE {x : Operand} {lo hi : Option Operand} {T e sz by_ : Nat} {z : List Value} {X : TL τ} {a b : Int} {r : List δ} (hn : Nat.blt d Γ.n = true) (hx : ev l x = some X.hdr) (hlo : optI l lo 0 = some a) (hhi : optI l hi ((GT.dat X).length : Int) = some b)
    (ht : elOf Γ.P T = some (e, sz, by_, z)) (hsz : GT.sz τ = sz) (hR : RdT Γ M X) (hr : slcP (GT.dat X) a b = some r)
    (hk : ∀ X' : TL τ, GT.dat X' = r → X' = slc X a.toNat b.toNat → L Γ rest ((d, X'.hdr) :: l) M K) :
    L Γ ({ dst := some d, op := .slice T x lo hi none, type := ty, pos := pos, after := af, guard := none } :: rest) l M K := by
  unfold slcP at hr
  split at hr
  · rename_i hb
    cases hr
    rw [dat_els, List.length_map] at hb hhi
    obtain ⟨h0, h1, h2⟩ := hb
    have h1' : a.toNat ≤ b.toNat := by omega
    have h2' : b.toNat ≤ X.els.length := by omega
    refine L_pure hn (v := (slc X a.toNat b.toNat).hdr) (fun a' w ha hw => ?_) (hk (slc X a.toNat b.toNat) (by rw [dat_els, dat_els]; simp [slc, List.map_take, List.map_drop]) rfl)
    have hcap : X.els.length ≤ X.cap := (hR w hw.sees).1
    unfold elOf at ht
    split at ht <;> (try cases ht)
    rename_i e' het
    split at ht <;> (try cases ht)
    rename_i i' hi'
    split at ht <;> cases ht
    have hlen : ((X.els.drop a.toNat).take (b.toNat - a.toNat)).length = b.toNat - a.toNat := by simp; omega
    have hv : (slc X a.toNat b.toNat).hdr = .slice (if X.cap = a.toNat then X.a else X.a.map (·.add (a.toNat * i'.size))) (b.toNat - a.toNat) (X.cap - a.toNat) := by
      show Value.slice _ ((X.els.drop a.toNat).take (b.toNat - a.toNat)).length _ = _
      rw [hlen]; simp only [slc, hsz]
    rw [hv]
    have e1 : a'.eval x = .slice X.a X.els.length X.cap := ha.eval hx
    cases lo with
    | none =>
      cases hlo
      cases hi with
      | none =>
        cases hhi
        simp only [execOp, Option.map_none, e1, Instr.sliceAt, Instr.slice, underlying, Sem.run_bind, run_program, Result.andThen_ok, het, Instr.sliceBounds, Sem.run_pure, sizeOf, typeInfo, hi']
        simp
      | some o =>
        obtain ⟨k, h5⟩ := optI_some hhi
        have e2 := ha.eval h5
        have e4 := fun w => run_sliceBound (P := Γ.P) (k := k) (code := .sliceAcap) (show 0 ≤ b by omega) (show b ≤ ((X.cap : Nat) : Int) by omega) w
        simp [execOp, e1, e2, Instr.sliceAt, Instr.slice, underlying, het, Instr.sliceBounds, sizeOf, typeInfo, hi', e4]
    | some o1 =>
      obtain ⟨k1, h6⟩ := optI_some hlo
      have e3 := ha.eval h6
      cases hi with
      | none =>
        cases hhi
        have e4 := fun w => run_sliceBound (P := Γ.P) (k := k1) (code := .sliceB) h0 (show a ≤ ((X.els.length : Nat) : Int) by omega) w
        simp [execOp, e1, e3, Instr.sliceAt, Instr.slice, underlying, het, Instr.sliceBounds, sizeOf, typeInfo, hi', e4]
      | some o =>
        obtain ⟨k, h5⟩ := optI_some hhi
        have e2 := ha.eval h5
        have e4 := fun w => run_sliceBound (P := Γ.P) (k := k) (code := .sliceAcap) (show 0 ≤ b by omega) (show b ≤ ((X.cap : Nat) : Int) by omega) w
        have e5 := fun w => run_sliceBound (P := Γ.P) (k := k1) (code := .sliceB) h0 (show a ≤ ((b.toNat : Nat) : Int) by omega) w
        simp [execOp, e1, e2, e3, Instr.sliceAt, Instr.slice, underlying, het, Instr.sliceBounds, sizeOf, typeInfo, hi', e4, e5]
  · cases hr
def trunc (X : TL τ) (b : Nat) : TL τ := ⟨X.a, X.cap, X.e, X.els.take b, rowCells (X.els.drop b) ++ X.tail⟩
theorem trunc_own {X : TL τ} {b : Nat} (hb : b ≤ X.els.length) (p : Pick (treeH X) M M1) (h : Holds w0 S0 M w) : Holds w0 S0 (treeH (trunc X b) :: M1) w := by
  have h1 := tree_row (h.perm p.perm)
  have h2 : Holds w0 S0 (elsT (X.els.take b) :: rowH X :: M1) w := els_sub (zs := X.els.drop b) (List.Perm.of_eq (List.take_append_drop b X.els).symm) (by apply Pick.there; exact Pick.here _) h1
  have h3 := h2.perm (List.Perm.swap _ _ _)
  refine row_tree ?_
  show Holds w0 S0 (rowH (trunc X b) :: elsT (X.els.take b) :: M1) w
  refine h3.reFp (List.Perm.of_eq rfl) fun x hx => ?_
  rcases List.mem_cons.1 hx with rfl | hx
  · obtain ⟨r1, r2, r3, r4⟩ := h3.prs (rowH X) (List.mem_cons_self ..)
    have hl : (X.els.take b).length = b := by rw [List.length_take, Nat.min_eq_left hb]
    refine ⟨by show (X.els.take b).length ≤ X.cap; omega, r2, fun ha => ⟨by show X.els.take b = []; rw [(r3 ha).1]; simp, (r3 ha).2⟩, fun a ha => ?_⟩
    obtain ⟨g1, g2, g3, g4⟩ := r4 a ha
    refine ⟨g1, g2, ?_, ?_⟩
    · show w.heap[a.block]? = some (.cells (rowCells (X.els.take b) ++ (rowCells (X.els.drop b) ++ X.tail)).toArray X.e (0, 0))
      rw [← List.append_assoc, ← rowCells_append, List.take_append_drop]; exact g3
    · show (X.els.take b).length * GT.sz τ + (rowCells (X.els.drop b) ++ X.tail).length = X.cap * GT.sz τ
      rw [List.length_append, length_rowCells, List.length_drop, hl, ← g4, ← Nat.add_assoc, ← Nat.add_mul]
      congr 2; omega
  · exact h3.prs _ (List.mem_cons_of_mem _ hx)
theorem trunc_hdr {X Y : TL τ} {a b : Nat} (he : Y = slc X a b) (ha : a = 0) (hb : b ≤ X.els.length) : (trunc X b).hdr = Y.hdr := by
  subst ha; subst he
  show Value.slice X.a (X.els.take b).length X.cap = Value.slice (if X.cap = 0 then X.a else X.a.map (·.add (0 * GT.sz τ))) ((X.els.drop 0).take (b - 0)).length (X.cap - 0)
  have h2 : X.a.map (fun q : Addr => q.add (0 * GT.sz τ)) = X.a := by
    cases X.a with
    | none => rfl
    | some q => simp [Addr.add]
  rw [h2]; simp
theorem W_trunc {c : Code} {X Y : TL τ} {a b : Int} {r' : List δ} {u : Unit} (he : Y = slc X a.toNat b.toNat) (hsl : slcP (GT.dat X) a b = some r') (h0 : chkP (decide (a = 0)) = some u) (p : Pick (treeH X) M M1)
    (hk : ∀ Z : TL τ, GT.dat Z = GT.dat Y → Z.hdr = Y.hdr → W Γ c l (treeH Z :: M1) Q) : W Γ c l M Q := by
  obtain ⟨s0, s1, s2, -⟩ := slcP_some hsl
  rw [dat_els, List.length_map] at s2
  have h0 : a = 0 := of_decide_eq_true (chkP_some h0)
  refine W_conv (fun w h => trunc_own (b := b.toNat) (by omega) p h) (hk _ ?_ (trunc_hdr he (by omega) (by omega)))
  rw [he, h0, dat_els, dat_els]
  simp [trunc, slc]
def clrD {δ : Type} (l : List δ) (a b : Int) (z : δ) : List δ := l.take a.toNat ++ (List.replicate (b.toNat - a.toNat) z ++ l.drop b.toNat)
theorem rowCells_rep (n : Nat) (z0 : τ) : rowCells (List.replicate n z0) = (List.replicate n (GT.cells z0)).flatten := by
  induction n with
  | zero => rfl
  | succ n ih => rw [List.replicate_succ, rowCells_cons, ih, List.replicate_succ, List.flatten_cons]
theorem L_clrV [FlatT τ] {x : Operand} {T e sz by_ : Nat} {z : List Value} {X Y : TL τ} {a b : Int} {r' r : List δ} {u : Unit} (z0 : τ) (hx : ev l x = some Y.hdr) (ht : elOf Γ.P T = some (e, sz, by_, z)) (hz : z.length = sz) (hsz : GT.sz τ = sz) (hz0 : GT.cells z0 = z)
    (p : Pick (treeH X) M M1) (he : Y = slc X a.toNat b.toNat) (hsl : slcP (GT.dat X) a b = some r') (hc : chkP (decide (a < b)) = some u) (hr : some (clrD (GT.dat X) a b (GT.dat z0)) = some r)
    (hk : ∀ X' : TL τ, GT.dat X' = r → X'.hdr = X.hdr → L Γ rest l (treeH X' :: M1) K) :
    L Γ ({ dst := none, op := .call { callee := .builtin .clear, args := #[x], argTypes := #[T] }, type := ty, pos, after := af, guard := none } :: rest) l M K := by
  have hab : a < b := of_decide_eq_true (chkP_some hc)
  obtain ⟨s0, s1, s2, -⟩ := slcP_some hsl
  rw [dat_els, List.length_map] at s2
  have hne : X.els ≠ [] := fun h => by rw [h] at s2; simp at s2; omega
  subst hsz
  refine L_fact (φ := X.a = some ⟨X.g, 0, none⟩ ∧ X.els.length ≤ X.cap ∧ X.cap ≤ maxLen ∧ X.els.length * GT.sz τ + X.tail.length = X.cap * GT.sz τ)
    (fun w h => by obtain ⟨f1, f2, f3, f4, _⟩ := raw_facts ((h.perm p.perm).prs (treeH X) (List.mem_cons_self ..)) hne; exact ⟨f1, f2, f3, f4⟩) (fun ⟨f1, f2, f3, f4⟩ => ?_)
  refine L_conv (fun w h => raw_open hne p h) ?_
  have hyh : Y.hdr = .slice (some ⟨X.g, a.toNat * GT.sz τ, none⟩) (b.toNat - a.toNat) (X.cap - a.toNat) := by
    subst he
    show Value.slice (if X.cap = a.toNat then X.a else X.a.map (·.add (a.toNat * GT.sz τ))) ((X.els.drop a.toNat).take (b.toNat - a.toNat)).length (X.cap - a.toNat) = _
    rw [if_neg (by omega), f1, List.length_take, List.length_drop, Nat.min_eq_left (by omega)]
    simp [addr_add]
  rw [hyh] at hx
  have hcl : (rowCells X.els ++ X.tail).length = X.cap * GT.sz τ := by rw [List.length_append, length_rowCells]; exact f4
  have hseg : a.toNat * GT.sz τ + (b.toNat - a.toNat) * GT.sz τ = b.toNat * GT.sz τ := by rw [← Nat.add_mul]; congr 1; omega
  refine L_clrRaw hx ht hz (fun u hu => by rw [← hz0] at hu; exact GT.one z0 u hu) (.here _) (by rw [hcl, hseg]; exact Nat.mul_le_mul_right _ (by omega)) (by omega) ?_
  generalize hels : X.els.take a.toNat ++ (List.replicate (b.toNat - a.toNat) z0 ++ X.els.drop b.toNat) = els'
  have hlen : els'.length = X.els.length := by
    rw [← hels]; simp only [List.length_append, List.length_take, List.length_replicate, List.length_drop]; omega
  have hcs : (rowCells X.els ++ X.tail).take (a.toNat * GT.sz τ) ++ (List.replicate (b.toNat - a.toNat) z).flatten ++ (rowCells X.els ++ X.tail).drop (a.toNat * GT.sz τ + (b.toNat - a.toNat) * GT.sz τ) = rowCells els' ++ X.tail := by
    rw [hseg, row_take _ _ _ (by omega), row_drop _ _ _ (by omega), ← hels, rowCells_append, rowCells_append, rowCells_rep, hz0]
    simp only [List.append_assoc]
  rw [hcs]
  refine L_conv (M' := treeH (⟨some ⟨X.g, 0, none⟩, X.cap, X.e, els', X.tail⟩ : TL τ) :: M1) (fun w h => ?_) (hk _ ?_ ?_)
  · have h2 : Holds Γ.w0 Γ.S0 (blk X.g (rowCells els' ++ X.tail) X.e :: M1) w := h.sub ⟨[elsT X.els], (List.perm_append_comm (l₁ := [elsT X.els]) (l₂ := M1)).cons _⟩
    have h3 := elsT_flat (xs := els') h2 (fun x _ => FlatT.flat x)
    exact raw_close rfl (by omega) f3 (by rw [hlen]; exact f4) (by apply Pick.there; exact Pick.here _) (.here _) h3
  · have := Option.some.inj hr
    rw [← this, dat_els, dat_els, ← hels]
    simp [clrD, List.map_take, List.map_drop]
  · show Value.slice (some ⟨X.g, 0, none⟩) els'.length X.cap = Value.slice X.a X.els.length X.cap
    rw [hlen, f1]
end
end Go.Proofs.SL
namespace Go.Proofs.SL
open Go
variable {Γ : Cx} {ops : Array Oper} {Msh pool pool' : List HP} {E : Fl} {rs : List (Option Nat × Rel)} {rest : List Oper} {KD : RKont} {cs0 : List Nat}
variable {d : Nat} {ty : TypeId} {pos : String} {af : Array Edge}
theorem D_callM {f : Nat} {xs : List Operand} {ats : Array TypeId} {vs : List Value} (R : Rel) (M1 : List HP) (hp : List.Perm pool (M1 ++ pool'))
    (hf : IsFn Γ.P f) (hx : OpVs E True xs vs) (hc : ∀ w F, Holds Γ.w0 Γ.S0 (M1 ++ F) w → (∀ h, h ∈ Msh → h ∈ F) → Spec Γ.P f vs.toArray w M1 R)
    (hk : DV Γ ops Msh pool' ((d, R) :: E) ((some d, R) :: rs) cs0 rest KD) :
    DV Γ ops Msh pool E rs cs0 ({ dst := some d, op := .call { callee := .value (.func f), args := xs.toArray, argTypes := ats }, type := ty, pos := pos, after := af, guard := none } :: rest) KD := by
  refine DV.mk R M1 pool' [] hp rfl ?_ (by rw [dropE_nil]; exact hk)
  intro a w F Mk _ _ hw hm hfa hcf
  have hMk : Mk = [] := hcf
  subst hMk
  rw [dropE_nil] at hfa
  simp only [List.nil_append] at hw ⊢
  rw [if_pos (by simp [Region.wanted])]
  have h2 : (#[] ++ xs.toArray.map a.eval ++ #[] : Array Value) = vs.toArray := by
    simp [OpVs.evals (o := { dst := some d, op := .call { callee := .value (.func f), args := xs.toArray, argTypes := ats }, type := ty, pos := pos, after := af, guard := none }) trivial hfa xs vs hx (fun x hx => by simp [Op.operands, Call.operands, hx])]
  rw [execOp_call_go, h2, hf.run]
  exact (hc w F hw hm (Holds.split hw)).mono fun e w'' ⟨v, M', h1, h3, h4⟩ => ⟨v, M', h1, h3, Holds.frame hw h4⟩
variable {gd : Option (Nat × Bool)}
theorem D_makeFunc {fn : Fn} {cs : List Operand} {vs : List Value} {c : Prop} (hg : GC ops E { dst := some d, op := .makeFunc fn #[] cs.toArray, type := ty, pos := pos, after := af, guard := gd } c) (hx : OpVs E c cs vs)
    (hk : DV Γ ops Msh pool ((d, FC c (.func fn #[] vs.toArray)) :: E) ((some d, FC c (.func fn #[] vs.toArray)) :: rs) cs0 rest KD) :
    DV Γ ops Msh pool E rs cs0 ({ dst := some d, op := .makeFunc fn #[] cs.toArray, type := ty, pos := pos, after := af, guard := gd } :: rest) KD :=
  DV_pure c _ hg (fun a w F hc hfa _ => by
    have h2 : cs.map a.eval = vs := OpVs.evals (o := { dst := some d, op := .makeFunc fn #[] cs.toArray, type := ty, pos := pos, after := af, guard := gd }) hc hfa cs vs hx (fun x hx => by simp [Op.operands, hx])
    simp [execOp, Instr.makeFunc, ← h2]) hk
end Go.Proofs.SL
namespace Go.Proofs.SL
open Go
section
variable {τ δ κ : Type} [GT τ δ]
theorem rowCells_key {key : τ → κ} {enc : κ → Value} (hc : ∀ x, GT.cells x = [enc (key x)]) (xs : List τ) : rowCells xs = xs.map fun x => enc (key x) := by
  induction xs with
  | nil => rfl
  | cons x xs ih => rw [rowCells_cons, hc, ih]; rfl
variable [Inhabited κ]
theorem put_cells (enc : κ → Value) (ds : List κ) (a b : List Value) (h : a.length = ds.length) : Sort.putCells enc 0 ds.toArray (a ++ b).toArray = (ds.map enc ++ b).toArray := by
  apply Array.ext_getElem?
  intro j
  simp only [Sort.putCells, Array.getElem?_mapIdx, List.getElem?_toArray, List.size_toArray, Nat.zero_add, Nat.zero_le, true_and, Nat.sub_zero]
  rcases Nat.lt_or_ge j ds.length with hj | hj
  · rw [List.getElem?_append_left (by omega), List.getElem?_append_left (by simpa using hj), List.getElem?_eq_getElem (show j < a.length by omega)]
    simp [hj, List.getElem?_map]
  · rw [List.getElem?_append_right (by omega), List.getElem?_append_right (by simpa using hj), List.length_map, h]
    cases b[j - ds.length]? with
    | none => rfl
    | some v => simp [Nat.not_lt.2 hj]
theorem put_holds {w w' : World} {key : τ → κ} {enc : κ → Value} (hc : ∀ x : τ, GT.cells x = [enc (key x)]) (hfp : ∀ x : τ, GT.fp x = []) (how : ∀ (w : World) (x : τ), GT.ow w x) {b cap n : Nat} {e : TypeId} {els ys : List τ} {tail tail' : List Value} {D : List κ} {os : Array Obj}
    (hh : Holds w (fps [treeH (⟨some ⟨b, 0, none⟩, cap, e, els, tail⟩ : TL τ)]) [treeH (⟨some ⟨b, 0, none⟩, cap, e, els, tail⟩ : TL τ)] w) (hD : D.length = els.length) (hrow : D.map enc ++ tail = rowCells ys ++ tail') (hy : ys.length ≤ cap) (hl : ys.length * GT.sz τ + tail'.length = cap * GT.sz τ)
    (hw : w' = Sort.grow (Sort.putRow enc (Sort.ahead w n) b 0 D.toArray) os) :
    Holds w (fps [treeH (⟨some ⟨b, 0, none⟩, cap, e, els, tail⟩ : TL τ)]) [treeH (⟨some ⟨b, 0, none⟩, cap, e, ys, tail'⟩ : TL τ)] w' := by
  have ht : GT.ow w (⟨some ⟨b, 0, none⟩, cap, e, els, tail⟩ : TL τ) := hh.prs _ (List.mem_cons_self ..)
  obtain ⟨h1, h2, h3, h4, h5⟩ := ht
  dsimp only at h1 h2 h3 h4
  obtain ⟨_, _, hb, _⟩ := h5 _ rfl
  dsimp only at hb
  have hbl : b < w.heap.size := (Array.getElem?_eq_some_iff.1 hb).1
  have hw' : w'.heap[b]? = some (.cells (rowCells ys ++ tail').toArray e (0, 0)) := by
    subst hw
    rw [Sort.heap_grow_old _ _ (by simpa [Sort.putRow, Sort.mapBlock, Sort.ahead] using hbl), ← hrow]
    have hp := put_cells enc D (rowCells els) tail (by rw [rowCells_key hc]; simp [hD])
    simp only [Sort.putRow, Sort.mapBlock, Sort.ahead, Array.getElem?_modify, hb, Sort.onCells, if_true, Option.map_some]
    rw [hp]
  have hfps : ∀ xs : List τ, xs.flatMap GT.fp = [] := fun xs => List.flatMap_eq_nil_iff.2 fun x _ => hfp x
  have efp : fps [treeH (⟨some ⟨b, 0, none⟩, cap, e, ys, tail'⟩ : TL τ)] = fps [treeH (⟨some ⟨b, 0, none⟩, cap, e, els, tail⟩ : TL τ)] := by
    simp only [fps_cons]
    show ([b] ++ ys.flatMap GT.fp) ++ fps [] = ([b] ++ els.flatMap GT.fp) ++ fps []
    rw [hfps, hfps]
  refine ⟨by subst hw; rfl, by subst hw; rfl, by subst hw; rfl, by subst hw; simp [Sort.putRow, Sort.mapBlock, Sort.ahead], fun k hk hn => ?_, fun x hx => ?_, by rw [efp]; exact hh.nodup, fun k hk => ?_⟩
  · have hkb : b ≠ k := by
      intro e2; subst e2
      exact hn (by simp only [fps_cons]; show b ∈ ([b] ++ els.flatMap GT.fp) ++ fps []; simp)
    subst hw
    rw [Sort.heap_grow_old _ _ (by simpa [Sort.putRow, Sort.mapBlock, Sort.ahead] using hk)]
    simp [Sort.putRow, Sort.mapBlock, Sort.ahead, Array.getElem?_modify, hkb]
  · obtain rfl := List.mem_singleton.1 hx
    exact ⟨hy, h2, fun x _ => how _ x, fun h => (by cases h), fun a ha => by cases ha; exact ⟨rfl, rfl, hw', hl⟩⟩
  · rw [efp] at hk
    refine ⟨(hh.rng k hk).1, Nat.lt_of_lt_of_le (hh.rng k hk).2 ?_⟩
    subst hw; simp [Sort.putRow, Sort.mapBlock, Sort.ahead]
/-- A slice that one owns is nil, or a row from its block's beginning. -/
theorem own_cases {w : World} {a0 : TL τ} (hh : Holds w (fps [treeH a0]) [treeH a0] w) : (∃ e tail, a0 = ⟨none, 0, e, [], tail⟩) ∨ ∃ b cap e els tail, a0 = ⟨some ⟨b, 0, none⟩, cap, e, els, tail⟩ ∧ els.length ≤ cap ∧ els.length * GT.sz τ + tail.length = cap * GT.sz τ ∧ w.heap[b]? = some (.cells (rowCells els ++ tail).toArray e (0, 0)) ∧ b < w.heap.size := by
  have ht : GT.ow w a0 := hh.prs _ (List.mem_cons_self ..)
  obtain ⟨h1, h2, h3, h4, h5⟩ := ht
  obtain ⟨a, cap, e, els, tail⟩ := a0
  dsimp only at h1 h2 h3 h4 h5
  cases a with
  | none =>
    obtain ⟨rfl, rfl⟩ := h4 rfl
    exact .inl ⟨e, tail, rfl⟩
  | some ad =>
    obtain ⟨hs, ho, hb, hl⟩ := h5 ad rfl
    obtain ⟨b, o, sp⟩ := ad
    dsimp only at hs ho hb
    subst hs; subst ho
    exact .inr ⟨b, cap, e, els, tail, rfl, h1, hl, hb, (Array.getElem?_eq_some_iff.1 hb).1⟩
theorem sort_holds {w : World} {key : τ → κ} {enc : κ → Value} (hc : ∀ x : τ, GT.cells x = [enc (key x)]) {b : Nat} {e : TypeId} {els : List τ} {tail : List Value} (hb : w.heap[b]? = some (.cells (rowCells els ++ tail).toArray e (0, 0))) : Sort.Holds enc w b 0 (els.map key).toArray := by
  intro j hj
  have hj' : j < els.length := by simpa using hj
  refine ⟨?_, by simp [World.frozen?, hb]⟩
  simp only [World.cell?, hb, Nat.zero_add]
  simp only [Option.isSome_none, Bool.false_eq_true, if_false]
  rw [List.getElem?_toArray, List.getElem?_append_left (by rw [rowCells_key hc]; simpa using hj'), rowCells_key hc]
  simp [hj']
theorem Spec.sort {P : Program} {f : FuncId} {w : World} {a0 : TL τ} {key : τ → κ} {enc : κ → Value} (hc : ∀ x : τ, GT.cells x = [enc (key x)]) (hfp : ∀ x : τ, GT.fp x = []) (how : ∀ (w : World) (x : τ), GT.ow w x) (ys : List τ) (hlen : ys.length = a0.els.length)
    (h : ∀ (b cap : Nat) (w : World), Sort.Holds enc w b 0 (a0.els.map key).toArray → b < w.heap.size → (a0.els.map key).length < 4611686018427387904 → Calls P f #[.slice (some ⟨b, 0, none⟩) (a0.els.map key).length cap] w fun e w' => e = .returned (.tuple #[]) ∧ ∃ n os, w' = Sort.grow (Sort.putRow enc (Sort.ahead w n) b 0 (ys.map key).toArray) os)
    (h0 : ∀ (p : Option Addr) (cap : Nat) (w : World), Calls P f #[.slice p 0 cap] w fun e w' => e = .returned (.tuple #[]) ∧ w' = w) (hsz : a0.els.length ≤ 4294967296) :
    Spec P f #[a0.hdr] w [treeH a0] (fun v M => ∃ y0 : TL τ, v = .tuple #[] ∧ GT.dat y0 = ys.map GT.dat ∧ M = [treeH y0] ∧ y0.hdr = a0.hdr) := by
  intro hh
  rcases own_cases hh with ⟨e, tail, rfl⟩ | ⟨b, cap, e, els, tail, rfl, h1, hl, hb, hbl⟩
  · have hy : ys = [] := List.length_eq_zero_iff.1 hlen
    subst hy
    refine (h0 none 0 w).mono fun e' w' ⟨he, hw⟩ => ?_
    subst hw
    exact ⟨_, _, he, ⟨⟨none, 0, e, [], tail⟩, rfl, rfl, rfl, rfl⟩, hh⟩
  · dsimp only at hlen h hsz
    have hlm : (els.map key).length = els.length := List.length_map ..
    have := h b cap w (sort_holds hc hb) hbl (by omega)
    rw [hlm] at this
    refine this.mono fun e' w' ⟨he, n, os, hw⟩ => ⟨_, _, he, ⟨⟨some ⟨b, 0, none⟩, cap, e, ys, tail⟩, rfl, rfl, rfl, ?_⟩, put_holds hc hfp how hh (by rw [List.length_map, hlen]) (by rw [rowCells_key hc, List.map_map]; rfl) (by rw [hlen]; exact h1) (by rw [hlen]; exact hl) hw⟩
    show Value.slice _ ys.length _ = Value.slice _ els.length _
    rw [hlen]
end
/-- The sort of numbers, on data. -/
def sortIP (l : List Int) : Option (List Int) := if l.length ≤ 4294967296 then some (l.mergeSort fun x y => decide (x ≤ y)) else none
theorem map_id' {α : Type} (l : List α) : l.map (fun x => x) = l := by simp
theorem Spec.sortI {P : Program} {f : FuncId} (w : World) (a0 : TL Int) (r : List Int) (hp : sortIP (GT.dat a0) = some r)
    (h : ∀ (b off cap : Nat) (zs : List Int) (w : World), Sort.Holds (Value.int .i64) w b off zs.toArray → b < w.heap.size → zs.length < 4611686018427387904 → Calls P f #[.slice (some ⟨b, off, none⟩) zs.length cap] w fun e w' => e = .returned (.tuple #[]) ∧ ∃ n os, w' = Sort.grow (Sort.putRow (Value.int .i64) (Sort.ahead w n) b off (zs.mergeSort fun x y => decide (x ≤ y)).toArray) os)
    (h0 : ∀ (p : Option Addr) (cap : Nat) (w : World), Calls P f #[.slice p 0 cap] w fun e w' => e = .returned (.tuple #[]) ∧ w' = w) :
    Spec P f #[a0.hdr] w [treeH a0] (fun v M => ∃ y0 : TL Int, v = .tuple #[] ∧ GT.dat y0 = r ∧ M = [treeH y0] ∧ y0.hdr = a0.hdr) := by
  unfold sortIP at hp
  have hd : GT.dat a0 = a0.els := by show a0.els.map (fun x => x) = _; simp
  rw [hd] at hp
  split at hp
  · rename_i hl
    obtain rfl := Option.some.inj hp
    have := Spec.sort (P := P) (f := f) (w := w) (a0 := a0) (key := fun x : Int => x) (enc := Value.int .i64) (fun _ => rfl) (fun _ => rfl) (fun _ _ => trivial) (a0.els.mergeSort fun x y => decide (x ≤ y)) (by simp) (by
      intro b cap w h1 h2 h3
      rw [map_id'] at h1 h3 ⊢
      rw [map_id']
      exact h b 0 cap a0.els w h1 h2 h3) h0 hl
    refine this.mono fun v M ⟨y0, h1, h2, h3⟩ => ⟨y0, h1, ?_, h3⟩
    rw [h2]
    exact map_id' _
  · cases hp
end Go.Proofs.SL
namespace Go.Proofs.SL
open Go
inductive EqS (P : Program) (d : Nat) (xs ys : Array Value) : List (TypeId × Nat) → Bool → Prop
  | nil : EqS P d xs ys [] true
  | cons {t : TypeId} {o : Nat} {a b : Value} {r r' : Bool} {fs : List (TypeId × Nat)} (ht : oneOf P t = true) (ha : xs[o]? = some a) (hb : ys[o]? = some b) (he : ∀ w, (Op.equalIn d t a b).run P w = .ok r w) (hs : EqS P d xs ys fs r') : EqS P d xs ys ((t, o) :: fs) (r && r')
end Go.Proofs.SL
namespace Go.Proofs.SL
open Go
section
variable {Γ : Cx} {l : Envl} {M : List HP} {K : Kont} {w0 w : World} {S0 : List Nat}
variable {rest : List Oper} {d : Nat} {ty : TypeId} {pos : String} {af : Array Edge}
end
section
variable {Γ : Cx} {rest : List Oper} {d : Nat} {ty : TypeId} {pos : String} {af : Array Edge}
variable {ops : Array Oper} {Msh pool : List HP} {E : Fl} {rs : List (Option Nat × Rel)} {cs0 : List Nat} {KD : List (Option Nat × Rel) → List Nat → List HP → Prop}
/-- A pointer to a new block. -/
def PtrNew (z : List Value) (T : TypeId) : Rel := fun v M => ∃ b, v = .pointer (some ⟨b, 0, none⟩) ∧ M = [blk b z T]
theorem D_alloc {T : TypeId} {z : List Value} (hz : zeroOf Γ.P T = some z)
    (hk : DV Γ ops Msh pool ((d, PtrNew z T) :: E) ((some d, PtrNew z T) :: rs) cs0 rest KD) :
    DV Γ ops Msh pool E rs cs0 ({ dst := some d, op := .alloc T, type := ty, pos := pos, after := af, guard := none } :: rest) KD := by
  refine DV.mk (PtrNew z T) [] pool [] (by simp) rfl ?_ (by rw [dropE_nil]; exact hk)
  intro a w F Mk _ _ hw hm hfa hcf
  have hMk : Mk = [] := hcf
  subst hMk
  rw [dropE_nil] at hfa
  simp only [List.nil_append] at hw ⊢
  rw [if_pos (by simp [Region.wanted])]
  have h1 : (execOp a.eval { dst := some d, op := .alloc T, type := ty, pos := pos, after := af, guard := none }).run Γ.P w = .ok (.value (.pointer (some ⟨w.heap.size, 0, none⟩))) (w.alloc (.cells z.toArray T (0, 0))) := by
    unfold zeroOf at hz
    split at hz <;> (try cases hz)
    rename_i i hi
    split at hz <;> cases hz
    rename_i z' hz'
    simp [execOp, Instr.alloc, zeroValue, typeInfo, hi, hz', newVar, newRow]
  rw [h1]
  exact ⟨[blk w.heap.size z T], ⟨_, rfl, rfl⟩, Holds.new (show Holds Γ.w0 Γ.S0 F w by simpa using hw) rfl⟩
end
end Go.Proofs.SL
namespace Go.Proofs.SL
open Go
instance : Mk Bool := ⟨fun _ => 1, fun k _ => decide (((k : Int)).tmod 3 = 0)⟩
instance : Bm Bool := ⟨1, fun x => by show 1 ≤ 1 * (1 + 0); omega⟩
end Go.Proofs.SL
namespace Go.Proofs.SL
open Go
variable {Γ : Cx} {l : Envl} {M M1 : List HP} {K : Kont} {w0 w : World} {S0 : List Nat}
variable {rest : List Oper} {d : Nat} {ty : TypeId} {pos : String} {af : Array Edge}
section
variable {τ δ : Type} [GT τ δ]
theorem blk_own [FlatT τ] {b cap : Nat} {e : TypeId} {ts : List τ} {tail : List Value} (h1 : ts.length ≤ cap) (h2 : cap ≤ maxLen) (h3 : ts.length * GT.sz τ + tail.length = cap * GT.sz τ)
    (h : Holds w0 S0 (blk b (rowCells ts ++ tail) e :: M) w) : Holds w0 S0 (treeH (⟨some ⟨b, 0, none⟩, cap, e, ts, tail⟩ : TL τ) :: M) w := by
  have hb : w.heap[b]? = some (.cells (rowCells ts ++ tail).toArray e (0, 0)) := h.prs _ (List.mem_cons_self ..)
  have ef : fps (treeH (⟨some ⟨b, 0, none⟩, cap, e, ts, tail⟩ : TL τ) :: M) = fps (blk b (rowCells ts ++ tail) e :: M) := by
    simp only [fps_cons]
    show ([b] ++ ts.flatMap GT.fp) ++ fps M = [b] ++ fps M
    rw [fps_flat ts fun x _ => FlatT.flat x, List.append_nil]
  refine ⟨h.os, h.tape, h.output, h.size, h.old, fun x hx => ?_, by rw [ef]; exact h.nodup, fun k hk => h.rng k (by rw [← ef]; exact hk)⟩
  rcases List.mem_cons.1 hx with rfl | hx
  · exact ⟨h1, h2, fun x _ => (FlatT.flat x).ow w, fun hn => (by cases hn), fun a ha => by cases ha; exact ⟨rfl, rfl, hb, h3⟩⟩
  · exact h.prs x (List.mem_cons_of_mem _ hx)
/-- A slice of several parts of one kind. -/
theorem L_bsN [FlatT τ] (ts : List τ) {T e sz by_ n : Nat} {z : List Value} {xs : List (Nat × Operand)} {ps : List (Nat × Value)} {r : List δ} (hn : Nat.blt d Γ.n = true) (hx : evp l xs = some ps) (ht : elOf Γ.P T = some (e, sz, by_, z)) (hz : z.length = sz)
    (hsz : GT.sz τ = sz) (h0 : Nat.blt 0 sz = true) (hns : Nat.ble (n * sz) 65536 = true) (hn0 : Nat.blt 0 n = true) (hlen : ts.length = n) (hf : fillL (fun i => some (i * sz, sz)) ((List.range (n * sz)).map fun i => z.getD (i % sz) undef) ps = some (rowCells ts))
    (hr : some (ts.map GT.dat) = some r) (hk : ∀ X : TL τ, GT.dat X = r → L Γ rest ((d, X.hdr) :: l) (treeH X :: M) K) :
    L Γ ({ dst := some d, op := .buildSlice T n xs.toArray, type := ty, pos, after := af, guard := none } :: rest) l M K := by
  have h0' : 0 < sz := Nat.le_of_ble_eq_true h0
  have hns' : n * sz ≤ 65536 := Nat.le_of_ble_eq_true hns
  refine L_buildSlice hn hx ht hz h0' hns' (Nat.le_of_ble_eq_true hn0) hf fun b => ?_
  have hnl : n ≤ 65536 := Nat.le_trans (Nat.le_mul_of_pos_right n h0') hns'
  refine L_conv (M' := treeH (⟨some ⟨b, 0, none⟩, n, e, ts, []⟩ : TL τ) :: M) (fun w h => blk_own (by omega) (by simp only [maxLen]; omega) (by rw [hlen]; simp) (by rw [List.append_nil]; exact h)) ?_
  have := hk ⟨some ⟨b, 0, none⟩, n, e, ts, []⟩ (Option.some.inj hr)
  have eh : (⟨some ⟨b, 0, none⟩, n, e, ts, []⟩ : TL τ).hdr = .slice (some ⟨b, 0, none⟩) n n := by show Value.slice _ ts.length _ = _; rw [hlen]
  rw [eh] at this
  exact this
/-- A made slice, on data. -/
def mkP {δ : Type} (by_ : Nat) (n : Int) (z : δ) : Option (List δ) := if 0 ≤ n ∧ n ≤ 1048576 ∧ n.toNat * by_ ≤ 281474976710656 then some (List.replicate n.toNat z) else none
theorem L_mkP (t0 : τ) {x y : Operand} {T e sz by_ : Nat} {z : List Value} {k k' : IntKind} {n : Int} {r : List δ} (hn : Nat.blt d Γ.n = true) (hx : ev l x = some (.int k n)) (hy : ev l y = some (.int k' n)) (ht : elOf Γ.P T = some (e, sz, by_, z))
    (hz : GT.cells t0 = z) (hsz : GT.sz τ = sz) (hf : Flat t0) (hr : mkP by_ n (GT.dat t0) = some r)
    (hk : ∀ X : TL τ, GT.dat X = r → L Γ rest ((d, X.hdr) :: l) (treeH X :: M) K) :
    L Γ ({ dst := some d, op := .makeSlice T x y, type := ty, pos, after := af, guard := none } :: rest) l M K := by
  unfold mkP at hr
  split at hr
  rotate_left
  · cases hr
  rename_i hb
  obtain ⟨h1, h2, h3⟩ := hb
  obtain ⟨m, rfl⟩ := Int.eq_ofNat_of_zero_le h1
  obtain rfl := Option.some.inj hr
  simp only [Int.toNat_natCast] at *
  refine L_make (n := m) t0 hn hx hy ht hz hsz hf h3 (by simp only [maxLen]; omega) fun g => ?_
  have := hk ⟨some ⟨g, 0, none⟩, m, e, List.replicate m t0, []⟩ (by rw [dat_els]; simp)
  have eh : (⟨some ⟨g, 0, none⟩, m, e, List.replicate m t0, []⟩ : TL τ).hdr = .slice (some ⟨g, 0, none⟩) m m := by show Value.slice _ (List.replicate m t0).length _ = _; rw [List.length_replicate]
  rw [eh] at this
  exact this
end
/-- A byte out of a number. -/
def u8P (n : Int) : Option UInt8 := if 0 ≤ n ∧ n < 256 then some (UInt8.ofNat n.toNat) else none
theorem u8P_some {n : Int} {b : UInt8} (h : u8P n = some b) : n = (b.toNat : Int) := by
  unfold u8P at h
  split at h
  · rename_i hb
    obtain rfl := Option.some.inj h
    rw [UInt8.toNat_ofNat']
    omega
  · cases h
theorem strOf_bytes (xs : List UInt8) : strOf (xs.map fun b => (b.toNat : Int)) = ⟨xs.toArray⟩ := by
  have h : ∀ (xs : List UInt8) (s : ByteArray), (xs.map fun b => (b.toNat : Int)).foldl (fun r n => r.push (UInt8.ofNat n.toNat)) s = ⟨s.data ++ xs.toArray⟩ := by
    intro xs
    induction xs with
    | nil => intro s; simp
    | cons x xs ih =>
      intro s
      rw [List.map_cons, List.foldl_cons, ih]
      congr 1
      show (s.push _).data ++ _ = _
      simp [ByteArray.push]
  unfold strOf
  rw [h]
  simp
/-- The string of some bytes. -/
def strP (xs : List UInt8) : ByteArray := ⟨xs.toArray⟩
theorem run_bytesNone {P : Program} (w : World) (len cap : Nat) : (Conv.bytesToString (.slice none len cap)).run P w = .ok (.string ByteArray.empty) w := by
  simp [Conv.bytesToString]
theorem L_toStr {x : Operand} {S T e : Nat} {X : TL UInt8} (hn : Nat.blt d Γ.n = true) (hx : ev l x = some X.hdr) (hS : Γ.P.underlying S = some (.slice e)) (he : Γ.P.underlying e = some (.int .u8)) (hT : Γ.P.underlying T = some .string)
    (hR : RdT Γ M X) (hk : L Γ rest ((d, .string (strP (GT.dat X))) :: l) M K) :
    L Γ ({ dst := some d, op := .convert S T x, type := ty, pos := pos, after := af, guard := none } :: rest) l M K := by
  obtain ⟨a, cap, e', els, tail⟩ := X
  have hd : GT.dat (⟨a, cap, e', els, tail⟩ : TL UInt8) = els := map_id' els
  rw [hd] at hk
  cases a with
  | none =>
    refine L_pure hn (fun a' w ha hw => ?_) hk
    have h1 := hR w hw.sees
    have he0 : els = [] := h1.2.2.2.1 rfl
    subst he0
    have h2 := ha.eval hx
    simp only [execOp, h2, Sem.run_bind]
    show ((convert S T (.slice none _ _)).run Γ.P w).andThen _ = _
    rw [run_convert_bytes_string w S T e _ _ _ hS he hT, run_bytesNone]
    rfl
  | some ad =>
    refine L_pure hn (fun a' w ha hw => ?_) hk
    have h1 := hR w hw.sees
    have h2 := ha.eval hx
    obtain ⟨h3, h4⟩ := h1.2.2.2.2 ad rfl
    simp only [execOp, h2, Sem.run_bind]
    show ((convert S T (.slice (some ad) els.length cap)).run Γ.P w).andThen _ = _
    rw [run_convert_bytes_string w S T e _ _ _ hS he hT]
    have hrow : ∀ xs : List UInt8, rowCells xs = xs.map fun b => Value.int .u8 (b.toNat : Int) := by
      intro xs
      induction xs with
      | nil => rfl
      | cons x xs ih => rw [rowCells_cons, ih]; rfl
    have hl : (loadCells ad els.length).run Γ.P w = .ok ((els.map fun b => (b.toNat : Int)).map (Value.int .u8)).toArray w := by
      by_cases hz : els = []
      · subst hz
        simp [loadCells, loadCellsFrom]
      · have hs := h3 hz
        obtain ⟨blk, off, sp⟩ := ad
        dsimp only at hs
        subst hs
        have := run_loadCells_at (P := Γ.P) (g := blk) (off := off) (cs := rowCells els) (w := w) (fun j v hv => by
          have := h4 j v hv
          exact this.1)
        rw [length_rowCells, show GT.sz UInt8 = 1 from rfl, Nat.mul_one, hrow] at this
        rw [this, List.map_map]; rfl
    have hb := run_bytesToString (P := Γ.P) w ad els.length cap (els.map fun b => (b.toNat : Int)) hl
    have e1 := strOf_bytes els
    unfold strOf at e1
    rw [hb, e1]
    rfl
end Go.Proofs.SL
namespace Go.Proofs.SL
open Go
section
variable {Γ : Cx} {rest : List Oper} {d : Nat} {ty : TypeId} {pos : String} {af : Array Edge} {gd : Option (Nat × Bool)}
variable {ops : Array Oper} {Msh pool : List HP} {E : Fl} {rs : List (Option Nat × Rel)} {cs0 : List Nat} {KD : List (Option Nat × Rel) → List Nat → List HP → Prop}
end
end Go.Proofs.SL
namespace Go.Proofs.SL
open Go
/-- An array of ints, as loops and contracts hand it on. -/
structure AR where
  l : List Int
instance : GT AR (List Int) where
  sz := 1
  pos := by decide
  cells _ := [.int .i64 0]
  len _ := rfl
  one _ v hv := by simp at hv; subst hv; rfl
  rd _ _ _ := True
  fp _ := []
  ow _ _ := True
  dat t := t.l
  rd_mono h _ := h
  ow_st _ h := h
  ow_rd _ _ := trivial
theorem dat_ar (x : AR) : GT.dat x = x.l := rfl
def aC (k : IntKind) (l : List Int) : List Value := l.map (Value.int k)
variable {Γ : Cx} {l : Envl} {M : List HP} {K : Kont} {w0 w : World} {S0 : List Nat} {rest : List Oper} {d : Nat} {ty : TypeId} {pos : String} {af : Array Edge}
section
variable {k : IntKind} {A A' : List Int}
end
/-! A variable of the package that is only read: block g, ints. -/
structure GA (g : Nat) (k : IntKind) (A : List Int) where mk ::
instance (g : Nat) (k : IntKind) (A : List Int) : GT (GA g k A) Unit where
  sz := 1
  pos := by decide
  cells _ := [.int .i64 0]
  len _ := rfl
  one _ v hv := by simp at hv; subst hv; rfl
  rd w S _ := ∀ j v, (aC k A)[j]? = some v → Old w S ⟨g, j, none⟩ v
  fp _ := []
  ow _ _ := False
  dat _ := ()
  rd_mono h hm := fun j v hv => hm _ _ (h j v hv)
  ow_st _ h := h
  ow_rd h _ := h.elim
/-! In a drawn region -/
variable {ops : Array Oper} {Msh pool : List HP} {E : Fl} {rs : List (Option Nat × Rel)} {cs0 : List Nat} {KD : List (Option Nat × Rel) → List Nat → List HP → Prop} {gd : Option (Nat × Bool)}
section
variable {k : IntKind} {A A' : List Int} {c : Prop}
theorem D_xorU {x : Operand} {T : TypeId} {n : Int} (hg : GC ops E { dst := some d, op := .unOp .xor T x, type := ty, pos := pos, after := af, guard := gd } c)
    (hx : OpV E x c (.int k n)) (hk : DV Γ ops Msh pool ((d, FC c (.int k (bits .xor k (if k.signed then -1 else k.max) n))) :: E) ((some d, FC c (.int k (bits .xor k (if k.signed then -1 else k.max) n))) :: rs) cs0 rest KD) :
    DV Γ ops Msh pool E rs cs0 ({ dst := some d, op := .unOp .xor T x, type := ty, pos := pos, after := af, guard := gd } :: rest) KD :=
  DV_pure c _ hg (fun a w F hc hf hs => by
    have e1 := hx.eval hf (by simp [Op.operands]) hc
    simp [execOp, e1, Op.unary, intBits_xor]) hk
end
end Go.Proofs.SL
namespace Go.Proofs.SL
open Go
theorem run_toStr {P : Program} {S T e : Nat} {X : TL UInt8} {w : World} (hS : P.underlying S = some (.slice e)) (he : P.underlying e = some (.int .u8)) (hT : P.underlying T = some .string) (h1 : GT.rd w [] X) :
    (convert S T X.hdr).run P w = .ok (.string (strP (GT.dat X))) w := by
  obtain ⟨a, cap, e', els, tail⟩ := X
  have hd : GT.dat (⟨a, cap, e', els, tail⟩ : TL UInt8) = els := map_id' els
  rw [hd]
  cases a with
  | none =>
    have he0 : els = [] := h1.2.2.2.1 rfl
    subst he0
    show (convert S T (.slice none _ _)).run P w = _
    rw [run_convert_bytes_string w S T e _ _ _ hS he hT, run_bytesNone]
    rfl
  | some ad =>
    obtain ⟨h3, h4⟩ := h1.2.2.2.2 ad rfl
    show (convert S T (.slice (some ad) els.length cap)).run P w = _
    rw [run_convert_bytes_string w S T e _ _ _ hS he hT]
    have hrow : ∀ xs : List UInt8, rowCells xs = xs.map fun b => Value.int .u8 (b.toNat : Int) := by
      intro xs
      induction xs with
      | nil => rfl
      | cons x xs ih => rw [rowCells_cons, ih]; rfl
    have hl : (loadCells ad els.length).run P w = .ok ((els.map fun b => (b.toNat : Int)).map (Value.int .u8)).toArray w := by
      by_cases hz : els = []
      · subst hz
        simp [loadCells, loadCellsFrom]
      · have hs := h3 hz
        obtain ⟨blk, off, sp⟩ := ad
        dsimp only at hs
        subst hs
        have := run_loadCells_at (P := P) (g := blk) (off := off) (cs := rowCells els) (w := w) (fun j v hv => by
          have := h4 j v hv
          exact this.1)
        rw [length_rowCells, show GT.sz UInt8 = 1 from rfl, Nat.mul_one, hrow] at this
        rw [this, List.map_map]; rfl
    have hb := run_bytesToString (P := P) w ad els.length cap (els.map fun b => (b.toNat : Int)) hl
    have e1 := strOf_bytes els
    unfold strOf at e1
    rw [hb, e1]
    rfl
variable {Γ : Cx} {rest : List Oper} {d : Nat} {ty : TypeId} {pos : String} {af : Array Edge}
variable {ops : Array Oper} {Msh pool : List HP} {E : Fl} {rs : List (Option Nat × Rel)} {cs0 : List Nat} {KD : List (Option Nat × Rel) → List Nat → List HP → Prop}
theorem D_toStrO {t S T e : Nat} {r : List UInt8} (hR : E.lookup t = some (OwnV (τ := UInt8) r)) (hS : Γ.P.underlying S = some (.slice e)) (he : Γ.P.underlying e = some (.int .u8)) (hT : Γ.P.underlying T = some .string)
    (hlin : linB ops { dst := some d, op := .convert S T (.tmp t), type := ty, pos := pos, after := af, guard := none } [t] = true)
    (hk : DV Γ ops Msh pool ((d, FC True (.string (strP r))) :: dropE [t] E) ((some d, FC True (.string (strP r))) :: rs) ([t] ++ cs0) rest KD) :
    DV Γ ops Msh pool E rs cs0 ({ dst := some d, op := .convert S T (.tmp t), type := ty, pos := pos, after := af, guard := none } :: rest) KD := by
  refine DV.mk (FC True (.string (strP r))) [] pool ([t]) (by simp) hlin ?_ hk
  intro a w F Mk _ _ hw hm hfa hcf
  obtain ⟨Mx, Mk', rfl, hRR, hnil⟩ := hcf
  have hnil : Mk' = [] := hnil
  subst hnil
  obtain ⟨X, hv, hd, rfl⟩ := hRR _ hR
  rw [if_pos (by simp [Region.wanted])]
  have hw1 : Holds Γ.w0 Γ.S0 (treeH X :: F) w := by simpa using hw
  have h1 := run_toStr (P := Γ.P) hS he hT (rd_of_tree (List.mem_cons_self ..) hw1.sees)
  have hv' : a.eval (.tmp t) = X.hdr := hv
  have h3 : (execOp a.eval { dst := some d, op := .convert S T (.tmp t), type := ty, pos := pos, after := af, guard := none }).run Γ.P w = .ok (.value (.string (strP r))) w := by
    rw [← hd]
    generalize X.hdr = u at *
    simp [execOp, hv', h1]
  rw [h3]
  exact ⟨[], ⟨rfl, fun _ => rfl, fun hn => (hn trivial).elim⟩, by simpa using hw1.sub ⟨[treeH X], by
    show List.Perm (treeH X :: F) (F ++ [treeH X])
    exact (List.perm_append_comm (l₁ := [treeH X]) (l₂ := F))⟩⟩
end Go.Proofs.SL
namespace Go.Proofs.SL
open Go
variable {Γ : Cx} {rest : List Oper} {d : Nat} {ty : TypeId} {pos : String} {af : Array Edge}
variable {ops : Array Oper} {Msh pool pool' : List HP} {E : Fl} {rs : List (Option Nat × Rel)} {cs0 : List Nat} {KD : List (Option Nat × Rel) → List Nat → List HP → Prop}
variable {τ δ : Type} [GT τ δ]
theorem OpV.g0 {g : Nat} {c : Prop} : OpV E (.global g) c (.pointer (some ⟨g, 0, none⟩)) := rfl
theorem D_bsN [FlatT τ] (ts : List τ) {T e sz by_ n : Nat} {z : List Value} {xs : List (Nat × Operand)} {ps : List (Nat × Value)} {r : List δ} (hx : OpVp E xs ps) (ht : elOf Γ.P T = some (e, sz, by_, z)) (hz : z.length = sz)
    (hsz : GT.sz τ = sz) (h0 : Nat.blt 0 sz = true) (hns : Nat.ble (n * sz) 65536 = true) (hn0 : Nat.blt 0 n = true) (hlen : ts.length = n) (hf : fillL (fun i => some (i * sz, sz)) ((List.range (n * sz)).map fun i => z.getD (i % sz) undef) ps = some (rowCells ts))
    (hr : some (ts.map GT.dat) = some r) (hk : DV Γ ops Msh pool ((d, OwnV (τ := τ) r) :: E) ((some d, OwnV (τ := τ) r) :: rs) cs0 rest KD) :
    DV Γ ops Msh pool E rs cs0 ({ dst := some d, op := .buildSlice T n xs.toArray, type := ty, pos := pos, after := af, guard := none } :: rest) KD := by
  have h0' : 0 < sz := Nat.le_of_ble_eq_true h0
  have hns' : n * sz ≤ 65536 := Nat.le_of_ble_eq_true hns
  have hnl : n ≤ 65536 := Nat.le_trans (Nat.le_mul_of_pos_right n h0') hns'
  refine DV.mk (OwnV (τ := τ) r) [] pool [] (by simp) rfl ?_ (by rw [dropE_nil]; exact hk)
  intro a w F Mk _ _ hw hm hfa hcf
  have hMk : Mk = [] := hcf
  subst hMk
  rw [dropE_nil] at hfa
  simp only [List.nil_append] at hw ⊢
  rw [if_pos (by simp [Region.wanted])]
  have h1 : xs.toArray.map (fun (i, x) => (i, a.eval x)) = ps.toArray := by
    have := OpVp.evals (o := { dst := some d, op := .buildSlice T n xs.toArray, type := ty, pos := pos, after := af, guard := none }) hfa xs ps hx (fun x hx => by simp [Op.operands]; exact ⟨_, hx⟩)
    rw [← this]; simp
  have hrun := run_buildSlice (P := Γ.P) (w := w) ht hz h0' hns' (Nat.le_of_ble_eq_true hn0) hf
  have h3 : (execOp a.eval { dst := some d, op := .buildSlice T n xs.toArray, type := ty, pos := pos, after := af, guard := none }).run Γ.P w = .ok (.value (.slice (some ⟨w.heap.size, 0, none⟩) n n)) (w.alloc (.cells (rowCells ts).toArray e (0, 0))) := by
    simp only [execOp, h1]
    simp [hrun]
  rw [h3]
  have eh : (⟨some ⟨w.heap.size, 0, none⟩, n, e, ts, []⟩ : TL τ).hdr = .slice (some ⟨w.heap.size, 0, none⟩) n n := by show Value.slice _ ts.length _ = _; rw [hlen]
  have hw2 : Holds Γ.w0 Γ.S0 F w := by simpa using hw
  refine ⟨[treeH (⟨some ⟨w.heap.size, 0, none⟩, n, e, ts, []⟩ : TL τ)], ⟨_, eh.symm, Option.some.inj hr, rfl⟩, ?_⟩
  have h5 := hw2.new (b := w.heap.size) (cs := rowCells ts) (T := e) rfl
  exact blk_own (by omega) (by simp only [maxLen]; omega) (by rw [hlen]; simp) (by rw [List.append_nil]; exact h5)
end Go.Proofs.SL
namespace Go.Proofs.SL
open Go
variable {Γ : Cx} {rest : List Oper} {d : Nat} {ty : TypeId} {pos : String} {af : Array Edge} {l : Envl} {M : List HP} {K : Kont}
def cxs (ns : List Int) : List (Nat × Operand) := ns.zipIdx.map fun q => (q.2, .const (.int .i64 q.1))
def cps (ns : List Int) : List (Nat × Value) := ns.zipIdx.map fun q => (q.2, .int .i64 q.1)
/-- A long slice of constants. -/
theorem L_bsNC (ns : List Int) {T e by_ n : Nat} {z : List Value} {o : Op} (hn : Nat.blt d Γ.n = true) (ho : o = .buildSlice T n (cxs ns).toArray) (hx : evp l (cxs ns) = some (cps ns)) (ht : elOf Γ.P T = some (e, 1, by_, z)) (hz : z.length = 1)
    (hns : Nat.ble (n * 1) 65536 = true) (hn0 : Nat.blt 0 n = true) (hlen : ns.length = n) (hf : fillL (fun i => some (i * 1, 1)) ((List.range (n * 1)).map fun i => z.getD (i % 1) undef) (cps ns) = some (rowCells ns))
    (hk : ∀ X : TL Int, GT.dat X = ns → L Γ rest ((d, X.hdr) :: l) (treeH X :: M) K) :
    L Γ ({ dst := some d, op := o, type := ty, pos, after := af, guard := none } :: rest) l M K := by
  subst ho
  exact L_bsN (τ := Int) ns hn hx ht hz rfl rfl hns hn0 hlen hf (congrArg some (show ns.map (fun x : Int => x) = ns from List.map_id' ns)) hk
end Go.Proofs.SL
namespace Go.Proofs.SL
open Go
variable {Γ : Cx} {rest : List Oper} {d : Nat} {ty : TypeId} {pos : String} {af : Array Edge} {gd : Option (Nat × Bool)}
variable {ops : Array Oper} {Msh pool : List HP} {E : Fl} {rs : List (Option Nat × Rel)} {cs0 : List Nat} {KD : RKont}
end Go.Proofs.SL
namespace Go.Proofs.SL
open Go
section
variable {Γ : Cx} {rest : List Oper} {d : Nat} {ty : TypeId} {pos : String} {af : Array Edge}
variable {ops : Array Oper} {Msh pool : List HP} {E : Fl} {rs : List (Option Nat × Rel)} {cs0 : List Nat} {KD : RKont}
end
section
variable {Γ : Cx} {rest : List Oper} {d : Nat} {ty : TypeId} {pos : String} {af : Array Edge} {gd : Option (Nat × Bool)}
variable {ops : Array Oper} {Msh pool : List HP} {E : Fl} {rs : List (Option Nat × Rel)} {cs0 : List Nat} {KD : RKont}
end
end Go.Proofs.SL
namespace Go.Proofs.SL
open Go
section
variable {Γ : Cx} {l : Envl} {M M1 M2 F : List HP} {Q : Post} {K : Kont} {w0 w : World} {S0 : List Nat}
variable {rest : List Oper} {d : Nat} {ty : TypeId} {pos : String} {af : Array Edge}
variable {τ δ : Type} [GT τ δ]
end
section
variable {Γ : Cx} {rest : List Oper} {d : Nat} {ty : TypeId} {pos : String} {af : Array Edge}
variable {ops : Array Oper} {Msh pool pool' : List HP} {E : Fl} {rs : List (Option Nat × Rel)} {cs0 : List Nat} {KD : RKont}
variable {τ τ' δ δ' : Type} [GT τ δ] [GT τ' δ']
end
section
variable {Γ : Cx} {rest : List Oper} {d : Nat} {ty : TypeId} {pos : String} {af : Array Edge}
variable {ops : Array Oper} {Msh pool pool' : List HP} {E : Fl} {rs : List (Option Nat × Rel)} {cs0 : List Nat} {KD : RKont}
variable {τ δ : Type} [GT τ δ]
end
section
variable {Γ : Cx} {rest : List Oper} {d : Nat} {ty : TypeId} {pos : String} {af : Array Edge} {gd : Option (Nat × Bool)}
variable {ops : Array Oper} {Msh pool pool' : List HP} {E : Fl} {rs : List (Option Nat × Rel)} {cs0 : List Nat} {KD : RKont}
/-- A part that runs where the guard lets it; else a given answer. -/
def gm {α : Type} (g : Bool) (d : α) (o : Option α) : Option α := cond g o (some d)
@[simp] theorem gm_true {α : Type} {d : α} {o : Option α} : gm true d o = o := rfl
@[simp] theorem gm_false {α : Type} {d : α} {o : Option α} : gm false d o = some d := rfl
end
section
variable {Γ : Cx} {rest : List Oper} {d : Nat} {ty : TypeId} {pos : String} {af : Array Edge}
variable {ops : Array Oper} {Msh pool pool' : List HP} {E : Fl} {rs : List (Option Nat × Rel)} {cs0 : List Nat} {KD : RKont}
variable {τ δ : Type} [GT τ δ]
end
section
variable {Γ : Cx} {rest : List Oper} {d : Nat} {ty : TypeId} {pos : String} {af : Array Edge} {gd : Option (Nat × Bool)}
variable {ops : Array Oper} {Msh pool pool' : List HP} {E : Fl} {rs : List (Option Nat × Rel)} {cs0 : List Nat} {KD : RKont}
variable {τ δ : Type} [GT τ δ]
end
end Go.Proofs.SL
namespace Go.Proofs.SL
open Go
/-! Facts of a program's tables, found by their places -/
class FldF (P : Program) (T f : Nat) (o : outParam Nat) : Prop where h : fldOf P T f = some o
class OneF (P : Program) (T : Nat) : Prop where h : oneOf P T = true
class AggF (P : Program) (T : Nat) (n : outParam Nat) : Prop where h : aggOf P T = some n
class ElF (P : Program) (T : Nat) (e sz by_ : outParam Nat) (z : outParam (List Value)) : Prop where h : elOf P T = some (e, sz, by_, z)
class ZerF (P : Program) (T : Nat) (z : outParam (List Value)) : Prop where h : zeroOf P T = some z
class StrF (P : Program) (T : Nat) : Prop where h : isStr P T = true
class FnF (P : Program) (f : Nat) : Prop where h : IsFn P f
class BldF (P : Program) (T : Nat) (pl : outParam (List (Nat × Nat))) (z : outParam (List Value)) : Prop where h : bldOf P T = some (pl, z)
class UndF (P : Program) (T : Nat) (d : outParam TypeDesc) : Prop where h : P.underlying T = some d
/-! Parts and slots -/
theorem ba {α β : Type} {o : Option α} {k : α → Option β} {r : β} (h : Option.bind o k = some r) : ∃ y, o = some y ∧ k y = some r := bind_any h
theorem pk {h : HP} {M M' : List HP} (p : Pick h M M' := by first | (with_reducible repeat (first | exact Pick.here _ | apply Pick.there)); done | (repeat (first | exact Pick.here _ | apply Pick.there))) : Pick h M M' := p
theorem mm {h : HP} {M : List HP} (p : h ∈ M := by first | (with_reducible repeat (first | exact List.Mem.head _ | apply List.Mem.tail)); done | (repeat (first | exact List.Mem.head _ | apply List.Mem.tail))) : h ∈ M := p
theorem sb {l' l : Envl} (h : Sub l' l := by repeat (first | exact Sub.nil _ | (apply Sub.cons; (· exact rfl)))) : Sub l' l := h
theorem ms {M' M : List HP} (h : MSub M' M := by repeat (first | exact MSub.nil _ | (apply MSub.cons; (· exact pk)))) : MSub M' M := h
theorem pc {M Ms R : List HP} (h : List.Perm M (Ms ++ R) := by repeat (first | exact perm_nil_left _ | (apply perm_cons; (· exact pk)))) : List.Perm M (Ms ++ R) := h
theorem bv {P : Program} {op : BinOp} {T : TypeId} {x y : Operand} {u v r : Value} (h : BinV P op T x y u v r := by
  first
    | (with_reducible first | exact bv_add | exact bv_eql | exact bv_lss | exact bv_sub | exact bv_neq | exact bv_geq | exact bv_gtr | exact bv_leq | exact bv_seql | exact bv_sneq | exact bv_slss | exact bv_sgeq | exact bv_sgtr | exact bv_sleq | exact bv_mul | exact bv_and | exact bv_or | exact bv_xor)
    | ((with_reducible refine bv_beql ?_); exact UndF.h) | ((with_reducible refine bv_bneq ?_); exact UndF.h) | ((with_reducible refine bv_quo ?_); decide) | ((with_reducible refine bv_rem ?_); decide)
    | ((with_reducible refine bv_shl ?_ ?_) <;> decide) | ((with_reducible refine bv_shr ?_ ?_) <;> decide)) : BinV P op T x y u v r := h
theorem ocs {cs : List Value} (h : ∀ v, v ∈ cs → v.oneCell' = true := by first | exact allOne rfl | exact fun v hv => GT.one _ v hv | (simp [Value.oneCell', TL.hdr, Value.cells]; done)) : ∀ v, v ∈ cs → v.oneCell' = true := h
section
variable {Γ : Cx} {l : Envl} {M M' : List HP} {Q : Post} {K : Kont} {rest : List Oper} {d : Nat} {ty : TypeId} {pos : String} {af : Array Edge}
inductive Kp : List Nat → Envl → Envl → Prop
  | nil (l : Envl) : Kp [] l []
  | cons {t : Nat} {v : Value} {ts : List Nat} {l l' : Envl} (h : l.lookup t = some v) (hk : Kp ts l l') : Kp (t :: ts) l ((t, v) :: l')
theorem Kp.sub {ts : List Nat} {l l' : Envl} (h : Kp ts l l') : Sub l' l := by
  induction h with
  | nil l => exact Sub.nil _
  | cons h _ ih => exact Sub.cons h ih
/-- Some slots are kept. -/
theorem kp (ts : List Nat) {c : Code} {l' : Envl} (k : W Γ c l' M Q) (h : Kp ts l l' := by repeat (first | exact Kp.nil _ | (apply Kp.cons; (· exact rfl)))) : W Γ c l M Q := W_weaken h.sub (MSub.refl _) k
theorem kq (ts : List Nat) {c : Code} {l' : Envl} (k : W Γ c l' M' Q) (h : Kp ts l l' := by repeat (first | exact Kp.nil _ | (apply Kp.cons; (· exact rfl)))) (hm : M = M' := by (try simp only [List.cons_append, List.nil_append]); exact rfl) : W Γ c l M Q := W_weaken h.sub (hm ▸ MSub.refl _) k
theorem al {T : TypeId} {z : List Value} [hz : ZerF Γ.P T z] (hk : ∀ b, L Γ rest ((d, .pointer (some ⟨b, 0, none⟩)) :: l) (blk b z T :: M) K) (hn : Nat.blt d Γ.n = true := by exact rfl) :
    L Γ ({ dst := some d, op := .alloc T, type := ty, pos, after := af, guard := none } :: rest) l M K := L_alloc hn hz.h hk
theorem bx {x : Operand} {T : TypeId} {v : Value} (hk : ∀ b, L Γ rest ((d, .pointer (some ⟨b, 0, none⟩)) :: l) (blk b v.cells.toList T :: M) K) (hn : Nat.blt d Γ.n = true := by exact rfl) (hx : ev l x = some v := by exact rfl) :
    L Γ ({ dst := some d, op := .box T x, type := ty, pos, after := af, guard := none } :: rest) l M K := L_box hn hx hk
end
section
variable {w0 w : World} {S0 : List Nat} {M M' M1 M2 : List HP}
/-- A tree made of parts that are there; what is left. -/
def Own {τ δ : Type} [GT τ δ] (M : List HP) (t : τ) (M' : List HP) : Prop := ∀ (w0 : World) (S0 : List Nat) (w : World) (F : List HP), Holds w0 S0 (M ++ F) w → Holds w0 S0 (treeH t :: (M' ++ F)) w
theorem own_pick {τ δ : Type} [GT τ δ] {t : τ} (p : Pick (treeH t) M M') : Own M t M' := fun _ _ _ F h => h.perm (p.perm.append_right F)
theorem own_flat {τ δ : Type} [GT τ δ] {t : τ} (p : Flat t) : Own M t M := fun _ _ _ _ h => h.addFlat p
theorem own_int {n : Int} : Own M n M := own_flat (flat_int trivial)
theorem own_bool {n : Bool} : Own M n M := own_flat (flat_bool _)
theorem own_str {n : ByteArray} : Own M n M := own_flat (flat_str trivial)
theorem own_nil {τ δ : Type} [GT τ δ] {e : TypeId} : Own M (TL.nil τ e) M := own_flat (flat_nil e)
theorem own_pair {α β δ ε : Type} [GT α δ] [GT β ε] {a : α} {b : β} (ha : Own M a M1) (hb : Own M1 b M2) : Own M (a, b) M2 := fun w0 S0 w F h => by
  have h1 := ha w0 S0 w F h
  have h2 : Holds w0 S0 (M1 ++ (treeH a :: F)) w := h1.perm List.perm_middle.symm
  have h3 := hb w0 S0 w _ h2
  have h4 : Holds w0 S0 (treeH a :: treeH b :: (M2 ++ F)) w := h3.perm ((List.perm_middle.cons _).trans (List.Perm.swap _ _ _))
  exact pair_tree h4
theorem ow {τ δ : Type} [GT τ δ] {t : τ} (o : Own M t M' := by repeat (first | (with_reducible exact own_int) | (with_reducible exact own_bool) | (with_reducible exact own_str) | (with_reducible exact own_nil) | (with_reducible apply own_pair) | ((with_reducible apply own_pick); exact pk))) : Own M t M' := o
theorem Own.h {τ δ : Type} [GT τ δ] {t : τ} (o : Own M t M') (h : Holds w0 S0 M w) : Holds w0 S0 (treeH t :: M') w := by
  have := o w0 S0 w [] (by simpa using h)
  simpa using this
/-- A tree taken apart. -/
def Exp {τ δ : Type} [GT τ δ] (t : τ) (M M' : List HP) : Prop := ∀ (w0 : World) (S0 : List Nat) (w : World) (F : List HP), Holds w0 S0 (treeH t :: (M ++ F)) w → Holds w0 S0 (M' ++ F) w
theorem exp_flat {τ δ : Type} [GT τ δ] {t : τ} : Exp t M M := fun _ _ _ F h => h.sub ⟨[treeH t], List.perm_append_comm (l₁ := [treeH t]) (l₂ := M ++ F)⟩
theorem exp_int {n : Int} : Exp n M M := exp_flat
theorem exp_bool {n : Bool} : Exp n M M := exp_flat
theorem exp_str {n : ByteArray} : Exp n M M := exp_flat
theorem exp_leaf {τ δ : Type} [GT τ δ] {t : TL τ} : Exp t M (treeH t :: M) := fun _ _ _ _ h => h
theorem exp_pair {α β δ ε : Type} [GT α δ] [GT β ε] {a : α} {b : β} (hb : Exp b M M1) (ha : Exp a M1 M2) : Exp (a, b) M M2 := fun w0 S0 w F h => by
  have h1 := tree_pair h
  have h2 : Holds w0 S0 (treeH b :: (M ++ (treeH a :: F))) w := h1.perm ((List.Perm.swap _ _ _).trans (List.perm_middle.symm.cons _))
  have h3 := hb w0 S0 w _ h2
  exact ha w0 S0 w F (h3.perm List.perm_middle)
theorem ex {τ δ : Type} [GT τ δ] {t : τ} (o : Exp t M M' := by repeat (first | (with_reducible exact exp_int) | (with_reducible exact exp_bool) | (with_reducible exact exp_str) | (with_reducible apply exp_pair) | (with_reducible exact exp_leaf))) : Exp t M M' := o
theorem Exp.h {τ δ : Type} [GT τ δ] {t : τ} (o : Exp t M1 M') (p : Pick (treeH t) M M1) (h : Holds w0 S0 M w) : Holds w0 S0 M' w := by
  have := o w0 S0 w [] (by simpa using h.perm p.perm)
  simpa using this
variable {Γ : Cx} {l : Envl} {Q : Post} {K : Kont} {c : Code} {r : List Oper}
theorem jW {τ δ : Type} [GT τ δ] (t : τ) (k : W Γ c l (treeH t :: M') Q) (o : Own M t M' := by exact ow) : W Γ c l M Q := W_conv (fun _ h => o.h h) k
theorem jL {τ δ : Type} [GT τ δ] (t : τ) (k : L Γ r l (treeH t :: M') K) (o : Own M t M' := by exact ow) : L Γ r l M K := L_conv (fun _ h => o.h h) k
theorem xW {τ δ : Type} [GT τ δ] (t : τ) (k : W Γ c l M' Q) (p : Pick (treeH t) M M1 := by exact pk) (o : Exp t M1 M' := by exact ex) : W Γ c l M Q := W_conv (fun _ h => o.h p h) k
theorem xL {τ δ : Type} [GT τ δ] (t : τ) (k : L Γ r l M' K) (p : Pick (treeH t) M M1 := by exact pk) (o : Exp t M1 M' := by exact ex) : L Γ r l M K := L_conv (fun _ h => o.h p h) k
end
theorem dd {a b : Prop} (h : a) (e : a → b := by (intro h; (try dsimp only [dat_pair, dat_int, dat_bool, dat_str, dat_ar] at h); exact h)) : b := e h
theorem sc {p q : Prop} (k : q) (e : q → p := by (intro k; (simp only [cells_pair, cells_int, cells_bool, cells_str, cells_TL, List.cons_append, List.nil_append]); exact k)) : p := e k
section
variable {ops : Array Oper} {E : Fl}
theorem gc {o : Oper} {c : Prop} (h : GC ops E o c := by first | exact GC.none | exact GC.some rfl rfl) : GC ops E o c := h
theorem ov {x : Operand} {c : Prop} {v : Value} (h : OpV E x c v := by first | exact OpV.c | exact OpV.t rfl | exact OpV.s rfl) : OpV E x c v := h
end
theorem L_extractL {Γ : Cx} {l : Envl} {M : List HP} {K : Kont} {rest : List Oper} {d : Nat} {ty : TypeId} {pos : String} {af : Array Edge} {x : Operand} {i : Nat} {vs : List Value} {v : Value} (hn : Nat.blt d Γ.n = true) (hx : ev l x = some (.tuple vs.toArray)) (hv : vs[i]? = some v) (hk : L Γ rest ((d, v) :: l) M K) :
    L Γ ({ dst := some d, op := .extract x i, type := ty, pos, after := af, guard := none } :: rest) l M K := L_extract hn hx (by simpa using hv) hk
theorem isLen {Γ : Cx} {l : Envl} {M : List HP} {K : Kont} {rest : List Oper} {d : Option Nat} {ty : TypeId} {pos : String} {af : Array Edge} {g : Option (Nat × Bool)} {x : Array Operand} {T : Array TypeId} (h : L Γ ({ dst := d, op := .call { callee := .builtin .len, args := x, argTypes := T }, type := ty, pos := pos, after := af, guard := g } :: rest) l M K) :
    L Γ ({ dst := d, op := .call { callee := .builtin .len, args := x, argTypes := T }, type := ty, pos := pos, after := af, guard := g } :: rest) l M K := h
section
variable {Γ : Cx} {l : Envl} {M : List HP} {K : Kont} {Q : Post} {c : Code} {r : List Oper} {ops : Array Oper} {Msh pool : List HP} {E : Fl} {rs : List (Option Nat × Rel)} {cs0 : List Nat} {KD : RKont}
theorem isL (h : L Γ r l M K) : L Γ r l M K := h
theorem isW (h : W Γ c l M Q) : W Γ c l M Q := h
theorem isD (h : DV Γ ops Msh pool E rs cs0 r KD) : DV Γ ops Msh pool E rs cs0 r KD := h
end
/-- One step that needs no word. -/
theorem s1 {p q : Prop} (k : q) (h : q → p := by
  intro k
  (first
    | (with_reducible refine isL ?_); (first
      | (with_reducible apply L_move); (· exact rfl); (· exact rfl)
      | (with_reducible apply L_assign); (· exact rfl); (· exact rfl)
      | (with_reducible refine L_nil ?_)
      | (with_reducible apply L_binV); (· exact rfl); (· exact rfl); (· exact rfl); (· exact bv)
      | (with_reducible apply L_fieldAddr); (· exact rfl); (· exact rfl); (· exact FldF.h)
      | (with_reducible apply L_load); (· exact rfl); (· exact rfl); (· exact RdC.blk mm); (· exact OneF.h); (· exact rfl)
      | (with_reducible apply L_loadW); (· exact rfl); (· exact rfl); (· exact RdC.blk mm); (· exact AggF.h)
      | (with_reducible apply L_extractL); (· exact rfl); (· exact rfl); (· exact rfl)
      | (with_reducible apply L_store); (· exact rfl); (· exact rfl); (· exact pk); (· exact OneF.h); (· exact rfl); (· exact rfl)
      | (with_reducible apply L_storeW); (· exact rfl); (· exact rfl); (· exact pk); (· exact AggF.h); (· exact rfl); (· exact ocs)
      | (with_reducible refine isLen ?_); (first | refine L_lenT rfl rfl StrF.h ?_ | refine L_lenP rfl rfl ElF.h ?_)
      | (with_reducible apply L_not); (· exact rfl); (· exact rfl)
      | (with_reducible apply L_nilCheck); (· exact rfl); (· exact rfl))
    | (with_reducible refine isW ?_); (first
      | (with_reducible refine W_seq ?_)
      | (with_reducible refine W_region ?_)
      | (with_reducible refine W_skip ?_)
      | (with_reducible refine W_block ?_)
      | (with_reducible refine W_ret ?_))
    | (with_reducible refine isD ?_); (first
      | (with_reducible apply D_move); (· exact gc); (· exact ov)
      | (with_reducible apply D_fieldAddr); (· exact gc); (· exact ov); (· exact FldF.h)
      | (with_reducible apply D_load); (· exact gc); (· exact ov); (· exact fun _ => RdC.blk mm); (· exact OneF.h); (· exact rfl)
      | (with_reducible apply D_bin); (· exact gc); (· exact ov); (· exact ov); (· exact fun _ => bv)
      | (with_reducible apply D_and); (· exact gc); (· exact ov); (· exact ov); (· exact fun h hb => ⟨h, hb⟩)
      | (with_reducible apply D_or); (· exact gc); (· exact ov); (· exact ov); (· exact fun h hb => ⟨h, hb⟩)
      | (with_reducible apply D_loadW); (· exact gc); (· exact ov); (· exact fun _ => RdC.blk mm); (· exact AggF.h)
      | (with_reducible apply D_assign); (· exact gc); (· exact ov)
      | (with_reducible apply D_not); (· exact gc); (· exact ov)
      | (with_reducible apply D_nilCheck); (· exact gc); (· exact ov)
      | (with_reducible refine DV_nil ?_))
    | (with_reducible refine Give_nil ?_)
    | (with_reducible apply Give_drop); (· exact rfl)
    | (with_reducible apply Give_is); (· exact rfl); (· exact rfl)
    | (with_reducible apply Give_cons); (· exact rfl)
    | (with_reducible apply Give_drop')
    | (with_reducible apply Give_st))
  exact k) : p := h k
theorem s2 {p q : Prop} (k : q) (h : q → p := by (intro k; (iterate 2 (refine s1 ?_)); exact k)) : p := h k
theorem s3 {p q : Prop} (k : q) (h : q → p := by (intro k; (iterate 3 (refine s1 ?_)); exact k)) : p := h k
theorem s4 {p q : Prop} (k : q) (h : q → p := by (intro k; (iterate 4 (refine s1 ?_)); exact k)) : p := h k
theorem s5 {p q : Prop} (k : q) (h : q → p := by (intro k; (iterate 5 (refine s1 ?_)); exact k)) : p := h k
theorem s6 {p q : Prop} (k : q) (h : q → p := by (intro k; (iterate 6 (refine s1 ?_)); exact k)) : p := h k
theorem s7 {p q : Prop} (k : q) (h : q → p := by (intro k; (iterate 7 (refine s1 ?_)); exact k)) : p := h k
theorem s8 {p q : Prop} (k : q) (h : q → p := by (intro k; (iterate 8 (refine s1 ?_)); exact k)) : p := h k
theorem s9 {p q : Prop} (k : q) (h : q → p := by (intro k; (iterate 9 (refine s1 ?_)); exact k)) : p := h k
theorem s10 {p q : Prop} (k : q) (h : q → p := by (intro k; (iterate 10 (refine s1 ?_)); exact k)) : p := h k
theorem s11 {p q : Prop} (k : q) (h : q → p := by (intro k; (iterate 11 (refine s1 ?_)); exact k)) : p := h k
theorem s12 {p q : Prop} (k : q) (h : q → p := by (intro k; (iterate 12 (refine s1 ?_)); exact k)) : p := h k
theorem s13 {p q : Prop} (k : q) (h : q → p := by (intro k; (iterate 13 (refine s1 ?_)); exact k)) : p := h k
theorem s14 {p q : Prop} (k : q) (h : q → p := by (intro k; (iterate 14 (refine s1 ?_)); exact k)) : p := h k
theorem s15 {p q : Prop} (k : q) (h : q → p := by (intro k; (iterate 15 (refine s1 ?_)); exact k)) : p := h k
theorem s16 {p q : Prop} (k : q) (h : q → p := by (intro k; (iterate 16 (refine s1 ?_)); exact k)) : p := h k
theorem s17 {p q : Prop} (k : q) (h : q → p := by (intro k; (iterate 17 (refine s1 ?_)); exact k)) : p := h k
theorem s18 {p q : Prop} (k : q) (h : q → p := by (intro k; (iterate 18 (refine s1 ?_)); exact k)) : p := h k
theorem s19 {p q : Prop} (k : q) (h : q → p := by (intro k; (iterate 19 (refine s1 ?_)); exact k)) : p := h k
theorem s20 {p q : Prop} (k : q) (h : q → p := by (intro k; (iterate 20 (refine s1 ?_)); exact k)) : p := h k
end Go.Proofs.SL
namespace Go.Proofs.SL
open Go
set_option maxHeartbeats 2000000
instance el34 : ElF Try.prog 34 3 1 8 [.int .i64 0] := ⟨by kernel_rfl⟩
instance one3 : OneF Try.prog 3 := ⟨by kernel_rfl⟩
instance el22 : ElF Try.prog 22 5 1 1 [.int .u8 0] := ⟨by kernel_rfl⟩
instance und22 : UndF Try.prog 22 (.slice 5) := ⟨by kernel_rfl⟩
instance und5 : UndF Try.prog 5 (.int .u8) := ⟨by kernel_rfl⟩
instance und9 : UndF Try.prog 9 (.string) := ⟨by kernel_rfl⟩
theorem mix : Try.prog.follows .mixedOrders = true := by kernel_rfl
instance und3 : UndF Try.prog 3 (.int .i64) := ⟨by kernel_rfl⟩
end Go.Proofs.SL
namespace Go.Proofs.SL
open Go
set_option maxHeartbeats 2000000
instance fn73 : FnF Try.prog 73 := ⟨⟨_, Try.func73, by kernel_rfl, rfl⟩⟩
noncomputable def s_l1In (a0 : Int) (a1 : Int) (a2 : Int) : Option Bool :=
  some ((decide (a1 ≤ a0)) && (decide (a0 ≤ a2)))
theorem s_l1In_walk (w : World) (a0 : Int) (a1 : Int) (a2 : Int)  (r : Bool) (hp : s_l1In a0 a1 a2 = some r) : Spec Try.prog 77 [.int .i64 a0, .int .i64 a1, .int .i64 a2].toArray w [] (IsV (.bool r)) := by
  refine Spec.intro Try.func77 rfl Try.ntmps77 rfl ?_
  unfold s_l1In at hp
  replace hp := dd hp
  refine s5 ?_
  refine W_D0 [6] mix (by kernel_rfl) rfl ?_
  refine s20 ?_
  obtain rfl := Option.some.inj hp
  refine s1 ?_
  refine res1 rfl (ResOK.tmp rfl) ⟨rfl, rfl⟩ ms
noncomputable def i_within (a0 : Int) (a1 : Int) (a2 : Int) : Option Bool :=
  some ((decide (a1 ≤ a0)) && (decide (a0 ≤ a2)))
theorem i_within_walk (w : World) (a0 : Int) (a1 : Int) (a2 : Int)  (r : Bool) (hp : i_within a0 a1 a2 = some r) : Spec Try.prog 73 [.int .i64 a0, .int .i64 a1, .int .i64 a2].toArray w [] (IsV (.bool r)) := by
  refine Spec.intro Try.func73 rfl Try.ntmps73 rfl ?_
  unfold i_within at hp
  replace hp := dd hp
  refine s5 ?_
  refine W_D0 [6] mix (by kernel_rfl) rfl ?_
  refine s20 ?_
  obtain rfl := Option.some.inj hp
  refine s1 ?_
  refine res1 rfl (ResOK.tmp rfl) ⟨rfl, rfl⟩ ms
noncomputable def s_l9Node (a0 : Int) : Option Bool :=
  some ((decide (0 ≤ a0)) && (decide (a0 < 3)))
theorem s_l9Node_walk (w : World) (a0 : Int)  (r : Bool) (hp : s_l9Node a0 = some r) : Spec Try.prog 104 [.int .i64 a0].toArray w [] (IsV (.bool r)) := by
  refine Spec.intro Try.func104 rfl Try.ntmps104 rfl ?_
  unfold s_l9Node at hp
  replace hp := dd hp
  refine s5 ?_
  refine W_D0 [2] mix (by kernel_rfl) rfl ?_
  refine s16 ?_
  obtain rfl := Option.some.inj hp
  refine s1 ?_
  refine res1 rfl (ResOK.tmp rfl) ⟨rfl, rfl⟩ ms
noncomputable def i_isRep (a0 : Int) : Option Bool :=
  Option.bind (i_within a0 0 2) (fun y1 => some y1)
theorem i_isRep_walk (w : World) (a0 : Int)  (r : Bool) (hp : i_isRep a0 = some r) : Spec Try.prog 137 [.int .i64 a0].toArray w [] (IsV (.bool r)) := by
  refine Spec.intro Try.func137 rfl Try.ntmps137 rfl ?_
  unfold i_isRep at hp
  replace hp := dd hp
  refine s7 ?_
  replace hp := ba hp; obtain ⟨y1, hy1, hp⟩ := hp
  refine L_callX rfl fn73.h rfl (by exact fun w hw => i_within_walk w a0 0 2  _ hy1) ?_
  refine s2 ?_
  obtain rfl := Option.some.inj hp
  refine s1 ?_
  refine res1 rfl (ResOK.tmp rfl) ⟨rfl, rfl⟩ ms
end Go.Proofs.SL
namespace Go.Proofs.SL
open Go
set_option maxHeartbeats 2000000
abbrev T_Up := ByteArray × (TL Int) × Int
abbrev T_Ups := Int × (TL T_Up)
instance el69 : ElF Try.prog 69 129 3 48 [.string ByteArray.empty, .slice none 0 0, .int .i64 0] := ⟨by kernel_rfl⟩
instance agg129 : AggF Try.prog 129 3 := ⟨by kernel_rfl⟩
instance one9 : OneF Try.prog 9 := ⟨by kernel_rfl⟩
instance fn156 : FnF Try.prog 156 := ⟨⟨_, Try.func156, by kernel_rfl, rfl⟩⟩
instance fn118 : FnF Try.prog 118 := ⟨⟨_, Try.func118, by kernel_rfl, rfl⟩⟩
instance fld129_0 : FldF Try.prog 129 0 0 := ⟨by kernel_rfl⟩
instance fld129_1 : FldF Try.prog 129 1 1 := ⟨by kernel_rfl⟩
instance one34 : OneF Try.prog 34 := ⟨by kernel_rfl⟩
instance fn173 : FnF Try.prog 173 := ⟨⟨_, Try.func173, by kernel_rfl, rfl⟩⟩
instance fld129_2 : FldF Try.prog 129 2 2 := ⟨by kernel_rfl⟩
instance fld169_0 : FldF Try.prog 169 0 0 := ⟨by kernel_rfl⟩
instance str9 : StrF Try.prog 9 := ⟨by kernel_rfl⟩
instance fld169_1 : FldF Try.prog 169 1 1 := ⟨by kernel_rfl⟩
instance fn171 : FnF Try.prog 171 := ⟨⟨_, Try.func171, by kernel_rfl, rfl⟩⟩
instance zero129 : ZerF Try.prog 129 [.string ByteArray.empty, .slice none 0 0, .int .i64 0] := ⟨by kernel_rfl⟩
instance fn172 : FnF Try.prog 172 := ⟨⟨_, Try.func172, by kernel_rfl, rfl⟩⟩
instance fld169_2 : FldF Try.prog 169 2 2 := ⟨by kernel_rfl⟩
instance fn154 : FnF Try.prog 154 := ⟨⟨_, Try.func154, by kernel_rfl, rfl⟩⟩
instance el84 : ElF Try.prog 84 169 3 48 [.string ByteArray.empty, .slice none 0 0, .int .i64 0] := ⟨by kernel_rfl⟩
instance agg169 : AggF Try.prog 169 3 := ⟨by kernel_rfl⟩
instance fn152 : FnF Try.prog 152 := ⟨⟨_, Try.func152, by kernel_rfl, rfl⟩⟩
instance fn153 : FnF Try.prog 153 := ⟨⟨_, Try.func153, by kernel_rfl, rfl⟩⟩
instance fld71_0 : FldF Try.prog 71 0 0 := ⟨by kernel_rfl⟩
instance fld71_1 : FldF Try.prog 71 1 1 := ⟨by kernel_rfl⟩
instance one69 : OneF Try.prog 69 := ⟨by kernel_rfl⟩
instance fn117 : FnF Try.prog 117 := ⟨⟨_, Try.func117, by kernel_rfl, rfl⟩⟩
instance fld86_1 : FldF Try.prog 86 1 1 := ⟨by kernel_rfl⟩
instance one84 : OneF Try.prog 84 := ⟨by kernel_rfl⟩
instance fn115 : FnF Try.prog 115 := ⟨⟨_, Try.func115, by kernel_rfl, rfl⟩⟩
instance zero71 : ZerF Try.prog 71 [.int .i64 0, .slice none 0 0] := ⟨by kernel_rfl⟩
instance fld86_0 : FldF Try.prog 86 0 0 := ⟨by kernel_rfl⟩
instance fn116 : FnF Try.prog 116 := ⟨⟨_, Try.func116, by kernel_rfl, rfl⟩⟩
instance agg71 : AggF Try.prog 71 2 := ⟨by kernel_rfl⟩
instance fn155 : FnF Try.prog 155 := ⟨⟨_, Try.func155, by kernel_rfl, rfl⟩⟩
instance fn157 : FnF Try.prog 157 := ⟨⟨_, Try.func157, by kernel_rfl, rfl⟩⟩
instance fn119 : FnF Try.prog 119 := ⟨⟨_, Try.func119, by kernel_rfl, rfl⟩⟩
end Go.Proofs.SL
namespace Go.Proofs.SL
open Go
set_option maxHeartbeats 2000000
abbrev D_Up := ByteArray × (List Int) × Int
abbrev D_Ups := Int × (List D_Up)
instance fn77 : FnF Try.prog 77 := ⟨⟨_, Try.func77, by kernel_rfl, rfl⟩⟩
instance fn104 : FnF Try.prog 104 := ⟨⟨_, Try.func104, by kernel_rfl, rfl⟩⟩
instance fn137 : FnF Try.prog 137 := ⟨⟨_, Try.func137, by kernel_rfl, rfl⟩⟩
instance fn140 : FnF Try.prog 140 := ⟨⟨_, Try.func140, by kernel_rfl, rfl⟩⟩
instance fn139 : FnF Try.prog 139 := ⟨⟨_, Try.func139, by kernel_rfl, rfl⟩⟩
instance fn98 : FnF Try.prog 98 := ⟨⟨_, Try.func98, by kernel_rfl, rfl⟩⟩
instance fn100 : FnF Try.prog 100 := ⟨⟨_, Try.func100, by kernel_rfl, rfl⟩⟩
instance fn48 : FnF Try.prog 48 := ⟨⟨_, Try.func48, by kernel_rfl, rfl⟩⟩
instance fn94 : FnF Try.prog 94 := ⟨⟨_, Try.func94, by kernel_rfl, rfl⟩⟩
instance fn97 : FnF Try.prog 97 := ⟨⟨_, Try.func97, by kernel_rfl, rfl⟩⟩
instance bld71 : BldF Try.prog 71 [(0, 1), (1, 1)] [.int .i64 0, .slice none 0 0] := ⟨by kernel_rfl⟩
instance bld129 : BldF Try.prog 129 [(0, 1), (1, 1), (2, 1)] [.string ByteArray.empty, .slice none 0 0, .int .i64 0] := ⟨by kernel_rfl⟩
instance fn109 : FnF Try.prog 109 := ⟨⟨_, Try.func109, by kernel_rfl, rfl⟩⟩
instance fn144 : FnF Try.prog 144 := ⟨⟨_, Try.func144, by kernel_rfl, rfl⟩⟩
instance fn143 : FnF Try.prog 143 := ⟨⟨_, Try.func143, by kernel_rfl, rfl⟩⟩
noncomputable def s_UpsOk (a0 : D_Ups) : Option Bool :=
  Option.bind (s_l1In a0.1 0 1000) (fun y1 => cond ((!y1) || (decide (20 < (a0.2.length : Int)))) (some false) (whileP (fun s3 : Int => cond (decide (s3 < (a0.2.length : Int))) (Option.bind (idx a0.2 s3) (fun y5 => gb ((!(!decide ((y5.1.size : Int) = 8))) && (decide (0 < s3))) (idx a0.2 (IntKind.wrap .i64 (s3 - 1))) (fun y6 => gb (!(((!decide ((y5.1.size : Int) = 8)) || ((decide (0 < s3)) && (!sLt y6.1 y5.1))) || (decide ((y5.2.1.length : Int) = 0)))) (s_l1In y5.2.2 0 a0.1) (fun y7 => cond ((((!decide ((y5.1.size : Int) = 8)) || ((decide (0 < s3)) && (!sLt y6.1 y5.1))) || (decide ((y5.2.1.length : Int) = 0))) || (!y7)) (Option.map .inr (some false)) (whileP (fun s10 : Int => cond (decide (s10 < (y5.2.1.length : Int))) (Option.bind (idx y5.2.1 s10) (fun y12 => Option.bind (s_l9Node y12) (fun y13 => gb ((!(!y13)) && (decide (0 < s10))) (idx y5.2.1 (IntKind.wrap .i64 (s10 - 1))) (fun y14 => gb ((!(!y13)) && (decide (0 < s10))) (idx y5.2.1 s10) (fun y15 => cond ((!y13) || ((decide (0 < s10)) && (decide (y15 ≤ y14)))) (Option.map .inr (Option.map .inr (some false))) (some (.inl (IntKind.wrap .i64 (s10 + 1))))))))) (Option.map .inr (some (.inl (IntKind.wrap .i64 (s3 + 1)))))) 0))))) (Option.map .inr (some true))) 0))
theorem s_UpsOk_walk (w : World) (a0 : T_Ups) (h0 : GT.rd w [] a0) (r : Bool) (hp : s_UpsOk (GT.dat a0) = some r) : Spec Try.prog 48 [.agg (GT.cells a0).toArray].toArray w [] (IsV (.bool r)) := by
  obtain ⟨a0_1, a0_2⟩ := a0
  change Spec _ _ ([Value.agg #[.int .i64 a0_1, (TL.hdr a0_2)]] : List Value).toArray w [] _
  refine Spec.intro Try.func48 rfl Try.ntmps48 rfl ?_
  unfold s_UpsOk at hp
  replace hp := dd hp
  refine s2 ?_
  refine bx fun bk1 => ?_
  refine s4 ?_
  replace hp := ba hp; obtain ⟨y1, hy1, hp⟩ := hp
  refine W_D0 [15] mix (by kernel_rfl) rfl ?_
  refine s2 ?_
  refine D_callX GC.none fn77.h (OpVs.cons (OpV.t rfl) (OpVs.cons OpV.c (OpVs.cons OpV.c (OpVs.nil)))) (by exact fun hg w F hF hM => s_l1In_walk w a0_1 0 1000  _ hy1) ?_
  refine s4 ?_
  refine D_lenP (X := a0_2) (GC.some rfl rfl) (OpV.s rfl) el69.h ?_
  refine s14 ?_
  refine kp [1, 15] ?_
  refine W_cond rfl (fun hc2 => ?_) (fun hc2 => ?_)
  · replace hp := cond_t hc2 hp
    refine s4 ?_
    obtain rfl := Option.some.inj hp
    refine s1 ?_
    refine res1 rfl (ResOK.tmp rfl) ⟨rfl, rfl⟩ ms
  · replace hp := cond_f hc2 hp
    refine s7 ?_
    refine W_while (σ := Int) GT.dat (fun (v3_0 : Int) => [(3, .int .i64 v3_0)]) (fun (v3_0 : Int) => []) [(1, _)] [blk bk1 _ _] 0 hp sb ms ?_
    clear hp
    rintro v3_0 x3 hp hx3
    replace hp := dd hp
    refine kq [1, 3] ?_
    refine s9 ?_
    refine kp [1, 3, 20] ?_
    refine W_cond rfl (fun hc4 => ?_) (fun hc4 => ?_)
    · replace hp := cond_t hc4 hp
      refine s8 ?_
      replace hp := idx_bind hp; obtain ⟨⟨u5_1, u5_2, u5_3⟩, hy5, hp⟩ := hp
      refine L_idxA (X := a0_2) rfl rfl rfl el69.h (RdT.old h0.2) hy5 ?_
      refine L_loadW rfl rfl (RdT.at (RdT.old h0.2) (hy5).2) (by exact agg129.h) ?_
      refine al fun bk4 => ?_
      refine s4 ?_
      replace hp := idx_gb hp; obtain ⟨⟨u6_1, u6_2, u6_3⟩, hy6, hp⟩ := hp
      replace hp := gb_any hp; obtain ⟨y7, hy7, hp⟩ := hp
      refine W_D0 [61] mix (by kernel_rfl) rfl ?_
      refine s2 ?_
      refine D_lenT GC.none (OpV.t rfl) str9.h ?_
      refine s9 ?_
      refine D_idxA (X := a0_2) (GC.some rfl rfl) (OpV.s rfl) (OpV.s rfl) el69.h (RdT.old h0.2) (fun hg => hy6 (gand (gnot hg.1.2) hg.2)) ?_
      refine s1 ?_
      refine D_load (GC.some rfl rfl) (OpV.s rfl) (fun hg => RdT.at (RdT.old h0.2) (hy6 (gand (gnot hg.1.2) hg.2)).2) one9.h rfl ?_
      refine s8 ?_
      refine D_lenP (X := u5_2) (GC.some rfl rfl) (OpV.s rfl) el34.h ?_
      refine s7 ?_
      refine D_callX (GC.some rfl rfl) fn77.h (OpVs.cons (OpV.s rfl) (OpVs.cons OpV.c (OpVs.cons (OpV.s rfl) (OpVs.nil)))) (by exact fun hg w F hF hM => s_l1In_walk w u5_3 0 a0_1  _ (hy7 (gnot hg.2))) ?_
      refine s20 ?_
      refine s18 ?_
      refine kp [1, 3, 4, 61] ?_
      refine W_cond rfl (fun hc8 => ?_) (fun hc8 => ?_)
      · replace hp := cond_t hc8 hp
        refine s4 ?_
        replace hp := map_any hp; obtain ⟨a9, hp, hx_a9⟩ := hp
        obtain rfl := hx3 _ hx_a9
        obtain rfl := Option.some.inj hp
        refine s1 ?_
        refine res1 rfl (ResOK.tmp rfl) ⟨rfl, rfl⟩ ms
      · replace hp := cond_f hc8 hp
        refine s6 ?_
        refine W_while (σ := Int) GT.dat (fun (v10_0 : Int) => [(5, .int .i64 v10_0)]) (fun (v10_0 : Int) => []) [(1, _), (3, _), (4, _)] [blk bk1 _ _, blk bk4 _ _] 0 hp sb ms ?_
        clear hp
        rintro v10_0 x10 hp hx10
        replace hp := dd hp
        refine kq [1, 3, 4, 5] ?_
        refine s9 ?_
        refine kp [1, 3, 4, 5, 66] ?_
        refine W_cond rfl (fun hc11 => ?_) (fun hc11 => ?_)
        · replace hp := cond_t hc11 hp
          refine s4 ?_
          replace hp := idx_bind hp; obtain ⟨u12, hy12, hp⟩ := hp
          replace hp := ba hp; obtain ⟨y13, hy13, hp⟩ := hp
          replace hp := idx_gb hp; obtain ⟨u14, hy14, hp⟩ := hp
          replace hp := idx_gb hp; obtain ⟨u15, hy15, hp⟩ := hp
          refine W_D0 [93] mix (by kernel_rfl) rfl ?_
          refine s3 ?_
          refine D_idxA (X := u5_2) GC.none (OpV.t rfl) (OpV.t rfl) el34.h (RdT.fst (RdT.snd (RdT.of (RdT.old h0.2) (hy5).2))) (fun _ => hy12) ?_
          refine D_load0 GC.none (OpV.t rfl) (fun hg => RdT.at (RdT.fst (RdT.snd (RdT.of (RdT.old h0.2) (hy5).2))) (hy12).2) one3.h rfl ?_
          refine D_callX GC.none fn104.h (OpVs.cons (OpV.t rfl) (OpVs.nil)) (by exact fun hg w F hF hM => s_l9Node_walk w u12  _ hy13) ?_
          refine s9 ?_
          refine D_idxA (X := u5_2) (GC.some rfl rfl) (OpV.s rfl) (OpV.s rfl) el34.h (RdT.fst (RdT.snd (RdT.of (RdT.old h0.2) (hy5).2))) (fun hg => hy14 (gand (gnot hg.1.2) hg.2)) ?_
          refine D_load0 (GC.some rfl rfl) (OpV.s rfl) (fun hg => RdT.at (RdT.fst (RdT.snd (RdT.of (RdT.old h0.2) (hy5).2))) (hy14 (gand (gnot hg.1.2) hg.2)).2) one3.h rfl ?_
          refine s3 ?_
          refine D_idxA (X := u5_2) (GC.some rfl rfl) (OpV.s rfl) (OpV.s rfl) el34.h (RdT.fst (RdT.snd (RdT.of (RdT.old h0.2) (hy5).2))) (fun hg => hy15 (gand (gnot hg.1.2) hg.2)) ?_
          refine D_load0 (GC.some rfl rfl) (OpV.s rfl) (fun hg => RdT.at (RdT.fst (RdT.snd (RdT.of (RdT.old h0.2) (hy5).2))) (hy15 (gand (gnot hg.1.2) hg.2)).2) one3.h rfl ?_
          refine s20 ?_
          refine s10 ?_
          refine kp [1, 3, 4, 5, 93] ?_
          refine W_cond rfl (fun hc16 => ?_) (fun hc16 => ?_)
          · replace hp := cond_t hc16 hp
            refine s4 ?_
            replace hp := map_any hp; obtain ⟨a17, hp, hx_a17⟩ := hp
            obtain rfl := hx10 _ hx_a17
            replace hp := map_any hp; obtain ⟨a18, hp, hx_a18⟩ := hp
            obtain rfl := hx3 _ hx_a18
            obtain rfl := Option.some.inj hp
            refine s1 ?_
            refine res1 rfl (ResOK.tmp rfl) ⟨rfl, rfl⟩ ms
          · replace hp := cond_f hc16 hp
            refine s6 ?_
            exact ⟨IntKind.wrap .i64 (v10_0 + 1), sb, (.sub ms), some_eq hp⟩
        · replace hp := cond_f hc11 hp
          refine W_exit ?_
          replace hp := map_any hp; obtain ⟨a19, hp, hx_a19⟩ := hp
          obtain rfl := hx10 _ hx_a19
          refine s5 ?_
          exact ⟨IntKind.wrap .i64 (v3_0 + 1), sb, (.sub ms), some_eq hp⟩
    · replace hp := cond_f hc4 hp
      refine W_exit ?_
      replace hp := map_any hp; obtain ⟨a20, hp, hx_a20⟩ := hp
      obtain rfl := hx3 _ hx_a20
      refine s4 ?_
      obtain rfl := Option.some.inj hp
      refine s1 ?_
      refine res1 rfl (ResOK.tmp rfl) ⟨rfl, rfl⟩ ms
noncomputable def i_UpsOk (a0 : D_Ups) : Option Bool :=
  whileP (fun s1 : Int => cond (decide (s1 < (a0.2.length : Int))) (Option.bind (idx a0.2 s1) (fun y3 => gb ((!(!decide ((y3.1.size : Int) = 8))) && (decide (0 < s1))) (idx a0.2 (IntKind.wrap .i64 (s1 - 1))) (fun y4 => gb (!(((!decide ((y3.1.size : Int) = 8)) || ((decide (0 < s1)) && (!sLt y4.1 y3.1))) || (decide ((y3.2.1.length : Int) = 0)))) (i_within y3.2.2 0 a0.1) (fun y5 => cond ((((!decide ((y3.1.size : Int) = 8)) || ((decide (0 < s1)) && (!sLt y4.1 y3.1))) || (decide ((y3.2.1.length : Int) = 0))) || (!y5)) (Option.map .inr (some false)) (whileP (fun s8 : Int => cond (decide (s8 < (y3.2.1.length : Int))) (Option.bind (idx y3.2.1 s8) (fun y10 => Option.bind (i_isRep y10) (fun y11 => gb ((!(!y11)) && (decide (0 < s8))) (idx y3.2.1 (IntKind.wrap .i64 (s8 - 1))) (fun y12 => cond ((!y11) || ((decide (0 < s8)) && (decide (y10 ≤ y12)))) (Option.map .inr (Option.map .inr (some false))) (some (.inl (IntKind.wrap .i64 (s8 + 1)))))))) (Option.map .inr (some (.inl (IntKind.wrap .i64 (s1 + 1)))))) 0))))) (Option.map .inr (Option.bind (i_within a0.1 0 1000) (fun y18 => some (y18 && (decide ((a0.2.length : Int) ≤ 20))))))) 0
theorem i_UpsOk_walk (w : World) (a0 : T_Ups) (h0 : GT.rd w [] a0) (r : Bool) (hp : i_UpsOk (GT.dat a0) = some r) : Spec Try.prog 94 [.agg (GT.cells a0).toArray].toArray w [] (IsV (.bool r)) := by
  obtain ⟨a0_1, a0_2⟩ := a0
  change Spec _ _ ([Value.agg #[.int .i64 a0_1, (TL.hdr a0_2)]] : List Value).toArray w [] _
  refine Spec.intro Try.func94 rfl Try.ntmps94 rfl ?_
  unfold i_UpsOk at hp
  replace hp := dd hp
  refine s2 ?_
  refine bx fun bk1 => ?_
  refine s11 ?_
  refine W_while (σ := Int) GT.dat (fun (v1_0 : Int) => [(10, .int .i64 v1_0)]) (fun (v1_0 : Int) => []) [(1, _), (8, _), (9, _)] [blk bk1 _ _] 0 hp sb ms ?_
  clear hp
  rintro v1_0 x1 hp hx1
  replace hp := dd hp
  refine kq [1, 8, 9, 10] ?_
  refine s5 ?_
  refine kp [1, 8, 9, 10, 11] ?_
  refine W_cond rfl (fun hc2 => ?_) (fun hc2 => ?_)
  · replace hp := cond_t hc2 hp
    refine s6 ?_
    replace hp := idx_bind hp; obtain ⟨⟨u3_1, u3_2, u3_3⟩, hy3, hp⟩ := hp
    refine L_idxA (X := a0_2) rfl rfl rfl el69.h (RdT.old h0.2) hy3 ?_
    refine L_loadW rfl rfl (RdT.at (RdT.old h0.2) (hy3).2) (by exact agg129.h) ?_
    refine al fun bk4 => ?_
    refine s5 ?_
    replace hp := idx_gb hp; obtain ⟨⟨u4_1, u4_2, u4_3⟩, hy4, hp⟩ := hp
    replace hp := gb_any hp; obtain ⟨y5, hy5, hp⟩ := hp
    refine W_D0 [48] mix (by kernel_rfl) rfl ?_
    refine s2 ?_
    refine D_lenT GC.none (OpV.t rfl) str9.h ?_
    refine s9 ?_
    refine D_idxA (X := a0_2) (GC.some rfl rfl) (OpV.s rfl) (OpV.s rfl) el69.h (RdT.old h0.2) (fun hg => hy4 (gand (gnot hg.1.2) hg.2)) ?_
    refine s1 ?_
    refine D_load (GC.some rfl rfl) (OpV.s rfl) (fun hg => RdT.at (RdT.old h0.2) (hy4 (gand (gnot hg.1.2) hg.2)).2) one9.h rfl ?_
    refine s8 ?_
    refine D_lenP (X := u3_2) (GC.some rfl rfl) (OpV.s rfl) el34.h ?_
    refine s7 ?_
    refine D_callX (GC.some rfl rfl) fn73.h (OpVs.cons (OpV.s rfl) (OpVs.cons OpV.c (OpVs.cons (OpV.s rfl) (OpVs.nil)))) (by exact fun hg w F hF hM => i_within_walk w u3_3 0 a0_1  _ (hy5 (gnot hg.2))) ?_
    refine s20 ?_
    refine s18 ?_
    refine kp [1, 4, 8, 9, 10, 48] ?_
    refine W_cond rfl (fun hc6 => ?_) (fun hc6 => ?_)
    · replace hp := cond_t hc6 hp
      refine s4 ?_
      replace hp := map_any hp; obtain ⟨a7, hp, hx_a7⟩ := hp
      obtain rfl := hx1 _ hx_a7
      obtain rfl := Option.some.inj hp
      refine s1 ?_
      refine res1 rfl (ResOK.tmp rfl) ⟨rfl, rfl⟩ ms
    · replace hp := cond_f hc6 hp
      refine s9 ?_
      refine W_while (σ := Int) GT.dat (fun (v8_0 : Int) => [(52, .int .i64 v8_0)]) (fun (v8_0 : Int) => []) [(1, _), (4, _), (8, _), (9, _), (10, _), (50, _), (51, _)] [blk bk1 _ _, blk bk4 _ _] 0 hp sb ms ?_
      clear hp
      rintro v8_0 x8 hp hx8
      replace hp := dd hp
      refine kq [1, 4, 8, 9, 10, 50, 51, 52] ?_
      refine s5 ?_
      refine kp [1, 4, 8, 9, 10, 50, 51, 52, 53] ?_
      refine W_cond rfl (fun hc9 => ?_) (fun hc9 => ?_)
      · replace hp := cond_t hc9 hp
        refine s6 ?_
        replace hp := idx_bind hp; obtain ⟨u10, hy10, hp⟩ := hp
        refine L_idxA (X := u3_2) rfl rfl rfl el34.h (RdT.fst (RdT.snd (RdT.of (RdT.old h0.2) (hy3).2))) hy10 ?_
        refine L_load0 rfl rfl (RdT.at (RdT.fst (RdT.snd (RdT.of (RdT.old h0.2) (hy3).2))) (hy10).2) one3.h rfl ?_
        refine s4 ?_
        replace hp := ba hp; obtain ⟨y11, hy11, hp⟩ := hp
        replace hp := idx_gb hp; obtain ⟨u12, hy12, hp⟩ := hp
        refine W_D0 [73] mix (by kernel_rfl) rfl ?_
        refine s1 ?_
        refine D_callX GC.none fn137.h (OpVs.cons (OpV.t rfl) (OpVs.nil)) (by exact fun hg w F hF hM => i_isRep_walk w u10  _ hy11) ?_
        refine s9 ?_
        refine D_idxA (X := u3_2) (GC.some rfl rfl) (OpV.s rfl) (OpV.s rfl) el34.h (RdT.fst (RdT.snd (RdT.of (RdT.old h0.2) (hy3).2))) (fun hg => hy12 (gand (gnot hg.1.2) hg.2)) ?_
        refine D_load0 (GC.some rfl rfl) (OpV.s rfl) (fun hg => RdT.at (RdT.fst (RdT.snd (RdT.of (RdT.old h0.2) (hy3).2))) (hy12 (gand (gnot hg.1.2) hg.2)).2) one3.h rfl ?_
        refine s20 ?_
        refine s3 ?_
        refine kp [1, 4, 8, 9, 10, 50, 51, 52, 73] ?_
        refine W_cond rfl (fun hc13 => ?_) (fun hc13 => ?_)
        · replace hp := cond_t hc13 hp
          refine s4 ?_
          replace hp := map_any hp; obtain ⟨a14, hp, hx_a14⟩ := hp
          obtain rfl := hx8 _ hx_a14
          replace hp := map_any hp; obtain ⟨a15, hp, hx_a15⟩ := hp
          obtain rfl := hx1 _ hx_a15
          obtain rfl := Option.some.inj hp
          refine s1 ?_
          refine res1 rfl (ResOK.tmp rfl) ⟨rfl, rfl⟩ ms
        · replace hp := cond_f hc13 hp
          refine s5 ?_
          exact ⟨IntKind.wrap .i64 (v8_0 + 1), sb, (.sub ms), some_eq hp⟩
      · replace hp := cond_f hc9 hp
        refine W_exit ?_
        replace hp := map_any hp; obtain ⟨a16, hp, hx_a16⟩ := hp
        obtain rfl := hx8 _ hx_a16
        refine s4 ?_
        exact ⟨IntKind.wrap .i64 (v1_0 + 1), sb, (.sub ms), some_eq hp⟩
  · replace hp := cond_f hc2 hp
    refine W_exit ?_
    replace hp := map_any hp; obtain ⟨a17, hp, hx_a17⟩ := hp
    obtain rfl := hx1 _ hx_a17
    refine s1 ?_
    replace hp := ba hp; obtain ⟨y18, hy18, hp⟩ := hp
    refine W_D0 [2] mix (by kernel_rfl) rfl ?_
    refine s2 ?_
    refine D_callX GC.none fn73.h (OpVs.cons (OpV.t rfl) (OpVs.cons OpV.c (OpVs.cons OpV.c (OpVs.nil)))) (by exact fun hg w F hF hM => i_within_walk w a0_1 0 1000  _ hy18) ?_
    refine s3 ?_
    refine D_lenP (X := a0_2) (GC.some rfl rfl) (OpV.s rfl) el69.h ?_
    refine s15 ?_
    obtain rfl := Option.some.inj hp
    refine s1 ?_
    refine res1 rfl (ResOK.tmp rfl) ⟨rfl, rfl⟩ ms
noncomputable def s_l18At (a0 : D_Ups) (a1 : ByteArray) : Option Int :=
  whileP (fun s1 : Int => cond (decide (s1 < (a0.2.length : Int))) (Option.bind (idx a0.2 s1) (fun y3 => cond (decide (y3.1 = a1)) (Option.map .inr (some s1)) (some (.inl (IntKind.wrap .i64 (s1 + 1)))))) (Option.map .inr (some (-1)))) 0
theorem s_l18At_walk (w : World) (a0 : T_Ups) (a1 : ByteArray) (h0 : GT.rd w [] a0) (r : Int) (hp : s_l18At (GT.dat a0) a1 = some r) : Spec Try.prog 100 [.agg (GT.cells a0).toArray, .string a1].toArray w [] (IsV (.int .i64 r)) := by
  obtain ⟨a0_1, a0_2⟩ := a0
  change Spec _ _ ([Value.agg #[.int .i64 a0_1, (TL.hdr a0_2)], .string a1] : List Value).toArray w [] _
  refine Spec.intro Try.func100 rfl Try.ntmps100 rfl ?_
  unfold s_l18At at hp
  replace hp := dd hp
  refine s2 ?_
  refine bx fun bk2 => ?_
  refine s8 ?_
  refine W_while (σ := Int) GT.dat (fun (v1_0 : Int) => [(5, .int .i64 v1_0)]) (fun (v1_0 : Int) => []) [(1, _), (2, _)] [blk bk2 _ _] 0 hp sb ms ?_
  clear hp
  rintro v1_0 x1 hp hx1
  replace hp := dd hp
  refine kq [1, 2, 5] ?_
  refine s9 ?_
  refine kp [1, 2, 5, 10] ?_
  refine W_cond rfl (fun hc2 => ?_) (fun hc2 => ?_)
  · replace hp := cond_t hc2 hp
    refine s8 ?_
    replace hp := idx_bind hp; obtain ⟨⟨u3_1, u3_2, u3_3⟩, hy3, hp⟩ := hp
    refine L_idxA (X := a0_2) rfl rfl rfl el69.h (RdT.old h0.2) hy3 ?_
    refine s1 ?_
    refine L_load rfl rfl (RdT.at (RdT.old h0.2) (hy3).2) one9.h rfl ?_
    refine s3 ?_
    refine kp [1, 2, 5, 20] ?_
    refine W_cond rfl (fun hc4 => ?_) (fun hc4 => ?_)
    · replace hp := cond_t hc4 hp
      refine s5 ?_
      replace hp := map_any hp; obtain ⟨a5, hp, hx_a5⟩ := hp
      obtain rfl := hx1 _ hx_a5
      obtain rfl := Option.some.inj hp
      refine s1 ?_
      refine res1 rfl (ResOK.tmp rfl) ⟨rfl, rfl⟩ ms
    · replace hp := cond_f hc4 hp
      refine s6 ?_
      exact ⟨IntKind.wrap .i64 (v1_0 + 1), sb, (.sub ms), some_eq hp⟩
  · replace hp := cond_f hc2 hp
    refine W_exit ?_
    replace hp := map_any hp; obtain ⟨a6, hp, hx_a6⟩ := hp
    obtain rfl := hx1 _ hx_a6
    refine s4 ?_
    obtain rfl := Option.some.inj hp
    refine s1 ?_
    refine res1 rfl (ResOK.tmp rfl) ⟨rfl, rfl⟩ ms
noncomputable def i_Ups_at_c1 (a0 : D_Up) (c0 : ByteArray) : Option Bool :=
  some (decide (a0.1 = c0))
theorem i_Ups_at_c1_walk (w : World) (a0 : T_Up) (b0 : Nat) (c0 : ByteArray) (h0 : GT.rd w [] a0) (hb0 : Cells w [] b0 0 (GT.cells c0)) (hc0 : GT.rd w [] c0) (r : Bool) (hp : i_Ups_at_c1 (GT.dat a0) c0 = some r) : Spec Try.prog 140 ([(.agg (GT.cells a0).toArray : Value)] ++ [Value.pointer (some ⟨b0, 0, none⟩)]).toArray w [] (IsV (.bool r)) := by
  obtain ⟨a0_1, a0_2, a0_3⟩ := a0
  change Spec _ _ ([Value.agg #[.string a0_1, (TL.hdr a0_2), .int .i64 a0_3], Value.pointer (some ⟨b0, 0, none⟩)] : List Value).toArray w [] _
  refine Spec.intro Try.func140 rfl Try.ntmps140 rfl ?_
  unfold i_Ups_at_c1 at hp
  replace hp := dd hp
  refine s2 ?_
  refine bx fun bk2 => ?_
  refine s6 ?_
  refine L_load0 rfl rfl (RdC.old hb0) one9.h rfl ?_
  refine s3 ?_
  obtain rfl := Option.some.inj hp
  refine s1 ?_
  refine res1 rfl (ResOK.tmp rfl) ⟨rfl, rfl⟩ ms
noncomputable def sl_IndexFunc_implUpimplUp (a0 : List D_Up) (a1 : D_Up → Option Bool) : Option Int :=
  whileP (fun s1 : Int => cond (decide (s1 < (a0.length : Int))) (Option.bind (idx a0 s1) (fun y3 => Option.bind (a1 (y3.1, y3.2.1, y3.2.2)) (fun y4 => cond y4 (Option.map .inr (some s1)) (some (.inl (IntKind.wrap .i64 (s1 + 1))))))) (Option.map .inr (some (-1)))) 0
theorem sl_IndexFunc_implUpimplUp_walk (w : World) (a0 : TL T_Up) (f1 : Nat) (cs1 : List Value) (a1 : D_Up → Option Bool) (h0 : GT.rd w [] a0) (hf1 : IsFn Try.prog f1) (hk1 : ∀ (w' : World) (F : List HP) (u0 : T_Up) (v : Bool), Holds w [] F w' → GT.rd w' [] u0 → a1 (GT.dat u0) = some v → Spec Try.prog f1 ([Value.agg (GT.cells u0).toArray] ++ cs1).toArray w' [] (IsV (.bool v))) (r : Int) (hp : sl_IndexFunc_implUpimplUp (GT.dat a0) a1 = some r) : Spec Try.prog 139 [(TL.hdr a0), .func (.func f1) #[] cs1.toArray].toArray w [] (IsV (.int .i64 r)) := by
  refine Spec.intro Try.func139 rfl Try.ntmps139 rfl ?_
  unfold sl_IndexFunc_implUpimplUp at hp
  replace hp := dd hp
  refine s12 ?_
  refine W_while (σ := Int) GT.dat (fun (v1_0 : Int) => [(8, .int .i64 v1_0)]) (fun (v1_0 : Int) => []) [(0, _), (1, _), (7, _)] [] 0 hp sb ms ?_
  clear hp
  rintro v1_0 x1 hp hx1
  replace hp := dd hp
  refine kq [0, 1, 7, 8] ?_
  refine s5 ?_
  refine kp [0, 1, 7, 8, 9] ?_
  refine W_cond rfl (fun hc2 => ?_) (fun hc2 => ?_)
  · replace hp := cond_t hc2 hp
    refine s13 ?_
    replace hp := idx_bind hp; obtain ⟨⟨u3_1, u3_2, u3_3⟩, hy3, hp⟩ := hp
    refine L_idxA (X := a0) rfl rfl rfl el69.h (RdT.old h0) hy3 ?_
    refine L_loadW rfl rfl (RdT.at (RdT.old h0) (hy3).2) (by exact agg129.h) ?_
    replace hp := ba hp; obtain ⟨y4, hy4, hp⟩ := hp
    refine L_callVX rfl rfl hf1 rfl (by exact fun w hw => hk1 w _ (u3_1, u3_2, u3_3) y4 hw (RdT.now (RdT.pair RdT.str (RdT.pair (RdT.fst (RdT.snd (RdT.of (RdT.old h0) (hy3).2))) RdT.int)) hw) hy4) ?_
    refine s1 ?_
    refine kp [0, 1, 5, 7, 8, 16] ?_
    refine W_cond rfl (fun hc5 => ?_) (fun hc5 => ?_)
    · replace hp := cond_t hc5 hp
      refine s5 ?_
      replace hp := map_any hp; obtain ⟨a6, hp, hx_a6⟩ := hp
      obtain rfl := hx1 _ hx_a6
      obtain rfl := Option.some.inj hp
      refine s1 ?_
      refine res1 rfl (ResOK.tmp rfl) ⟨rfl, rfl⟩ ms
    · replace hp := cond_f hc5 hp
      refine s5 ?_
      exact ⟨IntKind.wrap .i64 (v1_0 + 1), sb, (.sub ms), some_eq hp⟩
  · replace hp := cond_f hc2 hp
    refine W_exit ?_
    replace hp := map_any hp; obtain ⟨a7, hp, hx_a7⟩ := hp
    obtain rfl := hx1 _ hx_a7
    refine s4 ?_
    obtain rfl := Option.some.inj hp
    refine s1 ?_
    refine res1 rfl (ResOK.tmp rfl) ⟨rfl, rfl⟩ ms
noncomputable def i_Ups_at (a0 : D_Ups) (a1 : ByteArray) : Option Int :=
  Option.bind (sl_IndexFunc_implUpimplUp a0.2 (fun z0 => i_Ups_at_c1 z0 a1)) (fun y1 => some y1)
theorem i_Ups_at_walk (w : World) (a0 : T_Ups) (a1 : ByteArray) (h0 : GT.rd w [] a0) (r : Int) (hp : i_Ups_at (GT.dat a0) a1 = some r) : Spec Try.prog 98 [.agg (GT.cells a0).toArray, .string a1].toArray w [] (IsV (.int .i64 r)) := by
  obtain ⟨a0_1, a0_2⟩ := a0
  change Spec _ _ ([Value.agg #[.int .i64 a0_1, (TL.hdr a0_2)], .string a1] : List Value).toArray w [] _
  refine Spec.intro Try.func98 rfl Try.ntmps98 rfl ?_
  unfold i_Ups_at at hp
  replace hp := dd hp
  refine s2 ?_
  refine bx fun bk2 => ?_
  refine bx fun bk3 => ?_
  refine s6 ?_
  refine L_makeFunc (fs := []) (cs := [.tmp 3]) rfl rfl rfl ?_
  replace hp := ba hp; obtain ⟨y1, hy1, hp⟩ := hp
  refine L_callX rfl fn139.h rfl (by exact fun w hw => sl_IndexFunc_implUpimplUp_walk w a0_2 140 [Value.pointer (some ⟨bk3, 0, none⟩)] (fun z0 => i_Ups_at_c1 z0 a1) (RdT.now (RdT.old h0.2) hw) fn140.h (fun w' F u0 v hF hu0 hv => i_Ups_at_c1_walk w' u0 bk3 a1 hu0 ((cells_of_blk mm hw.sees).carry hF) (rd_carry (RdT.now RdT.str hw) hF) v hv) _ hy1) ?_
  refine s2 ?_
  obtain rfl := Option.some.inj hp
  refine s1 ?_
  refine res1 rfl (ResOK.tmp rfl) ⟨rfl, rfl⟩ ms
noncomputable def i_Ups_nodes (a0 : D_Ups) (a1 : ByteArray) : Option (List Int) :=
  Option.bind (i_Ups_at (a0.1, a0.2) a1) (fun y1 => cond (decide (0 ≤ y1)) (Option.bind (idx a0.2 y1) (fun y3 => some y3.2.1)) (some ([] : List Int)))
theorem i_Ups_nodes_walk (w : World) (a0 : T_Ups) (a1 : ByteArray) (h0 : GT.rd w [] a0) (r : (List Int)) (hp : i_Ups_nodes (GT.dat a0) a1 = some r) : Spec Try.prog 97 [.agg (GT.cells a0).toArray, .string a1].toArray w [] (fun v M => ∃ (x0 : TL Int), v = (TL.hdr x0) ∧ GT.dat x0 = r ∧ M = [] ∧ (∀ (w' : World) (S : List Nat), GT.rd w' S a0 → GT.rd w' S x0)) := by
  obtain ⟨a0_1, a0_2⟩ := a0
  change Spec _ _ ([Value.agg #[.int .i64 a0_1, (TL.hdr a0_2)], .string a1] : List Value).toArray w [] _
  refine Spec.intro Try.func97 rfl Try.ntmps97 rfl ?_
  unfold i_Ups_nodes at hp
  replace hp := dd hp
  refine s2 ?_
  refine bx fun bk2 => ?_
  refine L_assign (v := (TL.hdr (TL.nil Int 0))) rfl rfl ?_
  refine s6 ?_
  replace hp := ba hp; obtain ⟨y1, hy1, hp⟩ := hp
  refine L_callX rfl fn98.h rfl (by exact fun w hw => i_Ups_at_walk w (a0_1, a0_2) a1 (RdT.now (RdT.pair RdT.int (RdT.old h0.2)) hw) _ hy1) ?_
  refine s7 ?_
  refine kp [2, 5, 10] ?_
  refine W_cond rfl (fun hc2 => ?_) (fun hc2 => ?_)
  · replace hp := cond_t hc2 hp
    refine s5 ?_
    replace hp := idx_bind hp; obtain ⟨⟨u3_1, u3_2, u3_3⟩, hy3, hp⟩ := hp
    refine L_idxA (X := a0_2) rfl rfl rfl el69.h (RdT.old h0.2) hy3 ?_
    refine s1 ?_
    refine L_load rfl rfl (RdT.at (RdT.old h0.2) (hy3).2) one34.h rfl ?_
    refine s2 ?_
    obtain rfl := Option.some.inj hp
    refine s1 ?_
    refine res1 rfl (ResOK.tmp rfl) ⟨u3_2, rfl, rfl, rfl, (fun w' S h0 => (RdO.fst (RdO.snd (RdO.of (RdO.old h0.2) (hy3).2))))⟩ ms
  · replace hp := cond_f hc2 hp
    refine s3 ?_
    refine L_assign (v := (TL.hdr (TL.nil Int 0))) rfl rfl ?_
    refine s1 ?_
    obtain rfl := Option.some.inj hp
    refine s1 ?_
    refine res1 rfl (ResOK.tmp rfl) ⟨(TL.nil Int 0), rfl, rfl, rfl, (fun w' S h0 => (RdO.nil 0))⟩ ms
noncomputable def s_UpHas (a0 : D_Ups) (a1 : ByteArray) : Option Int :=
  Option.bind (s_l18At (a0.1, a0.2) a1) (fun y1 => Option.bind (s_UpsOk (a0.1, a0.2)) (fun y2 => cond ((!y2) || (decide (y1 < 0))) (some 0) (Option.bind (idx a0.2 y1) (fun y4 => some (y4.2.1.length : Int)))))
theorem s_UpHas_walk (w : World) (a0 : T_Ups) (a1 : ByteArray) (h0 : GT.rd w [] a0) (r : Int) (hp : s_UpHas (GT.dat a0) a1 = some r) : Spec Try.prog 49 [.agg (GT.cells a0).toArray, .string a1].toArray w [] (IsV (.int .i64 r)) := by
  obtain ⟨a0_1, a0_2⟩ := a0
  change Spec _ _ ([Value.agg #[.int .i64 a0_1, (TL.hdr a0_2)], .string a1] : List Value).toArray w [] _
  refine Spec.intro Try.func49 rfl Try.ntmps49 rfl ?_
  unfold s_UpHas at hp
  replace hp := dd hp
  refine s2 ?_
  refine bx fun bk2 => ?_
  refine s6 ?_
  replace hp := ba hp; obtain ⟨y1, hy1, hp⟩ := hp
  refine L_callX rfl fn100.h rfl (by exact fun w hw => s_l18At_walk w (a0_1, a0_2) a1 (RdT.now (RdT.pair RdT.int (RdT.old h0.2)) hw) _ hy1) ?_
  refine s4 ?_
  replace hp := ba hp; obtain ⟨y2, hy2, hp⟩ := hp
  refine W_D0 [15] mix (by kernel_rfl) rfl ?_
  refine s1 ?_
  refine D_callX GC.none fn48.h (OpVs.cons (OpV.t rfl) (OpVs.nil)) (by exact fun hg w F hF hM => s_UpsOk_walk w (a0_1, a0_2) (RdT.nowS (RdT.pair RdT.int (RdT.old h0.2)) hF hM) _ hy2) ?_
  refine s14 ?_
  refine kp [2, 5, 15] ?_
  refine W_cond rfl (fun hc3 => ?_) (fun hc3 => ?_)
  · replace hp := cond_t hc3 hp
    refine s4 ?_
    obtain rfl := Option.some.inj hp
    refine s1 ?_
    refine res1 rfl (ResOK.tmp rfl) ⟨rfl, rfl⟩ ms
  · replace hp := cond_f hc3 hp
    refine s6 ?_
    replace hp := idx_bind hp; obtain ⟨⟨u4_1, u4_2, u4_3⟩, hy4, hp⟩ := hp
    refine L_idxA (X := a0_2) rfl rfl rfl el69.h (RdT.old h0.2) hy4 ?_
    refine s1 ?_
    refine L_load rfl rfl (RdT.at (RdT.old h0.2) (hy4).2) one34.h rfl ?_
    refine s3 ?_
    obtain rfl := Option.some.inj hp
    refine s1 ?_
    refine res1 rfl (ResOK.tmp rfl) ⟨rfl, rfl⟩ ms
noncomputable def i_UpHas (a0 : D_Ups) (a1 : ByteArray) : Option Int :=
  Option.bind (i_UpsOk (a0.1, a0.2)) (fun y1 => cond (!y1) (some 0) (Option.bind (i_Ups_nodes (a0.1, a0.2) a1) (fun y3 => some (y3.length : Int))))
theorem i_UpHas_walk (w : World) (a0 : T_Ups) (a1 : ByteArray) (h0 : GT.rd w [] a0) (r : Int) (hp : i_UpHas (GT.dat a0) a1 = some r) : Spec Try.prog 47 [.agg (GT.cells a0).toArray, .string a1].toArray w [] (IsV (.int .i64 r)) := by
  obtain ⟨a0_1, a0_2⟩ := a0
  change Spec _ _ ([Value.agg #[.int .i64 a0_1, (TL.hdr a0_2)], .string a1] : List Value).toArray w [] _
  refine Spec.intro Try.func47 rfl Try.ntmps47 rfl ?_
  unfold i_UpHas at hp
  replace hp := dd hp
  refine s2 ?_
  refine bx fun bk2 => ?_
  refine s6 ?_
  replace hp := ba hp; obtain ⟨y1, hy1, hp⟩ := hp
  refine L_callX rfl fn94.h rfl (by exact fun w hw => i_UpsOk_walk w (a0_1, a0_2) (RdT.now (RdT.pair RdT.int (RdT.old h0.2)) hw) _ hy1) ?_
  refine s2 ?_
  refine kp [1, 2, 7] ?_
  refine W_cond rfl (fun hc2 => ?_) (fun hc2 => ?_)
  · replace hp := cond_t hc2 hp
    refine s4 ?_
    obtain rfl := Option.some.inj hp
    refine s1 ?_
    refine res1 rfl (ResOK.tmp rfl) ⟨rfl, rfl⟩ ms
  · replace hp := cond_f hc2 hp
    refine s5 ?_
    replace hp := ba hp; obtain ⟨y3, hy3, hp⟩ := hp
    refine L_callR rfl fn97.h rfl (by exact fun w hw => i_Ups_nodes_walk w (a0_1, a0_2) a1 (RdT.now (RdT.pair RdT.int (RdT.old h0.2)) hw) _ hy3) ?_
    rintro _ _ ⟨y3x0, rfl, rfl, rfl, hby3x0⟩
    refine sc ?_
    replace hp := dd hp
    refine s3 ?_
    obtain rfl := Option.some.inj hp
    refine s1 ?_
    refine res1 rfl (ResOK.tmp rfl) ⟨rfl, rfl⟩ ms
noncomputable def i_copyUps (a0 : D_Ups) : Option D_Ups :=
  whileP (fun s1 : Int × (List D_Up) => cond (decide (s1.1 < (a0.2.length : Int))) (Option.bind (idx a0.2 s1.1) (fun y3 => Option.bind (appP ([] : List Int) y3.2.1) (fun y4 => Option.bind (appP s1.2 [(y3.1, y4, y3.2.2)]) (fun y7 => some (.inl ((IntKind.wrap .i64 (s1.1 + 1), y7))))))) (Option.map .inr (some (a0.1, s1.2)))) (0, ([] : List D_Up))
theorem i_copyUps_walk (w : World) (a0 : T_Ups) (h0 : GT.rd w [] a0) (r : D_Ups) (hp : i_copyUps (GT.dat a0) = some r) : Spec Try.prog 95 [.agg (GT.cells a0).toArray].toArray w [] (fun v M => ∃ (x0 : T_Ups), v = .agg (GT.cells x0).toArray ∧ GT.dat x0 = r ∧ M = [treeH x0]) := by
  obtain ⟨a0_1, a0_2⟩ := a0
  change Spec _ _ ([Value.agg #[.int .i64 a0_1, (TL.hdr a0_2)]] : List Value).toArray w [] _
  refine Spec.intro Try.func95 rfl Try.ntmps95 rfl ?_
  unfold i_copyUps at hp
  replace hp := dd hp
  refine s2 ?_
  refine bx fun bk1 => ?_
  refine al fun bk2 => ?_
  refine s5 ?_
  refine L_build (xs := [(0, .tmp 7)]) (cs := [.int .i64 a0_1, (TL.hdr (TL.nil T_Up 0))]) rfl rfl bld71.h rfl ?_
  refine al fun bk3 => ?_
  refine s11 ?_
  refine W_conv (M' := treeH (TL.nil T_Up 0) :: _) (fun w h => addNilT (τ := T_Up) 0 h) ?_
  refine W_while (σ := Int × (TL T_Up)) GT.dat (fun ((v1_0, v1_1) : Int × (TL T_Up)) => [(12, .int .i64 v1_0)]) (fun ((v1_0, v1_1) : Int × (TL T_Up)) => [blk bk3 [.int .i64 a0_1, (TL.hdr v1_1)] 71, treeH v1_1]) [(2, _), (3, _), (10, _), (11, _)] [blk bk2 _ _] (0, (TL.nil T_Up 0)) hp sb ms ?_
  clear hp
  rintro ⟨v1_0, v1_1⟩ x1 hp hx1
  replace hp := dd hp
  refine kq [2, 3, 10, 11, 12] ?_
  refine s5 ?_
  refine kp [2, 3, 10, 11, 12, 13] ?_
  refine W_cond rfl (fun hc2 => ?_) (fun hc2 => ?_)
  · replace hp := cond_t hc2 hp
    refine s5 ?_
    replace hp := idx_bind hp; obtain ⟨⟨u3_1, u3_2, u3_3⟩, hy3, hp⟩ := hp
    refine L_idxA (X := a0_2) rfl rfl rfl el69.h (RdT.old h0.2) hy3 ?_
    refine L_loadW rfl rfl (RdT.at (RdT.old h0.2) (hy3).2) (by exact agg129.h) ?_
    refine al fun bk5 => ?_
    refine s2 ?_
    refine W_conv (M' := treeH (TL.nil Int 0) :: _) (fun w h => addNilT (τ := Int) 0 h) ?_
    replace hp := ba hp; obtain ⟨y4, hy4, hp⟩ := hp
    refine W_DS (pre := [_, _, _, _, _, _, _, _, _, _, _]) (suf := [_, _, _]) [17, 26] [treeH (TL.nil Int 0)] _ pc mix (by kernel_rfl) (by kernel_rfl) rfl ?_
    refine s6 ?_
    refine D_appT (X := (TL.nil Int 0)) (Y := u3_2) (OpV.c (v := (TL.hdr (TL.nil Int 0)))) (OpV.t rfl) el34.h rfl rfl pk (RdT.fst (RdT.snd (RdT.of (RdT.old h0.2) (hy3).2))) hy4 (by decide) ?_
    refine s2 ?_
    refine D_buildO (τ := Int) (t := 22) (xs := [(0, .tmp 19), (1, .tmp 22), (2, .tmp 24)]) (ps := fun u => [(0, .string u3_1), (1, u), (2, .int .i64 u3_3)]) (cs := fun u => [.string u3_1, u, .int .i64 u3_3]) rfl (fun u => (OpVp.cons (OpV.t rfl) (OpVp.cons (OpV.t rfl) (OpVp.cons (OpV.t rfl) (OpVp.nil))))) bld129.h (fun X => rfl) (by kernel_rfl) ?_
    refine D_bs1O (t := 25) rfl el69.h rfl (by decide) (by decide) (fun X => rfl) (by kernel_rfl) ?_
    refine s1 ?_
    refine Give_R rfl rfl ?_
    rintro _ _ ⟨X5, bb26, rfl, rfl, rfl⟩
    simp only [List.cons_append, List.nil_append]
    refine s11 ?_
    replace hp := ba hp; obtain ⟨y7, hy7, hp⟩ := hp
    refine jL ((u3_1, X5, u3_3) : T_Up) ?_
    refine L_app1 (X := v1_1) ((u3_1, X5, u3_3) : T_Up) rfl rfl rfl el69.h rfl rfl pk mm pk hy7 (by decide) (fun X6 hdX6 => ?_)
    subst hdX6
    refine s7 ?_
    exact ⟨(IntKind.wrap .i64 (v1_0 + 1), X6), sb, (.sub ms), some_eq hp⟩
  · replace hp := cond_f hc2 hp
    refine W_exit ?_
    replace hp := map_any hp; obtain ⟨a8, hp, hx_a8⟩ := hp
    obtain rfl := hx1 _ hx_a8
    refine s5 ?_
    obtain rfl := Option.some.inj hp
    refine jW ((a0_1, v1_1) : T_Ups) ?_
    refine s1 ?_
    refine res1 rfl (ResOK.cell rfl mm (by exact agg71.h)) ⟨(a0_1, v1_1), rfl, rfl, rfl⟩ ms
noncomputable def s_l18Has (a0 : List Int) (a1 : Int) : Option Bool :=
  whileP (fun s1 : Int => cond (decide (s1 < (a0.length : Int))) (Option.bind (idx a0 s1) (fun y3 => cond (decide (y3 = a1)) (Option.map .inr (some true)) (some (.inl (IntKind.wrap .i64 (s1 + 1)))))) (Option.map .inr (some false))) 0
theorem s_l18Has_walk (w : World) (a0 : TL Int) (a1 : Int) (h0 : GT.rd w [] a0) (r : Bool) (hp : s_l18Has (GT.dat a0) a1 = some r) : Spec Try.prog 109 [(TL.hdr a0), .int .i64 a1].toArray w [] (IsV (.bool r)) := by
  refine Spec.intro Try.func109 rfl Try.ntmps109 rfl ?_
  unfold s_l18Has at hp
  replace hp := dd hp
  refine s10 ?_
  refine W_while (σ := Int) GT.dat (fun (v1_0 : Int) => [(5, .int .i64 v1_0)]) (fun (v1_0 : Int) => []) [(0, _), (1, _)] [] 0 hp sb ms ?_
  clear hp
  rintro v1_0 x1 hp hx1
  replace hp := dd hp
  refine kq [0, 1, 5] ?_
  refine s8 ?_
  refine kp [0, 1, 5, 9] ?_
  refine W_cond rfl (fun hc2 => ?_) (fun hc2 => ?_)
  · replace hp := cond_t hc2 hp
    refine s7 ?_
    replace hp := idx_bind hp; obtain ⟨u3, hy3, hp⟩ := hp
    refine L_idxA (X := a0) rfl rfl rfl el34.h (RdT.old h0) hy3 ?_
    refine L_load0 rfl rfl (RdT.at (RdT.old h0) (hy3).2) one3.h rfl ?_
    refine s3 ?_
    refine kp [0, 1, 5, 17] ?_
    refine W_cond rfl (fun hc4 => ?_) (fun hc4 => ?_)
    · replace hp := cond_t hc4 hp
      refine s4 ?_
      replace hp := map_any hp; obtain ⟨a5, hp, hx_a5⟩ := hp
      obtain rfl := hx1 _ hx_a5
      obtain rfl := Option.some.inj hp
      refine s1 ?_
      refine res1 rfl (ResOK.tmp rfl) ⟨rfl, rfl⟩ ms
    · replace hp := cond_f hc4 hp
      refine s6 ?_
      exact ⟨IntKind.wrap .i64 (v1_0 + 1), sb, (.sub ms), some_eq hp⟩
  · replace hp := cond_f hc2 hp
    refine W_exit ?_
    replace hp := map_any hp; obtain ⟨a6, hp, hx_a6⟩ := hp
    obtain rfl := hx1 _ hx_a6
    refine s4 ?_
    obtain rfl := Option.some.inj hp
    refine s1 ?_
    refine res1 rfl (ResOK.tmp rfl) ⟨rfl, rfl⟩ ms
noncomputable def s_l18With (a0 : List Int) (a1 : Int) (a2 : Bool) : Option (List Int) :=
  Option.bind (some ([] : List Int)) (fun y2 => whileP (fun s3 : (List Int) × Int => cond (decide (s3.2 < 3)) (gb ((!((decide (s3.2 = a1)) && a2)) && (!decide (s3.2 = a1))) (s_l18Has a0 s3.2) (fun y5 => cond (((decide (s3.2 = a1)) && a2) || ((!decide (s3.2 = a1)) && y5)) (Option.bind (appP s3.1 [s3.2]) (fun y8 => some (.inl ((y8, IntKind.wrap .i64 (s3.2 + 1)))))) (some (.inl ((s3.1, IntKind.wrap .i64 (s3.2 + 1))))))) (Option.map .inr (some s3.1))) (y2, 0))
theorem s_l18With_walk (w : World) (a0 : TL Int) (a1 : Int) (a2 : Bool) (h0 : GT.rd w [] a0) (r : (List Int)) (hp : s_l18With (GT.dat a0) a1 a2 = some r) : Spec Try.prog 101 [(TL.hdr a0), .int .i64 a1, .bool a2].toArray w [] (fun v M => ∃ (x0 : TL Int), v = (TL.hdr x0) ∧ GT.dat x0 = r ∧ M = [treeH x0]) := by
  refine Spec.intro Try.func101 rfl Try.ntmps101 rfl ?_
  unfold s_l18With at hp
  replace hp := dd hp
  refine s2 ?_
  refine L_assign (v := (TL.hdr (TL.nil Int 0))) rfl rfl ?_
  refine s3 ?_
  replace hp := ba hp; obtain ⟨y2, hy2, hp⟩ := hp
  refine L_mk0 Int rfl el34.h (fun X1 hdX1 => ?_)
  obtain rfl : GT.dat X1 = y2 := hdX1.trans (Option.some.inj hy2)
  clear hy2 hdX1
  refine s8 ?_
  refine W_while (σ := (TL Int) × Int) GT.dat (fun ((v3_0, v3_1) : (TL Int) × Int) => [(7, (TL.hdr v3_0)), (8, .int .i64 v3_1)]) (fun ((v3_0, v3_1) : (TL Int) × Int) => [treeH v3_0]) [(0, _), (1, _), (2, _)] [] (X1, 0) hp sb ms ?_
  clear hp
  rintro ⟨v3_0, v3_1⟩ x3 hp hx3
  replace hp := dd hp
  refine kq [0, 1, 2, 7, 8] ?_
  refine s6 ?_
  refine kp [0, 1, 2, 7, 8, 11] ?_
  refine W_cond rfl (fun hc4 => ?_) (fun hc4 => ?_)
  · replace hp := cond_t hc4 hp
    refine s4 ?_
    replace hp := gb_any hp; obtain ⟨y5, hy5, hp⟩ := hp
    refine W_D0 [29] mix (by kernel_rfl) rfl ?_
    refine s13 ?_
    refine D_callX (GC.some rfl rfl) fn109.h (OpVs.cons (OpV.s rfl) (OpVs.cons (OpV.s rfl) (OpVs.nil))) (by exact fun hg w F hF hM => s_l18Has_walk w a0 v3_1 (RdT.nowS (RdT.old h0) hF hM) _ (hy5 (gand (gnot hg.1.2) hg.2))) ?_
    refine s20 ?_
    refine kp [0, 1, 2, 7, 8, 29] ?_
    refine W_cond rfl (fun hc6 => ?_) (fun hc6 => ?_)
    · replace hp := cond_t hc6 hp
      refine s3 ?_
      refine L_buildSlice1 rfl rfl el34.h rfl (by decide) (by decide) rfl (fun bb32 => ?_)
      replace hp := ba hp; obtain ⟨y8, hy8, hp⟩ := hp
      refine L_app1F (X := v3_0) (v3_1 : Int) rfl rfl rfl el34.h rfl rfl pk mm  hy8 (by decide) (fun X7 hdX7 => ?_)
      subst hdX7
      refine s7 ?_
      exact ⟨(X7, IntKind.wrap .i64 (v3_1 + 1)), sb, (.sub ms), some_eq hp⟩
    · replace hp := cond_f hc6 hp
      refine s6 ?_
      exact ⟨(v3_0, IntKind.wrap .i64 (v3_1 + 1)), sb, (.sub ms), some_eq hp⟩
  · replace hp := cond_f hc4 hp
    refine W_exit ?_
    replace hp := map_any hp; obtain ⟨a9, hp, hx_a9⟩ := hp
    obtain rfl := hx3 _ hx_a9
    refine s5 ?_
    obtain rfl := Option.some.inj hp
    refine s1 ?_
    refine res1 rfl (ResOK.tmp rfl) ⟨v3_0, rfl, rfl, rfl⟩ ms
noncomputable def s_l18Copy (a0 : D_Ups) : Option D_Ups :=
  whileP (fun s1 : Int × (List D_Up) => cond (decide (s1.1 < (a0.2.length : Int))) (Option.bind (idx a0.2 s1.1) (fun y3 => Option.bind (some ([] : List Int)) (fun y5 => Option.bind (appP y5 y3.2.1) (fun y7 => Option.bind (appP s1.2 [(y3.1, y7, y3.2.2)]) (fun y9 => some (.inl ((IntKind.wrap .i64 (s1.1 + 1), y9)))))))) (Option.map .inr (some (a0.1, s1.2)))) (0, ([] : List D_Up))
theorem s_l18Copy_walk (w : World) (a0 : T_Ups) (h0 : GT.rd w [] a0) (r : D_Ups) (hp : s_l18Copy (GT.dat a0) = some r) : Spec Try.prog 103 [.agg (GT.cells a0).toArray].toArray w [] (fun v M => ∃ (x0 : T_Ups), v = .agg (GT.cells x0).toArray ∧ GT.dat x0 = r ∧ M = [treeH x0]) := by
  obtain ⟨a0_1, a0_2⟩ := a0
  change Spec _ _ ([Value.agg #[.int .i64 a0_1, (TL.hdr a0_2)]] : List Value).toArray w [] _
  refine Spec.intro Try.func103 rfl Try.ntmps103 rfl ?_
  unfold s_l18Copy at hp
  replace hp := dd hp
  refine s2 ?_
  refine bx fun bk1 => ?_
  refine al fun bk2 => ?_
  refine s5 ?_
  refine L_build (xs := [(0, .tmp 7)]) (cs := [.int .i64 a0_1, (TL.hdr (TL.nil T_Up 0))]) rfl rfl bld71.h rfl ?_
  refine al fun bk3 => ?_
  refine s8 ?_
  refine W_conv (M' := treeH (TL.nil T_Up 0) :: _) (fun w h => addNilT (τ := T_Up) 0 h) ?_
  refine W_while (σ := Int × (TL T_Up)) GT.dat (fun ((v1_0, v1_1) : Int × (TL T_Up)) => [(4, .int .i64 v1_0)]) (fun ((v1_0, v1_1) : Int × (TL T_Up)) => [blk bk3 [.int .i64 a0_1, (TL.hdr v1_1)] 71, treeH v1_1]) [(1, _), (2, _), (3, _)] [blk bk1 _ _, blk bk2 _ _] (0, (TL.nil T_Up 0)) hp sb ms ?_
  clear hp
  rintro ⟨v1_0, v1_1⟩ x1 hp hx1
  replace hp := dd hp
  refine kq [1, 2, 3, 4] ?_
  refine s9 ?_
  refine kp [1, 2, 3, 4, 13] ?_
  refine W_cond rfl (fun hc2 => ?_) (fun hc2 => ?_)
  · replace hp := cond_t hc2 hp
    refine s8 ?_
    replace hp := idx_bind hp; obtain ⟨⟨u3_1, u3_2, u3_3⟩, hy3, hp⟩ := hp
    refine L_idxA (X := a0_2) rfl rfl rfl el69.h (RdT.old h0.2) hy3 ?_
    refine L_loadW rfl rfl (RdT.at (RdT.old h0.2) (hy3).2) (by exact agg129.h) ?_
    refine al fun bk5 => ?_
    refine s4 ?_
    replace hp := ba hp; obtain ⟨y5, hy5, hp⟩ := hp
    refine L_mk0 Int rfl el34.h (fun X4 hdX4 => ?_)
    obtain rfl : GT.dat X4 = y5 := hdX4.trans (Option.some.inj hy5)
    clear hy5 hdX4
    refine s2 ?_
    replace hp := ba hp; obtain ⟨y7, hy7, hp⟩ := hp
    refine L_appT (X := X4) (Y := u3_2) rfl rfl rfl el34.h rfl rfl pk (RdT.fst (RdT.snd (RdT.of (RdT.old h0.2) (hy3).2))) hy7 (by decide) (fun X6 hdX6 => ?_)
    subst hdX6
    refine s7 ?_
    refine L_buildSlice1 rfl rfl el69.h rfl (by decide) (by decide) rfl (fun bb29 => ?_)
    replace hp := ba hp; obtain ⟨y9, hy9, hp⟩ := hp
    refine jL ((u3_1, X6, u3_3) : T_Up) ?_
    refine L_app1 (X := v1_1) ((u3_1, X6, u3_3) : T_Up) rfl rfl rfl el69.h rfl rfl pk mm pk hy9 (by decide) (fun X8 hdX8 => ?_)
    subst hdX8
    refine s8 ?_
    exact ⟨(IntKind.wrap .i64 (v1_0 + 1), X8), sb, (.sub ms), some_eq hp⟩
  · replace hp := cond_f hc2 hp
    refine W_exit ?_
    replace hp := map_any hp; obtain ⟨a10, hp, hx_a10⟩ := hp
    obtain rfl := hx1 _ hx_a10
    refine s5 ?_
    obtain rfl := Option.some.inj hp
    refine jW ((a0_1, v1_1) : T_Ups) ?_
    refine s1 ?_
    refine res1 rfl (ResOK.cell rfl mm (by exact agg71.h)) ⟨(a0_1, v1_1), rfl, rfl, rfl⟩ ms
noncomputable def s_l18Set (a0 : D_Ups) (a1 : D_Up) : Option D_Ups :=
  whileP (fun s1 : Bool × Int × (List D_Up) => cond (decide (s1.2.1 < (a0.2.length : Int))) (jbind (gb (!s1.1) (idx a0.2 s1.2.1) (fun y4 => cond ((!s1.1) && (!sLt y4.1 a1.1)) (Option.bind (appP s1.2.2 [(a1.1, a1.2.1, a1.2.2)]) (fun y7 => some (.inl ((true, y7))))) (some (.inl ((s1.1, s1.2.2)))))) (fun s3 : Bool × (List D_Up) => Option.bind (idx a0.2 s1.2.1) (fun y8 => cond (!decide (y8.1 = a1.1)) (Option.bind (idx a0.2 s1.2.1) (fun y10 => Option.bind (appP s3.2 [(y10.1, y10.2.1, y10.2.2)]) (fun y12 => some (.inl ((s3.1, IntKind.wrap .i64 (s1.2.1 + 1), y12)))))) (some (.inl ((s3.1, IntKind.wrap .i64 (s1.2.1 + 1), s3.2))))))) (Option.map .inr (cond (!s1.1) (Option.bind (appP s1.2.2 [(a1.1, a1.2.1, a1.2.2)]) (fun y16 => some (a0.1, y16))) (some (a0.1, s1.2.2))))) (decide ((a1.2.1.length : Int) = 0), 0, ([] : List D_Up))
theorem s_l18Set_walk (w : World) (a0 : T_Ups) (a1 : T_Up)  (r : D_Ups) (hp : s_l18Set (GT.dat a0) (GT.dat a1) = some r) : Spec Try.prog 102 [.agg (GT.cells a0).toArray, .agg (GT.cells a1).toArray].toArray w [treeH a0.2, treeH a1.2.1] (fun v M => ∃ (x0 : T_Ups), v = .agg (GT.cells x0).toArray ∧ GT.dat x0 = r ∧ M = [treeH x0]) := by
  obtain ⟨a0_1, a0_2⟩ := a0
  obtain ⟨a1_1, a1_2, a1_3⟩ := a1
  change Spec _ _ ([Value.agg #[.int .i64 a0_1, (TL.hdr a0_2)], Value.agg #[.string a1_1, (TL.hdr a1_2), .int .i64 a1_3]] : List Value).toArray w _ _
  refine Spec.intro Try.func102 rfl Try.ntmps102 rfl ?_
  unfold s_l18Set at hp
  replace hp := dd hp
  refine s2 ?_
  refine bx fun bk2 => ?_
  refine bx fun bk3 => ?_
  refine al fun bk4 => ?_
  refine s5 ?_
  refine L_build (xs := [(0, .tmp 9)]) (cs := [.int .i64 a0_1, (TL.hdr (TL.nil T_Up 0))]) rfl rfl bld71.h rfl ?_
  refine al fun bk5 => ?_
  refine s16 ?_
  refine W_conv (M' := rowH a0_2 :: elsT (a0_2.els.drop 0) :: _) (fun w h => els_start pk h) ?_
  refine W_conv (M' := condH (decide (((GT.dat a1_2).length : Int) = 0)) (treeH a1_2) :: _) (fun w h => cond_in pk h) ?_
  refine W_conv (M' := treeH (TL.nil T_Up 0) :: _) (fun w h => addNilT (τ := T_Up) 0 h) ?_
  refine W_while (σ := Bool × Int × (TL T_Up)) GT.dat (fun ((v1_0, v1_1, v1_2) : Bool × Int × (TL T_Up)) => [(6, .bool v1_0), (7, .int .i64 v1_1)]) (fun ((v1_0, v1_1, v1_2) : Bool × Int × (TL T_Up)) => [blk bk5 [.int .i64 a0_1, (TL.hdr v1_2)] 71, treeH v1_2, elsT (a0_2.els.drop (v1_1.toNat)), condH v1_0 (treeH a1_2)]) [(2, _), (3, _), (4, _), (5, _)] [blk bk2 _ _, blk bk3 _ _, blk bk4 _ _, rowH a0_2] (decide (((GT.dat a1_2).length : Int) = 0), 0, (TL.nil T_Up 0)) hp sb ms ?_
  clear hp
  rintro ⟨v1_0, v1_1, v1_2⟩ x1 hp hx1
  replace hp := dd hp
  refine kq [2, 3, 4, 5, 6, 7] ?_
  refine s9 ?_
  refine kp [2, 3, 4, 5, 6, 7, 19] ?_
  refine W_cond rfl (fun hc2 => ?_) (fun hc2 => ?_)
  · replace hp := cond_t hc2 hp
    refine s3 ?_
    refine W_jn (σ := Bool × (TL T_Up)) GT.dat (fun ((v3_0, v3_1) : Bool × (TL T_Up)) => [(6, .bool v3_0)]) (fun ((v3_0, v3_1) : Bool × (TL T_Up)) => [blk bk5 [.int .i64 a0_1, (TL.hdr v3_1)] 71, treeH v3_1, elsT (a0_2.els.drop (v1_1.toNat)), condH v3_0 (treeH a1_2)]) [(2, .pointer (some ⟨bk2, 0, none⟩)), (3, .pointer (some ⟨bk3, 0, none⟩)), (4, .pointer (some ⟨bk4, 0, none⟩)), (5, .pointer (some ⟨bk5, 0, none⟩)), (7, .int .i64 v1_1)] [blk bk2 [.int .i64 a0_1, (TL.hdr a0_2)] 71, blk bk3 [.string a1_1, (TL.hdr a1_2), .int .i64 a1_3] 129, blk bk4 [.int .i64 0, (TL.hdr (TL.nil T_Up 0))] 71, rowH a0_2] hp ?_ ?_
    · clear hp
      intro x3 hp hx3
      refine s1 ?_
      replace hp := idx_gb hp; obtain ⟨⟨u4_1, u4_2, u4_3⟩, hy4, hp⟩ := hp
      refine W_D0 [34] mix (by kernel_rfl) rfl ?_
      refine s6 ?_
      refine D_idxR (X := a0_2) (GC.some rfl rfl) (OpV.s rfl) (OpV.s rfl) el69.h mm (fun hg => hy4 hg.2) ?_
      refine s1 ?_
      refine D_load (GC.some rfl rfl) (OpV.s rfl) (fun hg => RdC.row (X := a0_2) mm (hy4 hg.2).2) one9.h rfl ?_
      refine s19 ?_
      refine kp [2, 3, 4, 5, 6, 7, 34] ?_
      refine W_cond rfl (fun hc5 => ?_) (fun hc5 => ?_)
      · replace hp := cond_t hc5 hp
        refine s5 ?_
        refine L_buildSlice1 rfl rfl el69.h rfl (by decide) (by decide) rfl (fun bb38 => ?_)
        replace hp := ba hp; obtain ⟨y7, hy7, hp⟩ := hp
        refine L_conv (M' := treeH a1_2 :: _) (fun w h => cond_out pk (by first | exact bf1 hc2 | exact bf2 hc2 | exact bf1 hc5 | exact bf2 hc5) h) ?_
        refine jL ((a1_1, a1_2, a1_3) : T_Up) ?_
        refine L_app1 (X := v1_2) ((a1_1, a1_2, a1_3) : T_Up) rfl rfl rfl el69.h rfl rfl pk mm pk hy7 (by decide) (fun X6 hdX6 => ?_)
        subst hdX6
        refine s6 ?_
        exact ⟨(true, X6), sb, ⟨_, fun w h => (condH_true (h := treeH a1_2) h), ms⟩, some_eq hp⟩
      · replace hp := cond_f hc5 hp
        refine s1 ?_
        exact ⟨(v1_0, v1_2), sb, (.sub ms), some_eq hp⟩
    · clear hp
      rintro ⟨v3_0, v3_1⟩ hp
      replace hp := dd hp
      refine kq [2, 3, 4, 5, 6, 7] ?_
      refine s1 ?_
      replace hp := idx_bind hp; obtain ⟨⟨u8_1, u8_2, u8_3⟩, hy8, hp⟩ := hp
      refine W_D0 [49] mix (by kernel_rfl) rfl ?_
      refine s3 ?_
      refine D_idxR (X := a0_2) GC.none (OpV.t rfl) (OpV.t rfl) el69.h mm (fun hg => hy8) ?_
      refine s1 ?_
      refine D_load GC.none (OpV.t rfl) (fun hg => RdC.row (X := a0_2) mm (hy8).2) one9.h rfl ?_
      refine s14 ?_
      refine kp [2, 3, 4, 5, 6, 7, 49] ?_
      refine W_cond rfl (fun hc9 => ?_) (fun hc9 => ?_)
      · replace hp := cond_t hc9 hp
        replace hp := idx_bind hp; obtain ⟨u10, hy10, hp⟩ := hp
        obtain rfl : (u8_1, u8_2, u8_3) = u10 := Option.some.inj (hy8.2.symm.trans hy10.2)
        refine W_conv (M' := treeH (u8_1, u8_2, u8_3) :: elsT (a0_2.els.drop (v1_1.toNat + 1)) :: _) (fun w h => els_next hy8.2 pk h) ?_
        refine xW ((u8_1, u8_2, u8_3) : T_Up) ?_
        refine W_DS (pre := [_, _, _, _, _, _, _, _]) (suf := [_, _, _]) [51, 57] [] _ pc mix (by kernel_rfl) (by kernel_rfl) rfl ?_
        refine s5 ?_
        refine D_idxR (X := a0_2) GC.none (OpV.t rfl) (OpV.t rfl) el69.h mm (fun hg => hy8) ?_
        refine D_loadW GC.none (OpV.t rfl) (fun hg => RdC.row (X := a0_2) mm hy8.2) (by exact agg129.h) ?_
        refine D_bs1 (OpV.t rfl) el69.h rfl (by decide) (by decide) rfl ?_
        refine s1 ?_
        refine Give_R rfl rfl ?_
        rintro _ _ ⟨bb57, rfl, rfl⟩
        simp only [List.cons_append, List.nil_append]
        refine s8 ?_
        replace hp := ba hp; obtain ⟨y12, hy12, hp⟩ := hp
        refine jL ((u8_1, u8_2, u8_3) : T_Up) ?_
        refine L_app1 (X := v3_1) ((u8_1, u8_2, u8_3) : T_Up) rfl rfl rfl el69.h rfl rfl pk mm pk hy12 (by decide) (fun X11 hdX11 => ?_)
        subst hdX11
        refine s8 ?_
        exact ⟨(v3_0, IntKind.wrap .i64 (v1_1 + 1), X11), sb, ⟨_, fun w h => (els_step hy8 mm pk h), ms⟩, some_eq hp⟩
      · replace hp := cond_f hc9 hp
        refine s6 ?_
        exact ⟨(v3_0, IntKind.wrap .i64 (v1_1 + 1), v3_1), sb, ⟨_, fun w h => (els_skip hy8 mm pk h), ms⟩, some_eq hp⟩
  · replace hp := cond_f hc2 hp
    refine W_exit ?_
    replace hp := map_any hp; obtain ⟨a13, hp, hx_a13⟩ := hp
    obtain rfl := hx1 _ hx_a13
    refine s6 ?_
    refine kp [3, 4, 5, 61] ?_
    refine W_cond rfl (fun hc14 => ?_) (fun hc14 => ?_)
    · replace hp := cond_t hc14 hp
      refine s4 ?_
      refine L_buildSlice1 rfl rfl el69.h rfl (by decide) (by decide) rfl (fun bb65 => ?_)
      replace hp := ba hp; obtain ⟨y16, hy16, hp⟩ := hp
      refine L_conv (M' := treeH a1_2 :: _) (fun w h => cond_out pk (by first | exact bf1 hc14 | exact bf2 hc14) h) ?_
      refine jL ((a1_1, a1_2, a1_3) : T_Up) ?_
      refine L_app1 (X := v1_2) ((a1_1, a1_2, a1_3) : T_Up) rfl rfl rfl el69.h rfl rfl pk mm pk hy16 (by decide) (fun X15 hdX15 => ?_)
      subst hdX15
      refine s8 ?_
      obtain rfl := Option.some.inj hp
      refine jW ((a0_1, X15) : T_Ups) ?_
      refine s1 ?_
      refine res1 rfl (ResOK.cell rfl mm (by exact agg71.h)) ⟨(a0_1, X15), rfl, rfl, rfl⟩ ms
    · replace hp := cond_f hc14 hp
      refine s6 ?_
      obtain rfl := Option.some.inj hp
      refine jW ((a0_1, v1_2) : T_Ups) ?_
      refine s1 ?_
      refine res1 rfl (ResOK.cell rfl mm (by exact agg71.h)) ⟨(a0_1, v1_2), rfl, rfl, rfl⟩ ms
noncomputable def sl_IndexFunc_intint (a0 : List Int) (a1 : Int → Option Bool) : Option Int :=
  whileP (fun s1 : Int => cond (decide (s1 < (a0.length : Int))) (Option.bind (idx a0 s1) (fun y3 => Option.bind (a1 y3) (fun y4 => cond y4 (Option.map .inr (some s1)) (some (.inl (IntKind.wrap .i64 (s1 + 1))))))) (Option.map .inr (some (-1)))) 0
theorem sl_IndexFunc_intint_walk (w : World) (a0 : TL Int) (f1 : Nat) (cs1 : List Value) (a1 : Int → Option Bool) (h0 : GT.rd w [] a0) (hf1 : IsFn Try.prog f1) (hk1 : ∀ (w' : World) (F : List HP) (u0 : Int) (v : Bool), Holds w [] F w' → GT.rd w' [] u0 → a1 (GT.dat u0) = some v → Spec Try.prog f1 ([(.int .i64 u0 : Value)] ++ cs1).toArray w' [] (IsV (.bool v))) (r : Int) (hp : sl_IndexFunc_intint (GT.dat a0) a1 = some r) : Spec Try.prog 144 [(TL.hdr a0), .func (.func f1) #[] cs1.toArray].toArray w [] (IsV (.int .i64 r)) := by
  refine Spec.intro Try.func144 rfl Try.ntmps144 rfl ?_
  unfold sl_IndexFunc_intint at hp
  replace hp := dd hp
  refine s12 ?_
  refine W_while (σ := Int) GT.dat (fun (v1_0 : Int) => [(8, .int .i64 v1_0)]) (fun (v1_0 : Int) => []) [(0, _), (1, _), (7, _)] [] 0 hp sb ms ?_
  clear hp
  rintro v1_0 x1 hp hx1
  replace hp := dd hp
  refine kq [0, 1, 7, 8] ?_
  refine s5 ?_
  refine kp [0, 1, 7, 8, 9] ?_
  refine W_cond rfl (fun hc2 => ?_) (fun hc2 => ?_)
  · replace hp := cond_t hc2 hp
    refine s13 ?_
    replace hp := idx_bind hp; obtain ⟨u3, hy3, hp⟩ := hp
    refine L_idxA (X := a0) rfl rfl rfl el34.h (RdT.old h0) hy3 ?_
    refine L_load0 rfl rfl (RdT.at (RdT.old h0) (hy3).2) one3.h rfl ?_
    replace hp := ba hp; obtain ⟨y4, hy4, hp⟩ := hp
    refine L_callVX rfl rfl hf1 rfl (by exact fun w hw => hk1 w _ u3 y4 hw (RdT.now RdT.int hw) hy4) ?_
    refine s1 ?_
    refine kp [0, 1, 5, 7, 8, 16] ?_
    refine W_cond rfl (fun hc5 => ?_) (fun hc5 => ?_)
    · replace hp := cond_t hc5 hp
      refine s5 ?_
      replace hp := map_any hp; obtain ⟨a6, hp, hx_a6⟩ := hp
      obtain rfl := hx1 _ hx_a6
      obtain rfl := Option.some.inj hp
      refine s1 ?_
      refine res1 rfl (ResOK.tmp rfl) ⟨rfl, rfl⟩ ms
    · replace hp := cond_f hc5 hp
      refine s5 ?_
      exact ⟨IntKind.wrap .i64 (v1_0 + 1), sb, (.sub ms), some_eq hp⟩
  · replace hp := cond_f hc2 hp
    refine W_exit ?_
    replace hp := map_any hp; obtain ⟨a7, hp, hx_a7⟩ := hp
    obtain rfl := hx1 _ hx_a7
    refine s4 ?_
    obtain rfl := Option.some.inj hp
    refine s1 ?_
    refine res1 rfl (ResOK.tmp rfl) ⟨rfl, rfl⟩ ms
noncomputable def sl_DeleteFunc_intint (a0 : List Int) (a1 : Int → Option Bool) : Option (List Int) :=
  Option.bind (sl_IndexFunc_intint a0 a1) (fun y1 => cond (decide (y1 = (-1))) (some a0) (whileP (fun s3 : (List Int) × Int × Int => cond (decide (s3.2.2 < (s3.1.length : Int))) (Option.bind (idx s3.1 s3.2.2) (fun y5 => Option.bind (a1 y5) (fun y6 => cond (!y6) (Option.bind (idx s3.1 s3.2.1) (fun y8 => Option.bind (some (s3.1.set (s3.2.1.toNat) y5)) (fun y9 => some (.inl ((y9, IntKind.wrap .i64 (s3.2.1 + 1), IntKind.wrap .i64 (s3.2.2 + 1))))))) (some (.inl ((s3.1, s3.2.1, IntKind.wrap .i64 (s3.2.2 + 1)))))))) (Option.map .inr (Option.bind (slcP s3.1 s3.2.1 (s3.1.length : Int)) (fun y12 => Option.bind (chkP (decide (s3.2.1 < (s3.1.length : Int)))) (fun y14 => Option.bind (some (clrD s3.1 s3.2.1 (s3.1.length : Int) 0)) (fun y15 => Option.bind (slcP y15 0 s3.2.1) (fun y17 => some y17))))))) (a0, y1, IntKind.wrap .i64 (y1 + 1))))
theorem sl_DeleteFunc_intint_walk (w : World) (a0 : TL Int) (f1 : Nat) (cs1 : List Value) (a1 : Int → Option Bool) (hf1 : IsFn Try.prog f1) (hk1 : ∀ (w' : World) (F : List HP) (u0 : Int) (v : Bool), Holds w (fps [treeH a0]) F w' → GT.rd w' [] u0 → a1 (GT.dat u0) = some v → Spec Try.prog f1 ([(.int .i64 u0 : Value)] ++ cs1).toArray w' [] (IsV (.bool v))) (r : (List Int)) (hp : sl_DeleteFunc_intint (GT.dat a0) a1 = some r) : Spec Try.prog 106 [(TL.hdr a0), .func (.func f1) #[] cs1.toArray].toArray w [treeH a0] (fun v M => ∃ (x0 : TL Int), v = (TL.hdr x0) ∧ GT.dat x0 = r ∧ M = [treeH x0]) := by
  refine Spec.intro Try.func106 rfl Try.ntmps106 rfl ?_
  unfold sl_DeleteFunc_intint at hp
  replace hp := dd hp
  refine s2 ?_
  refine L_assign (v := (TL.hdr (TL.nil Int 0))) rfl rfl ?_
  refine s5 ?_
  replace hp := ba hp; obtain ⟨y1, hy1, hp⟩ := hp
  refine L_callX rfl fn144.h rfl (by exact fun w hw => sl_IndexFunc_intint_walk w a0 f1 cs1 a1 (RdT.now (RdT.tree mm) hw) hf1 (fun w' F u0 v hF hu0 hv => hk1 w' _ u0 v (Holds.frame (M1 := []) (M2 := _) hw hF) hu0 hv) _ hy1) ?_
  refine s8 ?_
  refine kp [0, 1, 5, 12] ?_
  refine W_cond rfl (fun hc2 => ?_) (fun hc2 => ?_)
  · replace hp := cond_t hc2 hp
    refine s5 ?_
    obtain rfl := Option.some.inj hp
    refine s1 ?_
    refine res1 rfl (ResOK.tmp rfl) ⟨a0, rfl, rfl, rfl⟩ ms
  · replace hp := cond_f hc2 hp
    refine s9 ?_
    refine W_while (σ := (TL Int) × Int × Int) GT.dat (fun ((v3_0, v3_1, v3_2) : (TL Int) × Int × Int) => [(0, (TL.hdr v3_0)), (5, .int .i64 v3_1), (6, .int .i64 v3_2)]) (fun ((v3_0, v3_1, v3_2) : (TL Int) × Int × Int) => [treeH v3_0]) [(1, _)] [] (a0, y1, IntKind.wrap .i64 (y1 + 1)) hp sb ms ?_
    clear hp
    rintro ⟨v3_0, v3_1, v3_2⟩ x3 hp hx3
    replace hp := dd hp
    refine kq [0, 1, 5, 6] ?_
    refine s8 ?_
    refine kp [0, 1, 5, 6, 19] ?_
    refine W_cond rfl (fun hc4 => ?_) (fun hc4 => ?_)
    · replace hp := cond_t hc4 hp
      refine s7 ?_
      replace hp := idx_bind hp; obtain ⟨u5, hy5, hp⟩ := hp
      refine L_idxA (X := v3_0) rfl rfl rfl el34.h (RdT.tree mm) hy5 ?_
      refine L_load0 rfl rfl (RdT.at (RdT.tree mm) (hy5).2) one3.h rfl ?_
      refine s6 ?_
      replace hp := ba hp; obtain ⟨y6, hy6, hp⟩ := hp
      refine L_callVX rfl rfl hf1 rfl (by exact fun w hw => hk1 w _ u5 y6 hw (RdT.now RdT.int hw) hy6) ?_
      refine s2 ?_
      refine kp [0, 1, 5, 6, 7, 29] ?_
      refine W_cond rfl (fun hc7 => ?_) (fun hc7 => ?_)
      · replace hp := cond_t hc7 hp
        refine s5 ?_
        replace hp := idx_bind hp; obtain ⟨u8, hy8, hp⟩ := hp
        refine L_idxA (X := v3_0) rfl rfl rfl el34.h (RdT.tree mm) hy8 ?_
        refine L_conv (M' := treeH u8 :: holeH v3_0 (v3_1.toNat) (GT.cells u8) :: _) (fun w h => hole_open hy8.2 pk h) ?_
        refine L_stH (X := v3_0) (i := v3_1.toNat) (sz := 1) (fo := 0) (n := 1) rfl rfl pk rfl (.inr ⟨one3.h, rfl⟩) rfl (allOne rfl) (Nat.le_of_ble_eq_true rfl) ?_
        refine L_conv (M' := treeH (u5 : Int) :: _) (fun w h => addF (u5 : Int) h) ?_
        replace hp := ba hp; obtain ⟨y9, hy9, hp⟩ := hp
        refine L_close (X := v3_0) (u5 : Int) rfl pk pk hy9 (fun X10 hdX10 hhX10 => ?_)
        subst hdX10
        try rw [← hhX10]
        try rw [← g_of_hdr hhX10]
        try rw [← o_of_hdr hhX10]
        refine s11 ?_
        exact ⟨(X10, IntKind.wrap .i64 (v3_1 + 1), IntKind.wrap .i64 (v3_2 + 1)), sb, (.sub ms), some_eq hp⟩
      · replace hp := cond_f hc7 hp
        refine s6 ?_
        exact ⟨(v3_0, v3_1, IntKind.wrap .i64 (v3_2 + 1)), sb, (.sub ms), some_eq hp⟩
    · replace hp := cond_f hc4 hp
      refine W_exit ?_
      replace hp := map_any hp; obtain ⟨a11, hp, hx_a11⟩ := hp
      obtain rfl := hx3 _ hx_a11
      refine s4 ?_
      replace hp := ba hp; obtain ⟨y12, hy12, hp⟩ := hp
      refine L_slcE (X := v3_0) rfl rfl rfl rfl el34.h rfl (RdT.tree mm) hy12 (fun X13 hdX13 heX13 => ?_)
      have hsX13 := hy12
      subst hdX13
      replace hp := ba hp; obtain ⟨y14, hy14, hp⟩ := hp
      replace hp := ba hp; obtain ⟨y15, hy15, hp⟩ := hp
      refine L_clrV (X := v3_0) (Y := X13) (0 : Int) rfl el34.h rfl rfl rfl pk heX13 hsX13 hy14 hy15 (fun X16 hdX16 hhX16 => ?_)
      subst hdX16
      try rw [← hhX16]
      refine s5 ?_
      replace hp := ba hp; obtain ⟨y17, hy17, hp⟩ := hp
      refine L_slcE (X := X16) rfl rfl rfl rfl el34.h rfl (RdT.tree mm) hy17 (fun X18 hdX18 heX18 => ?_)
      have hsX18 := hy17
      subst hdX18
      refine s2 ?_
      refine W_trunc (X := X16) (Y := X18) (u := ()) heX18 hsX18 rfl pk (fun X19 hdX19 hhX19 => ?_)
      try rw [← hdX19] at hp
      try rw [← hdX19]
      try rw [← hhX19]
      obtain rfl := Option.some.inj hp
      refine s1 ?_
      refine res1 rfl (ResOK.tmp rfl) ⟨X19, rfl, rfl, rfl⟩ ms
noncomputable def i_UpLost_c1 (a0 : Int) (c0 : Int) : Option Bool :=
  some (decide (a0 = c0))
theorem i_UpLost_c1_walk (w : World) (a0 : Int) (b0 : Nat) (c0 : Int) (hb0 : Cells w [] b0 0 (GT.cells c0)) (hc0 : GT.rd w [] c0) (r : Bool) (hp : i_UpLost_c1 a0 c0 = some r) : Spec Try.prog 107 ([(.int .i64 a0 : Value)] ++ [Value.pointer (some ⟨b0, 0, none⟩)]).toArray w [] (IsV (.bool r)) := by
  change Spec _ _ ([.int .i64 a0, Value.pointer (some ⟨b0, 0, none⟩)] : List Value).toArray w [] _
  refine Spec.intro Try.func107 rfl Try.ntmps107 rfl ?_
  unfold i_UpLost_c1 at hp
  replace hp := dd hp
  refine s7 ?_
  refine L_load0 rfl rfl (RdC.old hb0) one3.h rfl ?_
  refine s3 ?_
  obtain rfl := Option.some.inj hp
  refine s1 ?_
  refine res1 rfl (ResOK.tmp rfl) ⟨rfl, rfl⟩ ms
noncomputable def sl_Index_intint (a0 : List Int) (a1 : Int) : Option Int :=
  whileP (fun s1 : Int => cond (decide (s1 < (a0.length : Int))) (Option.bind (idx a0 s1) (fun y3 => cond (decide (a1 = y3)) (Option.map .inr (some s1)) (some (.inl (IntKind.wrap .i64 (s1 + 1)))))) (Option.map .inr (some (-1)))) 0
theorem sl_Index_intint_walk (w : World) (a0 : TL Int) (a1 : Int) (h0 : GT.rd w [] a0) (r : Int) (hp : sl_Index_intint (GT.dat a0) a1 = some r) : Spec Try.prog 143 [(TL.hdr a0), .int .i64 a1].toArray w [] (IsV (.int .i64 r)) := by
  refine Spec.intro Try.func143 rfl Try.ntmps143 rfl ?_
  unfold sl_Index_intint at hp
  replace hp := dd hp
  refine s12 ?_
  refine W_while (σ := Int) GT.dat (fun (v1_0 : Int) => [(8, .int .i64 v1_0)]) (fun (v1_0 : Int) => []) [(0, _), (1, _), (7, _)] [] 0 hp sb ms ?_
  clear hp
  rintro v1_0 x1 hp hx1
  replace hp := dd hp
  refine kq [0, 1, 7, 8] ?_
  refine s5 ?_
  refine kp [0, 1, 7, 8, 9] ?_
  refine W_cond rfl (fun hc2 => ?_) (fun hc2 => ?_)
  · replace hp := cond_t hc2 hp
    refine s13 ?_
    replace hp := idx_bind hp; obtain ⟨u3, hy3, hp⟩ := hp
    refine L_idxA (X := a0) rfl rfl rfl el34.h (RdT.old h0) hy3 ?_
    refine L_load0 rfl rfl (RdT.at (RdT.old h0) (hy3).2) one3.h rfl ?_
    refine s2 ?_
    refine kp [0, 1, 5, 7, 8, 16] ?_
    refine W_cond rfl (fun hc4 => ?_) (fun hc4 => ?_)
    · replace hp := cond_t hc4 hp
      refine s5 ?_
      replace hp := map_any hp; obtain ⟨a5, hp, hx_a5⟩ := hp
      obtain rfl := hx1 _ hx_a5
      obtain rfl := Option.some.inj hp
      refine s1 ?_
      refine res1 rfl (ResOK.tmp rfl) ⟨rfl, rfl⟩ ms
    · replace hp := cond_f hc4 hp
      refine s5 ?_
      exact ⟨IntKind.wrap .i64 (v1_0 + 1), sb, (.sub ms), some_eq hp⟩
  · replace hp := cond_f hc2 hp
    refine W_exit ?_
    replace hp := map_any hp; obtain ⟨a6, hp, hx_a6⟩ := hp
    obtain rfl := hx1 _ hx_a6
    refine s4 ?_
    obtain rfl := Option.some.inj hp
    refine s1 ?_
    refine res1 rfl (ResOK.tmp rfl) ⟨rfl, rfl⟩ ms
noncomputable def sl_Contains_intint (a0 : List Int) (a1 : Int) : Option Bool :=
  Option.bind (sl_Index_intint a0 a1) (fun y1 => some (decide (0 ≤ y1)))
theorem sl_Contains_intint_walk (w : World) (a0 : TL Int) (a1 : Int) (h0 : GT.rd w [] a0) (r : Bool) (hp : sl_Contains_intint (GT.dat a0) a1 = some r) : Spec Try.prog 105 [(TL.hdr a0), .int .i64 a1].toArray w [] (IsV (.bool r)) := by
  refine Spec.intro Try.func105 rfl Try.ntmps105 rfl ?_
  unfold sl_Contains_intint at hp
  replace hp := dd hp
  refine s8 ?_
  replace hp := ba hp; obtain ⟨y1, hy1, hp⟩ := hp
  refine L_callX rfl fn143.h rfl (by exact fun w hw => sl_Index_intint_walk w a0 a1 (RdT.now (RdT.old h0) hw) _ hy1) ?_
  refine s3 ?_
  obtain rfl := Option.some.inj hp
  refine s1 ?_
  refine res1 rfl (ResOK.tmp rfl) ⟨rfl, rfl⟩ ms
end Go.Proofs.SL
namespace Go.Proofs.SL
open Go
set_option maxHeartbeats 2000000
theorem sl_Delete_implUpimplUp_walk (w : World) (a0 : TL T_Up) (a1 a2 : Int) (r : List D_Up) (hp : delP (GT.dat a0) a1 a2 = some r) : Spec Try.prog 108 [(TL.hdr a0), .int .i64 a1, .int .i64 a2].toArray w [treeH a0] (fun v M => ∃ (x0 : TL T_Up), v = (TL.hdr x0) ∧ GT.dat x0 = r ∧ M = [treeH x0]) := by
  refine Spec.intro Try.func108 rfl Try.ntmps108 rfl ?_
  unfold delP at hp
  split at hp
  rotate_left
  · cases hp
  rename_i hb
  obtain rfl := Option.some.inj hp
  obtain ⟨h0, h1, h2⟩ := hb
  rw [dat_els, List.length_map] at h2
  obtain ⟨i, rfl⟩ := Int.eq_ofNat_of_zero_le h0
  obtain ⟨j, rfl⟩ := Int.eq_ofNat_of_zero_le (show 0 ≤ a2 by omega)
  simp only [Int.toNat_natCast]
  have hij : i < j := by omega
  have hjl : j ≤ a0.els.length := by omega
  refine W_raw (X := a0) (fun h => by rw [h] at hjl; simp at hjl; omega) pk (fun fa fl fm ft => ?_)
  have hsz : GT.sz T_Up = 3 := rfl
  rw [hsz] at ft
  have hcl : (rowCells a0.els ++ a0.tail).length = a0.cap * 3 := by rw [List.length_append, length_rowCells, hsz]; exact ft
  have hone : ∀ u, u ∈ rowCells a0.els ++ a0.tail → True := fun _ _ => trivial
  have hh : a0.hdr = .slice (some ⟨a0.g, 0, none⟩) a0.els.length a0.cap := by show Value.slice a0.a _ _ = _; rw [fa]
  rw [hh]
  refine s10 ?_
  refine L_lenS rfl rfl el69.h ?_
  refine L_sl3 rfl rfl rfl rfl rfl el69.h (by omega) (by omega) (by omega) (by omega) (fun _ => ?_)
  refine s8 ?_
  refine W_cond rfl (fun hc => ?_) (fun hc => ?_)
  · exfalso; simp at hc; omega
  refine s4 ?_
  refine L_lenS rfl rfl el69.h ?_
  refine s3 ?_
  refine W_DS (pre := [_, _, _, _, _, _]) (suf := [_, _]) [22, 25] [] _ pc mix (by kernel_rfl) (by kernel_rfl) rfl ?_
  refine s2 ?_
  refine D_slV (g := a0.g) (o := 0) (n := a0.els.length) (c := a0.cap) (a := 0) (b := (i : Int)) GC.none (OpV.t rfl) optD.none (optD.some (OpV.t rfl)) el69.h (by omega) (by omega) (by omega) ?_
  refine s2 ?_
  refine D_slV (g := a0.g) (o := 0) (n := a0.els.length) (c := a0.cap) (a := (j : Int)) (b := (a0.els.length : Int)) GC.none (OpV.t rfl) (optD.some (OpV.t rfl)) optD.none el69.h (by omega) (by omega) (by omega) ?_
  refine s8 ?_
  simp only [Int.toNat_natCast, Int.toNat_zero, sl0, Nat.sub_zero]
  have hseg := seg_drop (X := a0) (j := j) (sz := 3) rfl hjl fl
  have e1 : i * 3 + (a0.els.length - j) * 3 ≤ a0.cap * 3 := by rw [← Nat.add_mul]; exact Nat.mul_le_mul_right _ (by omega)
  refine L_appRaw (n := i) (m := a0.els.length - j) (o := slA 0 a0.cap j 3) rfl rfl rfl el69.h pk (by omega) (by
    rw [hcl]; unfold slA; split
    · have : a0.els.length - j = 0 := by omega
      rw [this]; omega
    · rw [Nat.zero_add, ← Nat.add_mul]; exact Nat.mul_le_mul_right _ (by omega)) (by rw [hcl]; exact e1) (by rw [hseg]; exact fun u hu => rowCells_one _ u hu) ?_
  rw [hseg]
  generalize hcs : (rowCells a0.els ++ a0.tail).take (i * 3) ++ rowCells (a0.els.drop j) ++ (rowCells a0.els ++ a0.tail).drop (i * 3 + (a0.els.length - j) * 3) = cs
  have hcsl : cs.length = a0.cap * 3 := by
    rw [← hcs]
    simp only [List.length_append, List.length_take, List.length_drop, length_rowCells, hsz] at hcl ⊢
    omega
  refine s6 ?_
  refine L_lenS rfl rfl el69.h ?_
  refine s1 ?_
  refine L_slV (g := a0.g) (o := 0) (n := i + (a0.els.length - j)) (c := a0.cap) (a := ((i + (a0.els.length - j) : Nat) : Int)) (b := (a0.els.length : Int)) rfl rfl rfl rfl el69.h (by omega) (by omega) (by omega) ?_
  simp only [Int.toNat_natCast]
  rw [slLt (show i + (a0.els.length - j) < a0.cap by omega)]
  refine L_clrRaw rfl el69.h rfl (allOne rfl) pk (by rw [hcsl, ← Nat.add_mul]; exact Nat.mul_le_mul_right _ (by omega)) (by omega) ?_
  rw [del_cells (sz := 3) (List.flatten _) (show GT.sz T_Up = 3 from rfl) rfl hij hjl cs hcs.symm]
  refine s6 ?_
  refine W_conv (fun w h => els_sub (perm_del a0.els i j (by omega)) pk h) ?_
  have hle : (a0.els.take i ++ a0.els.drop j).length = i + (a0.els.length - j) := by
    rw [List.length_append, List.length_take, List.length_drop, Nat.min_eq_left (by omega)]
  have htl : ((List.replicate (a0.els.length - (i + (a0.els.length - j))) ([.string ByteArray.empty, .slice none 0 0, .int .i64 0] : List Value)).flatten ++ a0.tail).length = (a0.els.length - (i + (a0.els.length - j))) * 3 + a0.tail.length := by
    simp
  refine W_conv (fun w h => raw_close (τ := T_Up) (g := a0.g) (e := a0.e) (cap := a0.cap) (els := a0.els.take i ++ a0.els.drop j) (tail := (List.replicate (a0.els.length - (i + (a0.els.length - j))) ([.string ByteArray.empty, .slice none 0 0, .int .i64 0] : List Value)).flatten ++ a0.tail) rfl (by rw [hle]; omega) fm (by
    rw [hle, htl, hsz]
    have h3 : (i + (a0.els.length - j)) * 3 + (a0.els.length - (i + (a0.els.length - j))) * 3 = a0.els.length * 3 := by rw [← Nat.add_mul]; congr 1; omega
    omega) pk pk h) ?_
  refine s1 ?_
  refine res1 rfl (ResOK.tmp rfl) ⟨⟨some ⟨a0.g, 0, none⟩, a0.cap, a0.e, a0.els.take i ++ a0.els.drop j, (List.replicate (a0.els.length - (i + (a0.els.length - j))) ([.string ByteArray.empty, .slice none 0 0, .int .i64 0] : List Value)).flatten ++ a0.tail⟩, ?_, ?_, rfl⟩ ms
  · show Value.slice _ _ _ = Value.slice _ _ _
    rw [hle]
  · rw [dat_els, dat_els]
    simp [List.map_take, List.map_drop]
end Go.Proofs.SL
namespace Go.Proofs.SL
open Go
variable {Γ : Cx} {l : Envl} {M M' M1 M2 F : List HP} {Q : Post} {K : Kont} {w0 w : World} {S0 : List Nat} {P : Program}
variable {rest : List Oper} {d : Nat} {ty : TypeId} {pos : String} {af : Array Edge}
def insP {δ : Type} (l : List δ) (i : Int) (x : δ) : Option (List δ) := if 0 ≤ i ∧ i ≤ l.length ∧ l.length + 1 ≤ 1048576 then some (l.take i.toNat ++ [x] ++ l.drop i.toNat) else none
theorem insP_some {δ : Type} {l r : List δ} {i : Int} {x : δ} (h : insP l i x = some r) : 0 ≤ i ∧ i ≤ l.length ∧ l.length + 1 ≤ 1048576 ∧ r = l.take i.toNat ++ [x] ++ l.drop i.toNat := by
  unfold insP at h
  split at h
  · rename_i hb; cases h; exact ⟨hb.1, hb.2.1, hb.2.2, rfl⟩
  · cases h
theorem L_capS {x : Operand} {T : TypeId} {e : TypeId × Nat × Nat × List Value} {a : Option Addr} {n c : Nat} (hn : Nat.blt d Γ.n = true) (hx : ev l x = some (.slice a n c)) (ht : elOf Γ.P T = some e)
    (hk : L Γ rest ((d, .int .i64 c) :: l) M K) :
    L Γ ({ dst := some d, op := .call { callee := .builtin .cap, args := #[x], argTypes := #[T] }, type := ty, pos := pos, after := af, guard := none } :: rest) l M K :=
  L_pure hn (fun a' w ha _ => by
    have : (Builtin.cap_ #[T] ty #[.slice a n c]).run Γ.P w = .ok (.int .i64 c) w := by
      unfold elOf at ht
      split at ht <;> (try cases ht)
      rename_i e' he
      simp [Builtin.cap_, underlying, he, goInt]
    simp [execOp, resolve, invoke, builtin, ha.eval hx, this]) hk
theorem elOf_parts {T e sz by_ : Nat} {z : List Value} (ht : elOf P T = some (e, sz, by_, z)) : P.underlying T = some (.slice e) ∧ ∃ i z', P.info? e = some i ∧ i.size = sz ∧ i.bytes = by_ ∧ i.zero = some z' ∧ z'.cells.toList = z := by
  unfold elOf at ht
  split at ht <;> (try cases ht)
  rename_i e' het
  split at ht <;> (try cases ht)
  rename_i i' hi'
  split at ht <;> cases ht
  rename_i z' hz'
  exact ⟨het, i', z', hi', rfl, rfl, hz', rfl⟩
/-- copy into a block of one's own. -/
theorem L_cpRaw {x y : Operand} {T e sz by_ g o n c m c2 q : Nat} {ad : Addr} {z cs vs : List Value} {e2 : TypeId} (hx : ev l x = some (.slice (some ⟨g, o, none⟩) n c)) (hy : ev l y = some (.slice (some ad) m c2))
    (hn : Nat.blt d Γ.n = true) (ht : elOf Γ.P T = some (e, sz, by_, z)) (hp : Pick (blk g cs e2) M M1) (hq : q = min m n) (hl : vs.length = q * sz)
    (hsrc : ∀ w, Sees Γ.w0 Γ.S0 M w → ∀ j v, vs[j]? = some v → w.cell? (ad.add j) = some v) (h1 : o + vs.length ≤ cs.length) (hone : ∀ u, u ∈ vs → u.oneCell' = true)
    (hk : L Γ rest ((d, goInt q) :: l) (blk g (cs.take o ++ vs ++ cs.drop (o + vs.length)) e2 :: M1) K) :
    L Γ ({ dst := some d, op := .call { callee := .builtin .copy, args := #[x, y], argTypes := #[T, T] }, type := ty, pos := pos, after := af, guard := none } :: rest) l M K := by
  refine L_step rfl rfl (Nat.le_of_ble_eq_true hn) (fun a w ha hw => ?_) hk
  obtain ⟨het, i', z', hi', rfl, rfl, hz', rfl⟩ := elOf_parts ht
  have hs := hsrc w hw.sees
  have hw1 := hw.perm hp.perm
  have hh : w.heap[g]? = some (.cells cs.toArray e2 (0, 0)) := hw1.prs (blk g cs e2) (List.mem_cons_self ..)
  have hld := run_loadCells_list (P := Γ.P) (w := w) ad vs hs
  have hst := run_store_blk (P := Γ.P) (fo := o) (vs := vs) (ty := 0) hh h1 hone
  subst hq
  rw [hl] at hld
  refine ⟨_, ?_, setRow_blk hw1⟩
  have hr : (Builtin.copy_ #[T, T] ty #[.slice (some ⟨g, o, none⟩) n c, .slice (some ad) m c2]).run Γ.P w = .ok (goInt (min m n)) (w.setRow g (cs.take o ++ vs ++ cs.drop (o + vs.length)).toArray) := by
    simp [Builtin.copy_, run_underlying het, Builtin.lenOf, Builtin.firstCells, sizeOf, typeInfo, hi', hld, hst]
    show goInt ((min m n : Nat) : Int) = _
    congr 1; omega
  simp [execOp, resolve, invoke, builtin, ha.eval hx, ha.eval hy, hr]
  first | done | rfl | (congr 1; rw [Nat.min_def]; omega) | (congr 1; omega) | skip
/-- append of a make where there is no room: a new row. -/
theorem L_appMk {s x : Operand} {T TI e sz by_ g n c k : Nat} {z cs : List Value} {e2 : TypeId} (hn : Nat.blt d Γ.n = true) (hs : ev l s = some (.slice (some ⟨g, 0, none⟩) n c)) (hx : ev l x = some (.int .i64 k))
    (ht : elOf Γ.P T = some (e, sz, by_, z)) (hti : Γ.P.underlying TI = some (.int .i64)) (hm : blk g cs e2 ∈ M) (hzl : z.length = sz) (hsz : 0 < sz) (hb : by_ ≤ 32768) (hk0 : 0 < k) (hroom : c < n + k) (hbd : n + k ≤ 4294967296) (hc : n * sz ≤ cs.length)
    (hk : ∀ b cp, n + k ≤ cp → cp ≤ maxLen → L Γ rest ((d, .slice (some ⟨b, 0, none⟩) (n + k) cp) :: l) (blk b (cs.take (n * sz) ++ (List.replicate (cp - n) z).flatten) e :: M) K) :
    L Γ ({ dst := some d, op := .call { callee := .builtin .append, args := #[s, x], argTypes := #[T, TI] }, type := ty, pos := pos, after := af, guard := none } :: rest) l M K := by
  refine L_stepR (fun v M' => ∃ b cp, n + k ≤ cp ∧ cp ≤ maxLen ∧ v = .slice (some ⟨b, 0, none⟩) (n + k) cp ∧ M' = blk b (cs.take (n * sz) ++ (List.replicate (cp - n) z).flatten) e :: M) rfl rfl (Nat.le_of_ble_eq_true hn)
    (fun a w ha hw => ?_) (fun v M' ⟨b, cp, h0, h1, h2, h3⟩ => by subst h2; subst h3; exact hk b cp h0 h1)
  obtain ⟨het, i', z', hi', rfl, rfl, hz', rfl⟩ := elOf_parts ht
  have hh : w.heap[g]? = some (.cells cs.toArray e2 (0, 0)) := hw.prs _ hm
  have hl : (cs.take (n * i'.size)).length = n * i'.size := by rw [List.length_take]; omega
  have hold : (Builtin.firstCells i'.size n (.slice (some ⟨g, 0, none⟩) n c)).run Γ.P w.drew = .ok (cs.take (n * i'.size)).toArray w.drew := by
    have := run_loadCells_list (P := Γ.P) (w := w.drew) ⟨g, 0, none⟩ (cs.take (n * i'.size)) (fun j v hj => by
      rw [addr_add]
      exact cells_at (w := w.drew) hh 0 (n * i'.size) j v (by simpa using hj))
    rw [hl] at this
    exact this
  have hby : (n + k) * i'.bytes ≤ 140737488355328 := by
    have := Nat.mul_le_mul hbd hb
    omega
  have hby2 : k * i'.bytes ≤ 140737488355328 := Nat.le_trans (Nat.mul_le_mul_right _ (by omega)) hby
  have hrun := Lib.run_append_grow_zeros (P := Γ.P) w T TI ty e i' z' .i64 .i64 het hti hi' hz' (some ⟨g, 0, none⟩) n c _ hold k hk0 hsz hroom (by omega) (by omega) (growslice_fits hroom hby)
  have hge := grownCap_ge w (n + k) c e
  have hcm : grownCap w (n + k) c e ≤ maxLen := grownCap_le_maxLen w (n + k) c e (by simp only [maxLen]; omega)
  have hzc : ∀ q, (Builtin.zeroCells z'.cells q).toList = (List.replicate q z'.cells.toList).flatten := fun q => flatten_rep z'.cells.toList q
  have ecs : ((cs.take (n * i'.size)).toArray ++ Builtin.zeroCells z'.cells k ++ Builtin.zeroCells z'.cells (grownCap w (n + k) c e - (n + k))) = (cs.take (n * i'.size) ++ (List.replicate (grownCap w (n + k) c e - n) z'.cells.toList).flatten).toArray := by
    apply Array.ext'
    simp only [Array.toList_append, hzc]
    rw [List.append_assoc, ← List.flatten_append, List.replicate_append_replicate]
    congr 4; omega
  refine ⟨_, _, w.drew.alloc (.cells (cs.take (n * i'.size) ++ (List.replicate (grownCap w (n + k) c e - n) z'.cells.toList).flatten).toArray e (0, 0)), ⟨w.heap.size, grownCap w (n + k) c e, hge, hcm, rfl, rfl⟩, ?_, ?_⟩
  · rw [ecs] at hrun
    simp [execOp, resolve, invoke, builtin, ha.eval hs, ha.eval hx, hrun]
  · exact hw.drew.new rfl
/-- Two slices of two blocks do not overlap. -/
theorem L_ovl {f : Nat} {fn : Func} {x y : Operand} {ats : Array TypeId} {T TB e sz by_ b g o m c lb cb : Nat} {z cs ds : List Value} {e1 e2 : TypeId} (hn : Nat.blt d Γ.n = true)
    (hx : ev l x = some (.slice (some ⟨b, 0, none⟩) m c)) (hy : ev l y = some (.slice (some ⟨g, o, none⟩) lb cb))
    (hf : Γ.P.funcs[f]? = some fn) (hname : (fn.name == "runtime.NumGoroutine") = false) (hb : fn.body.isNone = true) (hnx : Extern.findNext fn = none) (he : Extern.find fn = some (Extern.SlicesOverlaps.overlaps #[T, T] #[TB]))
    (ht : elOf Γ.P T = some (e, sz, by_, z)) (h1 : blk b cs e1 ∈ M) (h2 : blk g ds e2 ∈ M) (hne : b ≠ g) (hd : ds.length ≠ 0) (hk : L Γ rest ((d, .bool false) :: l) M K) :
    L Γ ({ dst := some d, op := .call { callee := .value (.func f), args := #[x, y], argTypes := ats }, type := ty, pos := pos, after := af, guard := none } :: rest) l M K := by
  refine L_step rfl rfl (Nat.le_of_ble_eq_true hn) (fun a w ha hw => ⟨w, ?_, hw⟩) hk
  obtain ⟨het, i', z', hi', rfl, rfl, hz', rfl⟩ := elOf_parts ht
  have hh1 : w.heap[b]? = some (.cells cs.toArray e1 (0, 0)) := hw.prs _ h1
  have hh2 : w.heap[g]? = some (.cells ds.toArray e2 (0, 0)) := hw.prs _ h2
  have hs1 : w.shape? b = some (e1, cs.length) := by unfold World.shape?; rw [hh1]; rfl
  have hs2 : w.shape? g = some (e2, ds.length) := by unfold World.shape?; rw [hh2]; rfl
  have hfz : ∀ j, w.frozen? ⟨b, j, none⟩ = false := fun j => by unfold World.frozen?; rw [hh1]; simp
  have ho := Lib.run_overlaps_apart (P := Γ.P) w T TB e het i'.size (fun w => by simp [sizeOf, typeInfo, hi']) ⟨b, 0, none⟩ ⟨g, o, none⟩ m c lb cb hne e1 e2 cs.length ds.length hs1 hs2 hd (hfz 0) (hfz _)
  have hc := run_callFunc_extern hf hname hb hnx he #[.slice (some ⟨b, 0, none⟩) m c, .slice (some ⟨g, o, none⟩) lb cb] w
  rw [ho] at hc
  have h3 : execOp a.eval { dst := some d, op := .call { callee := .value (.func f), args := #[x, y], argTypes := ats }, type := ty, pos := pos, after := af, guard := none } = callFunc f (#[] ++ #[x, y].map a.eval ++ #[]) := by unfold execOp; rfl
  have h4 : (#[] ++ #[x, y].map a.eval ++ #[] : Array Value) = #[.slice (some ⟨b, 0, none⟩) m c, .slice (some ⟨g, o, none⟩) lb cb] := by simp [ha.eval hx, ha.eval hy]
  rw [h3, h4, hc]
  rfl
theorem els_ins {τ δ : Type} [GT τ δ] {xs : List τ} {x : τ} (i : Nat) (p : Pick (elsT xs) M M1) (q : Pick (treeH x) M1 M2) (h : Holds w0 S0 M w) : Holds w0 S0 (elsT (xs.take i ++ [x] ++ xs.drop i) :: M2) w := by
  have h1 := h.perm (p.perm.trans (q.perm.cons _))
  have h2 := elsT_app ((elsT_one (h1.perm (List.Perm.swap _ _ _))).perm (List.Perm.swap _ _ _))
  refine h2.reFp ?_ fun y hy => ?_
  · simp only [fps_cons]
    refine List.Perm.append_right _ ?_
    show List.Perm ((xs ++ [x]).flatMap GT.fp) ((xs.take i ++ [x] ++ xs.drop i).flatMap GT.fp)
    refine List.Perm.flatMap_right _ ?_
    conv => lhs; rw [← List.take_append_drop i xs]
    rw [List.append_assoc, List.append_assoc]
    exact List.perm_append_comm.append_left _
  · rcases List.mem_cons.1 hy with rfl | hy
    · intro z hz
      refine h2.prs (elsT (xs ++ [x])) (List.mem_cons_self ..) z ?_
      rcases List.mem_append.1 hz with hz | hz
      · rcases List.mem_append.1 hz with hz | hz
        · exact List.mem_append_left _ (List.mem_of_mem_take hz)
        · exact List.mem_append_right _ hz
      · exact List.mem_append_left _ (List.mem_of_mem_drop hz)
    · exact h2.prs _ (List.mem_cons_of_mem _ hy)
/-- The cells of a row with one element put in. -/
theorem ins_cells {τ δ : Type} [GT τ δ] (xs : List τ) (x : τ) {i : Nat} (hi : i ≤ xs.length) (t : List Value) :
    rowCells (xs.take i ++ [x] ++ xs.drop i) ++ t = rowCells (xs.take i) ++ GT.cells x ++ rowCells (xs.drop i) ++ t := by
  rw [rowCells_append, rowCells_append]
  simp [rowCells]
theorem ins_take {τ δ : Type} [GT τ δ] (xs : List τ) {i : Nat} (hi : i ≤ xs.length) (t : List Value) : (rowCells xs ++ t).take (i * GT.sz τ) = rowCells (xs.take i) := by
  have h1 : rowCells xs = rowCells (xs.take i) ++ rowCells (xs.drop i) := by rw [← rowCells_append, List.take_append_drop]
  have h2 : (rowCells (xs.take i)).length = i * GT.sz τ := by rw [length_rowCells, List.length_take, Nat.min_eq_left hi]
  rw [h1, List.append_assoc, ← h2, List.take_left]
theorem ins_drop {τ δ : Type} [GT τ δ] (xs : List τ) {i : Nat} (hi : i ≤ xs.length) (t : List Value) : (rowCells xs ++ t).drop (i * GT.sz τ) = rowCells (xs.drop i) ++ t := by
  have h1 : rowCells xs = rowCells (xs.take i) ++ rowCells (xs.drop i) := by rw [← rowCells_append, List.take_append_drop]
  have h2 : (rowCells (xs.take i)).length = i * GT.sz τ := by rw [length_rowCells, List.length_take, Nat.min_eq_left hi]
  rw [h1, List.append_assoc, ← h2, List.drop_left]
theorem take_len {α : Type} {A B : List α} {k : Nat} (h : A.length = k) : (A ++ B).take k = A := by subst h; exact List.take_left
theorem drop_len {α : Type} {A B : List α} {k : Nat} (h : A.length = k) : (A ++ B).drop k = B := by subst h; exact List.drop_left
theorem splice {α : Type} {A B V : List α} {k : Nat} (h : A.length = k) : (A ++ B).take k ++ V ++ (A ++ B).drop (k + V.length) = A ++ V ++ B.drop V.length := by
  rw [take_len h, ← List.drop_drop, drop_len h]
theorem len_take {τ δ : Type} [GT τ δ] (xs : List τ) {i : Nat} (hi : i ≤ xs.length) : (rowCells (xs.take i)).length = i * GT.sz τ := by rw [length_rowCells, List.length_take, Nat.min_eq_left hi]
/-- The new row of an insertion that finds no room. -/
theorem ins_new {τ δ : Type} [GT τ δ] (xs : List τ) (x : τ) {i : Nat} (hi : i ≤ xs.length) (t Z cs1 cs2 : List Value) (h1 : cs1 = (rowCells xs ++ t).take (i * GT.sz τ) ++ Z) (h2 : cs2 = cs1.take (i * GT.sz τ) ++ GT.cells x ++ cs1.drop (i * GT.sz τ + (GT.cells x).length)) :
    cs2.take ((i + 1) * GT.sz τ) ++ rowCells (xs.drop i) ++ cs2.drop ((i + 1) * GT.sz τ + (rowCells (xs.drop i)).length) = rowCells (xs.take i ++ [x] ++ xs.drop i) ++ (Z.drop (GT.sz τ)).drop (rowCells (xs.drop i)).length := by
  rw [ins_take xs hi] at h1
  rw [h1, splice (len_take xs hi)] at h2
  rw [h2, splice (A := rowCells (xs.take i) ++ GT.cells x) (by rw [List.length_append, len_take xs hi, GT.len, Nat.add_mul, Nat.one_mul]), GT.len, ins_cells xs x hi]
/-- The row of an insertion in place. -/
theorem ins_shift {τ δ : Type} [GT τ δ] (xs : List τ) (x : τ) {i : Nat} (hi : i < xs.length) (t cs1 : List Value) (ht : GT.sz τ ≤ t.length)
    (h1 : cs1 = (rowCells xs ++ t).take ((i + 1) * GT.sz τ) ++ rowCells (xs.drop i) ++ (rowCells xs ++ t).drop ((i + 1) * GT.sz τ + (rowCells (xs.drop i)).length)) :
    cs1.take (i * GT.sz τ) ++ GT.cells x ++ cs1.drop (i * GT.sz τ + (GT.cells x).length) = rowCells (xs.take i ++ [x] ++ xs.drop i) ++ t.drop (GT.sz τ) := by
  have hl : (rowCells (xs.drop i)).length = (xs.length - i) * GT.sz τ := by rw [length_rowCells, List.length_drop]
  have e1 : (i + 1) * GT.sz τ + (rowCells (xs.drop i)).length = xs.length * GT.sz τ + GT.sz τ := by
    rw [hl, Nat.add_mul, Nat.one_mul, Nat.add_right_comm, ← Nat.add_mul]; congr 2; omega
  have e2 : (rowCells xs ++ t).drop (xs.length * GT.sz τ + GT.sz τ) = t.drop (GT.sz τ) := by
    rw [← List.drop_drop, drop_len (length_rowCells xs)]
  have e3 : (rowCells xs ++ t).take ((i + 1) * GT.sz τ) = rowCells (xs.take (i + 1)) := ins_take xs (by omega) t
  have e4 : xs.take (i + 1) = xs.take i ++ [xs[i]] := by rw [List.take_append_getElem]
  rw [e1, e2, e3, e4, rowCells_append] at h1
  have e5 : rowCells [xs[i]] = GT.cells xs[i] := by simp [rowCells]
  rw [e5] at h1
  have h1' : cs1 = rowCells (xs.take i) ++ (GT.cells xs[i] ++ (rowCells (xs.drop i) ++ t.drop (GT.sz τ))) := by rw [h1]; simp only [List.append_assoc]
  rw [h1', splice (len_take xs (by omega)), GT.len, drop_len (GT.len xs[i]), ins_cells xs x (by omega)]
  simp only [List.append_assoc]
theorem row_seg {τ δ : Type} [GT τ δ] (xs : List τ) {i : Nat} (hi : i ≤ xs.length) (t : List Value) : ((rowCells xs ++ t).drop (i * GT.sz τ)).take ((xs.length - i) * GT.sz τ) = rowCells (xs.drop i) := by
  rw [ins_drop xs hi, take_len]
  rw [length_rowCells, List.length_drop]
theorem cells_blk {b o n : Nat} {cs vs : List Value} {T : TypeId} (hm : blk b cs T ∈ M) (hv : (cs.drop o).take n = vs) (w : World) (hw : Sees w0 S0 M w) (j : Nat) (v : Value) (h : vs[j]? = some v) : w.cell? ((⟨b, o, none⟩ : Addr).add j) = some v := by
  subst hv
  rw [addr_add]
  exact cells_at (hw.prs _ hm) o n j v h
theorem blk_ne {b g : Nat} {cs ds : List Value} {T U : TypeId} (p : Pick (blk b cs T) M M1) (q : Pick (blk g ds U) M1 M2) (h : Holds w0 S0 M w) : b ≠ g := by
  have h1 := (h.perm (p.perm.trans (q.perm.cons _))).nodup
  intro e; subst e
  rw [fps_cons, fps_cons] at h1
  simp [blk] at h1
theorem Spec.pre {f : FuncId} {args : Array Value} {R : Value → List HP → Prop} (hc : ∀ w1 S, Holds w1 S M w → Holds w1 S M' w) (h : Spec P f args w M' R) : Spec P f args w M R := fun hw => by
  have h2 : Holds w (fps M) (M' ++ []) w := by simpa using hc _ _ hw
  exact (h (Holds.split h2)).mono fun e w'' ⟨v, M'', h3, h4, h5⟩ => ⟨v, M'', h3, h4, by simpa using Holds.frame h2 h5⟩
section
variable {ops : Array Oper} {Msh pool pool' : List HP} {E : Fl} {rs : List (Option Nat × Rel)} {cs0 : List Nat} {KD : RKont}
/-- A call that takes over what an operation of the region has made. -/
theorem D_callC {t f : Nat} {xs : List Operand} {ats : Array TypeId} (Rt R : Rel) (M1 : List HP) (vsf : Value → List Value) (hp : List.Perm pool (M1 ++ pool')) (ht : E.lookup t = some Rt)
    (hf : IsFn Γ.P f) (hx : ∀ u, OpVs ((t, FC True u) :: dropE [t] E) True xs (vsf u))
    (hc : ∀ w F v Mt, Rt v Mt → Holds Γ.w0 Γ.S0 (Mt ++ M1 ++ F) w → (∀ h, h ∈ Msh → h ∈ F) → Spec Γ.P f (vsf v).toArray w (Mt ++ M1) R)
    (hlin : linB ops { dst := some d, op := .call { callee := .value (.func f), args := xs.toArray, argTypes := ats }, type := ty, pos := pos, after := af, guard := none } [t] = true)
    (hk : DV Γ ops Msh pool' ((d, R) :: dropE [t] E) ((some d, R) :: rs) ([t] ++ cs0) rest KD) :
    DV Γ ops Msh pool E rs cs0 ({ dst := some d, op := .call { callee := .value (.func f), args := xs.toArray, argTypes := ats }, type := ty, pos := pos, after := af, guard := none } :: rest) KD := by
  refine DV.mk R M1 pool' [t] hp hlin ?_ hk
  intro a w F Mk _ _ hw hm hfa hcf
  obtain ⟨Mx, Mk', rfl, hRR, hnil⟩ := hcf
  have hnil : Mk' = [] := hnil
  subst hnil
  have h1 := hRR _ ht
  rw [if_pos (by simp [Region.wanted])]
  generalize hv : a.tmps.getD t undef = u at h1
  have hf2 : Facts ((t, FC True u) :: dropE [t] E) (Oper.looksAt ops { dst := some d, op := .call { callee := .value (.func f), args := xs.toArray, argTypes := ats }, type := ty, pos := pos, after := af, guard := none }) F a := by
    intro t' R' h1 h2
    rw [List.lookup_cons] at h2
    cases hb : t' == t with
    | true =>
      rw [hb] at h2
      cases h2
      have : t' = t := by simpa using hb
      subst this
      exact ⟨[], ⟨rfl, fun _ => hv, fun hn => (hn trivial).elim⟩, fun _ h => by cases h⟩
    | false => rw [hb] at h2; exact hfa t' R' h1 h2
  have h2 : (#[] ++ xs.toArray.map a.eval ++ #[] : Array Value) = (vsf u).toArray := by
    simp [OpVs.evals (o := { dst := some d, op := .call { callee := .value (.func f), args := xs.toArray, argTypes := ats }, type := ty, pos := pos, after := af, guard := none }) trivial hf2 xs (vsf u) (hx u) (fun x hx => by simp [Op.operands, Call.operands, hx])]
  rw [execOp_call_go, h2, hf.run]
  have hw2 : Holds Γ.w0 Γ.S0 ((Mx ++ M1) ++ F) w := hw.perm (by
    simp only [List.append_nil]
    rw [← List.append_assoc]
    exact List.perm_append_comm.append_right F)
  exact (hc w F u Mx h1 hw2 hm (Holds.split hw2)).mono fun e w'' ⟨v, M', h1, h3, h4⟩ => ⟨v, M', h1, h3, Holds.frame hw2 h4⟩
end
end Go.Proofs.SL
namespace Go.Proofs.SL
open Go
set_option maxHeartbeats 2000000
theorem sl_Insert_implUpimplUp_walk (w : World) (a0 : TL T_Up) (a1 : Int) (b : Nat) (x : T_Up) (T' : TypeId) (r : List D_Up) (hp : insP (GT.dat a0) a1 (GT.dat x) = some r) : Spec Try.prog 99 [(TL.hdr a0), .int .i64 a1, .slice (some ⟨b, 0, none⟩) 1 1].toArray w [treeH a0, blk b (GT.cells x) T', treeH x] (fun v M => ∃ (x0 : TL T_Up), v = (TL.hdr x0) ∧ GT.dat x0 = r ∧ M = [treeH x0]) := by
  obtain ⟨h0, h1, h2, rfl⟩ := insP_some hp
  rw [dat_els, List.length_map] at h1 h2
  obtain ⟨i, rfl⟩ := Int.eq_ofNat_of_zero_le h0
  have hi : i ≤ a0.els.length := by omega
  simp only [Int.toNat_natCast]
  refine Spec.intro Try.func99 rfl Try.ntmps99 rfl ?_
  refine s8 ?_
  refine L_slc (X := a0) (a := (i : Int)) (b := ((GT.dat a0).length : Int)) rfl rfl rfl rfl el69.h rfl (RdT.tree mm) (if_pos ⟨by omega, by rw [dat_els, List.length_map]; omega, Int.le_refl _⟩) (fun Y _ _ => ?_)
  refine s4 ?_
  refine L_lenS rfl rfl el69.h ?_
  refine s8 ?_
  refine W_cond rfl (fun hc0 => ?_) (fun hc0 => ?_)
  · exfalso; simp at hc0
  · refine s5 ?_
    rw [show ((GT.dat a0).length : Int) = (a0.els.length : Int) by rw [dat_els, List.length_map]]
    refine s9 ?_
    refine W_cond rfl (fun hc1 => ?_) (fun hc1 => ?_)
    · have hin : i = a0.els.length := by have := of_decide_eq_true hc1; omega
      refine s4 ?_
      refine L_app1 (X := a0) x rfl rfl rfl el69.h rfl rfl pk mm pk (if_pos (by rw [dat_els, List.length_map]; simp; omega)) (by decide) (fun X hd => ?_)
      refine s3 ?_
      refine res1 rfl (ResOK.tmp rfl) ⟨X, rfl, ?_, rfl⟩ ms
      rw [hd, dat_els, hin, List.take_of_length_le (by simp), List.drop_eq_nil_of_le (by simp)]
      simp
    · have hin : i ≠ a0.els.length := by have := of_decide_eq_false hc1; omega
      have hlt : i < a0.els.length := by omega
      refine s3 ?_
      refine W_raw (X := a0) (fun h => by rw [h] at hlt; simp at hlt) pk (fun fa fl fm ft => ?_)
      have hh : a0.hdr = .slice (some ⟨a0.g, 0, none⟩) a0.els.length a0.cap := by show Value.slice a0.a _ _ = _; rw [fa]
      rw [hh]
      refine W_fact (φ := b ≠ a0.g) (fun w h => blk_ne pk pk h) (fun hbg => ?_)
      have hsz : GT.sz T_Up = 3 := rfl
      have hcl : (rowCells a0.els ++ a0.tail).length = a0.cap * 3 := by rw [List.length_append, length_rowCells, hsz]; exact ft
      have e8 : IntKind.wrap .i64 ((a0.els.length : Int) + ((1 : Nat) : Int)) = ((a0.els.length + 1 : Nat) : Int) := by rw [wrap64_in (by unfold inR; omega)]; omega
      have e9 : IntKind.wrap .i64 ((i : Int) + ((1 : Nat) : Int)) = ((i + 1 : Nat) : Int) := by rw [wrap64_in (by unfold inR; omega)]; omega
      refine s4 ?_
      rw [e8]
      refine s1 ?_
      refine L_capS rfl rfl el69.h ?_
      refine s2 ?_
      refine W_cond rfl (fun hc2 => ?_) (fun hc2 => ?_)
      · have hc2' : a0.cap < a0.els.length + 1 := by have := of_decide_eq_true hc2; omega
        refine s4 ?_
        refine L_slV (g := a0.g) (o := 0) (n := a0.els.length) (c := a0.cap) (a := 0) (b := (i : Int)) rfl rfl rfl rfl el69.h (by omega) (by omega) (by omega) ?_
        simp only [Int.toNat_natCast, Int.toNat_zero, sl0, Nat.sub_zero]
        refine s3 ?_
        rw [e8]
        refine s2 ?_
        rw [show IntKind.wrap .i64 (((a0.els.length + 1 : Nat) : Int) - (i : Int)) = ((a0.els.length + 1 - i : Nat) : Int) by rw [wrap64_in (by unfold inR; omega)]; omega]
        refine L_appMk (g := a0.g) (n := i) (c := a0.cap) (k := a0.els.length + 1 - i) rfl rfl rfl el69.h und3.h mm rfl (by decide) (by decide) (by omega) (by omega) (by omega) (by rw [hcl]; exact Nat.mul_le_mul_right _ (by omega)) (fun nb cp hc1 hc2 => ?_)
        rw [show i + (a0.els.length + 1 - i) = a0.els.length + 1 by omega] at hc1 ⊢
        refine s6 ?_
        refine L_slV (g := nb) (o := 0) (n := a0.els.length + 1) (c := cp) (a := (i : Int)) (b := ((a0.els.length + 1 : Nat) : Int)) rfl rfl rfl rfl el69.h (by omega) (by omega) (by omega) ?_
        simp only [Int.toNat_natCast, Int.toNat_zero, sl0, Nat.sub_zero]
        rw [slLt (show i < cp by omega)]
        refine s1 ?_
        generalize hcs1 : (rowCells a0.els ++ a0.tail).take (i * 3) ++ (List.replicate (cp - i) ([.string ByteArray.empty, .slice none 0 0, .int .i64 0] : List Value)).flatten = cs1
        have hl1 : cs1.length = cp * 3 := by
          rw [← hcs1, List.length_append, List.length_take, hcl]
          have h5 : ((List.replicate (cp - i) ([.string ByteArray.empty, .slice none 0 0, .int .i64 0] : List Value)).flatten).length = (cp - i) * 3 := by simp
          rw [h5, Nat.min_eq_left (Nat.mul_le_mul_right _ (by omega)), ← Nat.add_mul]; congr 1; omega
        refine L_cpRaw (q := 1) (vs := GT.cells x) rfl rfl rfl el69.h pk (by omega) (by rw [GT.len]; rfl) (cells_blk (n := (GT.cells x).length) mm (by rw [List.drop_zero, List.take_length])) (by rw [GT.len, hl1, hsz, ← Nat.succ_mul]; exact Nat.mul_le_mul_right _ (by omega)) (fun u hu => GT.one x u hu) ?_
        refine s2 ?_
        refine W_DS (pre := [_, _, _, _, _, _, _, _]) (suf := [_]) [50, 53] [] _ pc mix (by kernel_rfl) (by kernel_rfl) rfl ?_
        refine s4 ?_
        rw [e9]
        refine D_slV (g := nb) (o := 0) (n := a0.els.length + 1) (c := cp) (a := ((i + 1 : Nat) : Int)) (b := ((a0.els.length + 1 : Nat) : Int)) GC.none (OpV.t rfl) (optD.some (OpV.t rfl)) optD.none el69.h (by omega) (by omega) (by omega) ?_
        refine s2 ?_
        refine D_slV (g := a0.g) (o := 0) (n := a0.els.length) (c := a0.cap) (a := (i : Int)) (b := ((a0.els.length : Nat) : Int)) GC.none (OpV.t rfl) (optD.some (OpV.t rfl)) optD.none el69.h (by omega) (by omega) (by omega) ?_
        refine s10 ?_
        simp only [Int.toNat_natCast, Int.toNat_zero, sl0, Nat.sub_zero]
        rw [slLt (show i + 1 < cp by omega), slLt (show i < a0.cap by omega)]
        generalize hcs2 : cs1.take (i * 3) ++ GT.cells x ++ cs1.drop (i * 3 + (GT.cells x).length) = cs2
        have hl2 : cs2.length = cp * 3 := by
          have h6 : i * 3 + 3 ≤ cp * 3 := by rw [← Nat.succ_mul]; exact Nat.mul_le_mul_right _ (by omega)
          rw [← hcs2]; simp only [List.length_append, List.length_take, List.length_drop, GT.len, hl1, hsz]; omega
        have hl3 : (rowCells (a0.els.drop i)).length = (a0.els.length - i) * 3 := by rw [length_rowCells, List.length_drop, hsz]
        refine L_cpRaw (q := a0.els.length - i) (vs := rowCells (a0.els.drop i)) rfl rfl rfl el69.h pk (by omega) hl3 (cells_blk (cs := rowCells a0.els ++ a0.tail) (n := (a0.els.length - i) * 3) mm (row_seg a0.els (by omega) a0.tail)) (by rw [hl3, hl2, ← Nat.add_mul]; exact Nat.mul_le_mul_right _ (by omega)) (fun u hu => rowCells_one _ u hu) ?_
        refine s6 ?_
        refine W_conv (fun w h => els_ins i (xs := a0.els) (x := x) pk pk h) ?_
        have hle : (a0.els.take i ++ [x] ++ a0.els.drop i).length = a0.els.length + 1 := by simp [List.length_take, List.length_drop]; omega
        refine W_conv (fun w h => raw_close (τ := T_Up) (g := nb) (e := 129) (cap := cp) (els := a0.els.take i ++ [x] ++ a0.els.drop i) (tail := (((List.replicate (cp - i) ([.string ByteArray.empty, .slice none 0 0, .int .i64 0] : List Value)).flatten).drop 3).drop (rowCells (a0.els.drop i)).length) (ins_new a0.els x (by omega) a0.tail _ cs1 cs2 hcs1.symm hcs2.symm) (by rw [hle]; omega) hc2 (by
            rw [hle, hsz]; simp only [List.length_drop, hl3]
            have h5 : ((List.replicate (cp - i) ([.string ByteArray.empty, .slice none 0 0, .int .i64 0] : List Value)).flatten).length = (cp - i) * 3 := by simp
            have h7 : (cp - i) * 3 = cp * 3 - i * 3 := Nat.sub_mul _ _ _
            have h8 : (a0.els.length - i) * 3 = a0.els.length * 3 - i * 3 := Nat.sub_mul _ _ _
            have h9 : (a0.els.length + 1) * 3 ≤ cp * 3 := Nat.mul_le_mul_right _ hc1
            have h10 : i * 3 ≤ a0.els.length * 3 := Nat.mul_le_mul_right _ (by omega)
            rw [h5]; rw [Nat.add_mul] at h9 ⊢; omega) pk pk h) ?_
        refine s1 ?_
        refine res1 rfl (ResOK.tmp rfl) ⟨⟨some ⟨nb, 0, none⟩, cp, 129, a0.els.take i ++ [x] ++ a0.els.drop i, (((List.replicate (cp - i) ([.string ByteArray.empty, .slice none 0 0, .int .i64 0] : List Value)).flatten).drop 3).drop (rowCells (a0.els.drop i)).length⟩, ?_, ?_, rfl⟩ ms
        · show Value.slice _ _ _ = Value.slice _ _ _
          rw [hle]
        · rw [dat_els, dat_els]
          simp [List.map_take, List.map_drop]
      · have hc2' : a0.els.length + 1 ≤ a0.cap := by have := of_decide_eq_false hc2; omega
        refine s7 ?_
        rw [e8]
        refine L_slV (g := a0.g) (o := 0) (n := a0.els.length) (c := a0.cap) (a := 0) (b := ((a0.els.length + 1 : Nat) : Int)) rfl rfl rfl rfl el69.h (by omega) (by omega) (by omega) ?_
        simp only [Int.toNat_natCast, Int.toNat_zero, sl0, Nat.sub_zero]
        refine s10 ?_
        rw [e9]
        refine L_slV (g := a0.g) (o := 0) (n := a0.els.length + 1) (c := a0.cap) (a := ((i + 1 : Nat) : Int)) (b := ((a0.els.length + 1 : Nat) : Int)) rfl rfl rfl rfl el69.h (by omega) (by omega) (by omega) ?_
        refine L_ovl (T := 69) (TB := 4) (cs := GT.cells x) (ds := rowCells a0.els ++ a0.tail) rfl rfl rfl Try.func141 (by kernel_rfl) (by kernel_rfl) (by kernel_rfl) (by kernel_rfl) el69.h mm mm hbg (by rw [hcl]; omega) ?_
        refine s2 ?_
        refine W_cond rfl (fun hc3 => ?_) (fun hc3 => ?_)
        · refine s1 ?_
          refine W_DS (pre := [_, _, _, _, _, _, _, _]) (suf := [_]) [73, 76] [] _ pc mix (by kernel_rfl) (by kernel_rfl) rfl ?_
          refine s4 ?_
          rw [e9]
          refine D_slV (g := a0.g) (o := 0) (n := a0.els.length + 1) (c := a0.cap) (a := ((i + 1 : Nat) : Int)) (b := ((a0.els.length + 1 : Nat) : Int)) GC.none (OpV.t rfl) (optD.some (OpV.t rfl)) optD.none el69.h (by omega) (by omega) (by omega) ?_
          refine s2 ?_
          refine D_slV (g := a0.g) (o := 0) (n := a0.els.length + 1) (c := a0.cap) (a := (i : Int)) (b := ((a0.els.length + 1 : Nat) : Int)) GC.none (OpV.t rfl) (optD.some (OpV.t rfl)) optD.none el69.h (by omega) (by omega) (by omega) ?_
          refine s10 ?_
          simp only [Int.toNat_natCast, Int.toNat_zero, sl0, Nat.sub_zero]
          rw [slLt (show i + 1 < a0.cap by omega), slLt (show i < a0.cap by omega)]
          have hl3 : (rowCells (a0.els.drop i)).length = (a0.els.length - i) * 3 := by rw [length_rowCells, List.length_drop, hsz]
          refine L_cpRaw (q := a0.els.length - i) (vs := rowCells (a0.els.drop i)) rfl rfl rfl el69.h pk (by omega) hl3 (cells_blk (cs := rowCells a0.els ++ a0.tail) (n := (a0.els.length - i) * 3) mm (row_seg a0.els (by omega) a0.tail)) (by rw [hl3, hcl, ← Nat.add_mul]; exact Nat.mul_le_mul_right _ (by omega)) (fun u hu => rowCells_one _ u hu) ?_
          generalize hcs1 : (rowCells a0.els ++ a0.tail).take ((i + 1) * 3) ++ rowCells (a0.els.drop i) ++ (rowCells a0.els ++ a0.tail).drop ((i + 1) * 3 + (rowCells (a0.els.drop i)).length) = cs1
          have hl1 : cs1.length = a0.cap * 3 := by
            have h6 : (i + 1) * 3 + (a0.els.length - i) * 3 ≤ a0.cap * 3 := by rw [← Nat.add_mul]; exact Nat.mul_le_mul_right _ (by omega)
            rw [← hcs1]; simp only [List.length_append (bs := rowCells (List.drop i a0.els)), List.length_append, List.length_take, List.length_drop, hl3] at hcl ⊢; omega
          refine s5 ?_
          refine L_slV (g := a0.g) (o := 0) (n := a0.els.length + 1) (c := a0.cap) (a := (i : Int)) (b := ((a0.els.length + 1 : Nat) : Int)) rfl rfl rfl rfl el69.h (by omega) (by omega) (by omega) ?_
          simp only [Int.toNat_natCast, Int.toNat_zero, sl0, Nat.sub_zero]
          rw [slLt (show i < a0.cap by omega)]
          refine s1 ?_
          refine L_cpRaw (q := 1) (vs := GT.cells x) rfl rfl rfl el69.h pk (by omega) (by rw [GT.len]; rfl) (cells_blk (n := (GT.cells x).length) mm (by rw [List.drop_zero, List.take_length])) (by rw [GT.len, hl1, hsz, ← Nat.succ_mul]; exact Nat.mul_le_mul_right _ (by omega)) (fun u hu => GT.one x u hu) ?_
          refine s6 ?_
          refine W_conv (fun w h => els_ins i (xs := a0.els) (x := x) pk pk h) ?_
          have hle : (a0.els.take i ++ [x] ++ a0.els.drop i).length = a0.els.length + 1 := by simp [List.length_take, List.length_drop]; omega
          refine W_conv (fun w h => raw_close (τ := T_Up) (g := a0.g) (e := a0.e) (cap := a0.cap) (els := a0.els.take i ++ [x] ++ a0.els.drop i) (tail := a0.tail.drop 3) (ins_shift a0.els x hlt a0.tail cs1 (by rw [hsz]; rw [hsz] at ft; have h9 : (a0.els.length + 1) * 3 ≤ a0.cap * 3 := Nat.mul_le_mul_right _ hc2'; rw [Nat.add_mul] at h9; omega) hcs1.symm) (by rw [hle]; omega) fm (by rw [hle, hsz]; rw [hsz] at ft; simp only [List.length_drop]; have h9 : (a0.els.length + 1) * 3 ≤ a0.cap * 3 := Nat.mul_le_mul_right _ hc2'; rw [Nat.add_mul] at h9 ⊢; omega) pk pk h) ?_
          refine s1 ?_
          refine res1 rfl (ResOK.tmp rfl) ⟨⟨some ⟨a0.g, 0, none⟩, a0.cap, a0.e, a0.els.take i ++ [x] ++ a0.els.drop i, a0.tail.drop 3⟩, ?_, ?_, rfl⟩ ms
          · show Value.slice _ _ _ = Value.slice _ _ _
            rw [hle]
          · rw [dat_els, dat_els]
            simp [List.map_take, List.map_drop]
        · exfalso; simp at hc3
end Go.Proofs.SL
namespace Go.Proofs
open Go.Shelf
def Try.lays189_ren : Go.Shelf.Ren := ⟨fun | 189 => 138 | 125 => 165 | 257 => 164 | 128 => 184 | 129 => 185 | 294 => 175 | 295 => 176 | 296 => 177 | 297 => 178 | 298 => 179 | 299 => 180 | 216 => 181 | 300 => 182 | 301 => 183 | 328 => 189 | 329 => 190 | 330 => 191 | 331 => 192 | 332 => 193 | 215 => 194 | 343 => 195 | n => n, fun | 28 => 34 | 3 => 3 | 46 => 152 | 0 => 0 | 51 => 189 | 53 => 191 | 4 => 4 | 183 => 182 | 182 => 181 | 131 => 116 | 5 => 5 | 9 => 9 | 218 => 194 | 222 => 198 | 228 => 200 | 229 => 172 | n => n, fun | n => n⟩
theorem Try.lays189 : Go.Proofs.Lays.n189 Try.prog Try.lays189_ren := {
  mixed := by kernel_rfl
  f125 := Try.func165.trans (congrArg some (by kernel_rfl))
  f128 := Try.func184.trans (congrArg some (by kernel_rfl))
  f129 := Try.func185.trans (congrArg some (by kernel_rfl))
  f189 := Try.func138.trans (congrArg some (by kernel_rfl))
  f215 := Try.func194.trans (congrArg some (by kernel_rfl))
  f216 := Try.func181.trans (congrArg some (by kernel_rfl))
  f257 := Try.func164.trans (congrArg some (by kernel_rfl))
  f294 := Try.func175.trans (congrArg some (by kernel_rfl))
  f295 := Try.func176.trans (congrArg some (by kernel_rfl))
  f296 := Try.func177.trans (congrArg some (by kernel_rfl))
  f297 := Try.func178.trans (congrArg some (by kernel_rfl))
  f298 := Try.func179.trans (congrArg some (by kernel_rfl))
  f299 := Try.func180.trans (congrArg some (by kernel_rfl))
  f300 := Try.func182.trans (congrArg some (by kernel_rfl))
  f301 := Try.func183.trans (congrArg some (by kernel_rfl))
  f328 := Try.func189.trans (congrArg some (by kernel_rfl))
  f329 := Try.func190.trans (congrArg some (by kernel_rfl))
  f330 := Try.func191.trans (congrArg some (by kernel_rfl))
  f331 := Try.func192.trans (congrArg some (by kernel_rfl))
  f332 := Try.func193.trans (congrArg some (by kernel_rfl))
  f343 := Try.func195.trans (congrArg some (by kernel_rfl))
  t0 := Try.underlying0
  a0 := Try.isAgg0
  z0 := Try.sizeOf0
  v0 := Try.zeroValue0
  t3 := Try.underlying3
  a3 := Try.isAgg3
  z3 := Try.sizeOf3
  v3 := Try.zeroValue3
  t4 := Try.underlying4
  a4 := Try.isAgg4
  z4 := Try.sizeOf4
  v4 := Try.zeroValue4
  t5 := Try.underlying5
  a5 := Try.isAgg5
  z5 := Try.sizeOf5
  v5 := Try.zeroValue5
  t9 := Try.underlying9
  a9 := Try.isAgg9
  z9 := Try.sizeOf9
  v9 := Try.zeroValue9
  t28 := Try.underlying34
  a28 := Try.isAgg34
  z28 := Try.sizeOf34
  v28 := Try.zeroValue34
  t46 := Try.underlying152
  a46 := Try.isAgg152
  z46 := Try.sizeOf152
  v46 := Try.zeroValue152
  t51 := Try.underlying189
  a51 := Try.isAgg189
  z51 := Try.sizeOf189
  v51 := Try.zeroValue189
  t53 := Try.underlying191
  a53 := Try.isAgg191
  z53 := Try.sizeOf191
  v53 := Try.zeroValue191
  t131 := Try.underlying116
  a131 := Try.isAgg116
  z131 := Try.sizeOf116
  v131 := Try.zeroValue116
  t182 := Try.underlying181
  a182 := Try.isAgg181
  z182 := Try.sizeOf181
  v182 := Try.zeroValue181
  t183 := Try.underlying182
  a183 := Try.isAgg182
  z183 := Try.sizeOf182
  v183 := Try.zeroValue182
  t218 := Try.underlying194
  a218 := Try.isAgg194
  z218 := Try.sizeOf194
  v218 := Try.zeroValue194
  t222 := Try.underlying198
  a222 := Try.isAgg198
  z222 := Try.sizeOf198
  v222 := Try.zeroValue198
  t228 := Try.underlying200
  a228 := Try.isAgg200
  z228 := Try.sizeOf200
  v228 := Try.zeroValue200
  t229 := Try.underlying172
  a229 := Try.isAgg172
  z229 := Try.sizeOf172
  v229 := Try.zeroValue172 }
end Go.Proofs
namespace Go.Proofs.SL
open Go
set_option maxHeartbeats 2000000
theorem sl_Sort_intint_walk (w : World) (a0 : TL Int) (r : List Int) (hp : sortIP (GT.dat a0) = some r) : Spec Try.prog 138 [(TL.hdr a0)].toArray w [treeH a0] (fun v M => ∃ (y0 : TL Int), v = .tuple #[] ∧ GT.dat y0 = r ∧ M = [treeH y0] ∧ y0.hdr = a0.hdr) := Spec.sortI w a0 r hp (Any.slices_Sort_int Try.lays189) (Any.slices_Sort_int_none Try.lays189)
end Go.Proofs.SL
namespace Go.Proofs.SL
open Go
variable {Γ : Cx} {l l' : Envl} {M M' M1 M2 F A : List HP} {Qp : Post} {K : Kont} {w0 w : World} {S0 : List Nat}
variable {ops : Array Oper} {fuel : Nat} {listed : Array Bool} {i d : Nat} {o : Oper}
theorem wp_put {P : Program} {a : Act} {next : Act → World → Prop} {Q1 Q2 : Exit → Act → World → Prop} (h1 : ∀ e a w, e ≠ .normal → ¬ Q1 e a w) (hd : ∀ a w, next a w → a.defers = [])
    (h : o.wp P a w next Q1) : o.wp P a w (fun a' w' => (∃ u, a' = a.put o.dst u) ∧ next a' w') Q2 := by
  unfold Oper.wp at h ⊢
  generalize (execOp a.eval o).run P w = r at h ⊢
  cases r with
  | ok n w' =>
    cases n <;> simp only [Oper.upon] at h ⊢
    case value u => exact ⟨⟨u, rfl⟩, h⟩
    case skip => exact ⟨⟨_, rfl⟩, h⟩
    case defer df =>
      have := hd _ _ h
      cases hh : o.dst <;> simp [Act.put, hh] at this
    case enter f args =>
      refine Calls.mono h fun e w'' he => ?_
      cases e with
      | returned u => exact ⟨⟨u, rfl⟩, he⟩
      | panicked c => exact (h1 _ _ _ (by simp) he).elim
      | outgrown =>
        obtain ⟨a, w, hq⟩ := he
        exact (h1 _ _ _ (by simp) hq).elim
    case row row args => exact Rows.mono h fun u w'' he => ⟨⟨u, rfl⟩, he⟩
  | halt x w' =>
    cases x <;> simp only [Oper.upon] at h ⊢
    case panic v => exact (h1 _ _ _ (by simp) h).elim
theorem L_one (h : L Γ [o] l M K) (hg : o.guard = none) {a : Act} (ha : Env a Γ.n l) (hw : Holds Γ.w0 Γ.S0 M w) {Q2 : Exit → Act → World → Prop} :
    o.wp Γ.P a w (fun a' w' => (∃ u, a' = a.put o.dst u) ∧ ∃ l' M', Env a' Γ.n l' ∧ Holds Γ.w0 Γ.S0 M' w' ∧ K l' M') Q2 := by
  have h1 := h #[] a w (fun e a' w' => e = .normal ∧ ∃ l' M', Env a' Γ.n l' ∧ Holds Γ.w0 Γ.S0 M' w' ∧ K l' M') ha hw (fun a' w' l' M' q1 q2 q3 => ⟨rfl, l', M', q1, q2, q3⟩)
  unfold wpList at h1
  simp only [Region.wanted, hg, if_true] at h1
  rcases h1 with h1 | ⟨_, a, w, h1⟩
  · refine Oper.wp_mono (fun a' w' h2 => ⟨h2.1, h2.2.2⟩) (wp_put (fun e a w he hq => he hq.1) (fun a w hq => ?_) h1)
    obtain ⟨_, l', M', h3, _⟩ := hq
    exact h3.defers
  · cases h1.1
def AllIn : List HP → List HP → Prop
  | [], _ => True
  | h :: hs, M => h ∈ M ∧ AllIn hs M
theorem AllIn.mem : ∀ {A M : List HP}, AllIn A M → ∀ x, x ∈ A → x ∈ M
  | _ :: _, _, h, x, hx => by
    rcases List.mem_cons.1 hx with rfl | hx
    · exact h.1
    · exact AllIn.mem h.2 x hx
theorem AllIn.of_mem : ∀ {A M : List HP}, (∀ x, x ∈ A → x ∈ M) → AllIn A M
  | [], _, _ => trivial
  | _ :: _, _, h => ⟨h _ (List.mem_cons_self ..), AllIn.of_mem fun x hx => h x (List.mem_cons_of_mem _ hx)⟩
/-- An operation that yields a value, in whatever world bears the parts A, and does nothing else. -/
structure Pu (Γ : Cx) (A : List HP) (l : Envl) (o : Oper) (d : Nat) (v : Value) : Prop where
  dst : o.dst = some d
  lt : d < Γ.n
  gd : o.guard = none
  pu : ∀ a w, Env a Γ.n l → Sees Γ.w0 Γ.S0 A w → (execOp a.eval o).run Γ.P w = .ok (.value v) w
def AH (Γ : Cx) (ops : Array Oper) (A : List HP) (Qp : Post) (fuel : Nat) (listed : Array Bool) (l : Envl) (M : List HP) : Prop :=
  ∀ a w, Env a Γ.n l → Holds Γ.w0 Γ.S0 M w → wpAnyH Γ.P .any ops (liftQ Γ Qp) (Sees Γ.w0 Γ.S0 A) fuel listed a w
theorem W_AH (A : List HP) {id : Nat} (hm : Γ.P.follows .mixedOrders = true) (h : AH Γ ops A Qp ops.size (Array.replicate ops.size false) l M) : W Γ (.region id ops true) l M Qp := fun a w ha hw =>
  wp_region_held hm (h a w.drew ha hw.drew)
theorem AH_done (hr : Region.ready .any ops listed = []) (h : Qp .normal l M) : AH Γ ops A Qp fuel listed l M := fun _ _ ha hw => wpAnyH_done hr ⟨l, M, ha, hw, h⟩ fuel
theorem AH_take {v : Value} (i : Nat) (hi : ops[i]? = some o) (hp : Pu Γ A l o d v) (hs : Region.noSelect ops = true) (hf : Region.free .any ops listed i = true) (hr : (Region.ready .any ops listed).contains i = true)
    (hA : AllIn A M) (hk : AH Γ ops A Qp fuel (listed.setIfInBounds i true) ((d, v) :: l) M) : AH Γ ops A Qp (fuel + 1) listed l M := fun a w ha hw =>
  wpAnyH_take hi hs hf hr (fun _ _ _ h => h) (.inl ⟨by simp [Region.wanted, hp.gd], fun w hw => hp.pu a w ha hw⟩) (hw.seesSub hA.mem) (hk _ w (by rw [hp.dst]; exact ha.put hp.lt) hw)
theorem drop_get {α : Type} {xs : Array α} {i : Nat} {o : α} {rest : List α} (h : xs.toList.drop i = o :: rest) : xs[i]? = some o := by
  rw [← Array.getElem?_toList]
  have := congrArg (fun l => l[0]?) h
  simpa [List.getElem?_drop] using this
theorem AH_one (i : Nat) {rest' : List Oper} (hi : ops.toList.drop i = o :: rest') (hg : o.guard = none) (hr : Region.ready .any ops listed = [i])
    (h : L Γ [o] l M (fun l' M' => AllIn A M' ∧ AH Γ ops A Qp fuel (listed.setIfInBounds i true) l' M')) : AH Γ ops A Qp (fuel + 1) listed l M := fun a w ha hw =>
  wpAnyH_all hr (by simp) fun j hj => by
    rw [List.mem_singleton.1 hj]
    unfold wpOp
    rw [drop_get hi]
    simp only [Region.wanted, hg, if_true]
    refine .inl (Oper.wp_mono (fun a' w' h1 => ?_) (L_one h hg ha hw))
    obtain ⟨_, l', M', h1, h2, h3, h4⟩ := h1
    exact ⟨h2.seesSub h3.mem, h4 a' w' h1 h2⟩
def emH : HP := ⟨[], fun _ => True, fun _ _ _ h => h⟩
theorem Holds.em (h : Holds w0 S0 M w) : Holds w0 S0 (emH :: M) w := h.reFp (List.Perm.of_eq (by rw [fps_cons]; rfl)) fun x hx => by
  rcases List.mem_cons.1 hx with rfl | hx
  · trivial
  · exact h.prs x hx
/-- The same in two states: an allocation (number al) has not come yet, or it has. -/
def AP (Γ : Cx) (ops : Array Oper) (A : List HP) (Qp : Post) (al da : Nat) (z : List Value) (T : TypeId) (fuel : Nat) (listed : Array Bool) (l : Envl) (M : List HP) : Prop :=
  AH Γ ops A Qp (fuel + 1) listed l M ∧ ∀ b, AH Γ ops A Qp fuel (listed.setIfInBounds al true) ((da, .pointer (some ⟨b, 0, none⟩)) :: l) (blk b z T :: M)
theorem sub_new {da : Nat} {v : Value} (h : l.lookup da = none) : Sub l ((da, v) :: l) := fun t u ht => by
  rw [List.lookup_cons]
  cases hb : t == da with
  | true => have : t = da := by simpa using hb
            subst this; rw [h] at ht; cases ht
  | false => exact ht
variable {al da : Nat} {z : List Value} {T : TypeId}
theorem W_AP (A : List HP) (al da : Nat) (z : List Value) (T : TypeId) (n : Nat) {id : Nat} (hm : Γ.P.follows .mixedOrders = true) (hn : ops.size = n + 1) (h : AP Γ ops A Qp al da z T n (Array.replicate (n + 1) false) l M) : W Γ (.region id ops true) l M Qp :=
  W_AH A hm (by rw [hn]; exact h.1)
theorem AP_take {v : Value} (i : Nat) (hi : ops[i]? = some o) (hp : Pu Γ A l o d v) (hs : Region.noSelect ops = true) (hf : Region.free .any ops listed i = true) (hr : (Region.ready .any ops listed).contains i = true)
    (hf2 : Region.free .any ops (listed.setIfInBounds al true) i = true) (hr2 : (Region.ready .any ops (listed.setIfInBounds al true)).contains i = true) (hda : l.lookup da = none) (hne : Nat.beq d da = false) (hia : Nat.beq i al = false)
    (hA : AllIn A M) (hk : AP Γ ops A Qp al da z T fuel (listed.setIfInBounds i true) ((d, v) :: l) M) : AP Γ ops A Qp al da z T (fuel + 1) listed l M := by
  have hne' : d ≠ da := fun e => by subst e; rw [Nat.beq_refl] at hne; cases hne
  have hia' : i ≠ al := fun e => by subst e; rw [Nat.beq_refl] at hia; cases hia
  refine ⟨AH_take i hi hp hs hf hr hA hk.1, fun b => ?_⟩
  refine AH_take i hi (v := v) (d := d) ⟨hp.dst, hp.lt, hp.gd, fun a w ha hw => hp.pu a w (ha.sub (sub_new hda)) hw⟩ hs hf2 hr2 (AllIn.of_mem fun x hx => List.mem_cons_of_mem _ (hA.mem x hx)) ?_
  rw [Array.setIfInBounds_comm _ _ (Ne.symm hia')]
  intro a w ha hw
  refine hk.2 b a w (ha.sub fun t u ht => ?_) hw
  simp only [List.lookup_cons] at ht ⊢
  cases h1 : t == da with
  | true =>
    have : t = da := by simpa using h1
    subst this
    rw [h1] at ht
    cases h2 : t == d with
    | true => exact (hne' (by simpa using h2 : t = d).symm).elim
    | false => exact ht
  | false => rw [h1] at ht; exact ht
theorem AP_step (i : Nat) {rest' : List Oper} (hi0 : ops.toList.drop i = o :: rest') (hg : o.guard = none) (hr1 : Region.ready .any ops listed = [i, al] ∨ Region.ready .any ops listed = [al, i]) (hr2 : Region.ready .any ops (listed.setIfInBounds al true) = [i])
    (hia : Nat.beq i al = false) (hdst : (o.dst == some da) = false) (hda : l.lookup da = none) {oal : Oper} (hoa : ops[al]? = some oal) (hga : oal.guard = none)
    (hal : ∀ l M, L Γ [oal] l M (fun l' M' => ∃ b, l' = (da, .pointer (some ⟨b, 0, none⟩)) :: l ∧ M' = blk b z T :: M)) (hA : AllIn A M)
    (h : ∀ X, L Γ [o] l (X :: M) (fun l' M' => ∃ M1, Pick X M' M1 ∧ AllIn A M1 ∧ l'.lookup da = none ∧ AP Γ ops A Qp al da z T fuel (listed.setIfInBounds i true) l' M1)) :
    AP Γ ops A Qp al da z T (fuel + 1) listed l M := by
  have hi := drop_get hi0
  have hia' : i ≠ al := fun e => by subst e; rw [Nat.beq_refl] at hia; cases hia
  have two : ∀ b, AH Γ ops A Qp (fuel + 1) (listed.setIfInBounds al true) ((da, .pointer (some ⟨b, 0, none⟩)) :: l) (blk b z T :: M) := fun b a w ha hw =>
    wpAnyH_all hr2 (by simp) fun j hj => by
      rw [List.mem_singleton.1 hj]
      unfold wpOp
      rw [hi]
      simp only [Region.wanted, hg, if_true]
      refine .inl (Oper.wp_mono (fun a' w' h1 => ?_) (L_one (h (blk b z T)) hg (ha.sub (sub_new hda)) hw))
      obtain ⟨⟨u, rfl⟩, l', M', h1, h2, M1, h3, h4, h5, h6⟩ := h1
      have h7 := h2.perm h3.perm
      refine ⟨h7.seesSub fun x hx => List.mem_cons_of_mem _ (h4.mem x hx), ?_⟩
      rw [Array.setIfInBounds_comm _ _ (Ne.symm hia')]
      refine h6.2 b _ w' ⟨h1.size, h1.defers, fun t v ht => ?_⟩ h7
      rw [List.lookup_cons] at ht
      cases hb : t == da with
      | true =>
        have : t = da := by simpa using hb
        subst this
        rw [hb] at ht
        cases ht
        have h8 := ha.get t (.pointer (some ⟨b, 0, none⟩)) (by simp [List.lookup_cons])
        cases hd : o.dst with
        | none => exact h8
        | some d =>
          have hne : d ≠ t := fun e => by subst e; rw [hd] at hdst; simp at hdst
          simp only [Act.put]
          rw [Array.getElem?_setIfInBounds_ne hne]
          exact h8
      | false => rw [hb] at ht; exact h1.get t v ht
  have one : ∀ a w, Env a Γ.n l → Holds Γ.w0 Γ.S0 M w → ∀ j, j = i ∨ j = al → wpOp Γ.P ops (liftQ Γ Qp) j (fun a' w' => Sees Γ.w0 Γ.S0 A w' ∧ wpAnyH Γ.P .any ops (liftQ Γ Qp) (Sees Γ.w0 Γ.S0 A) (fuel + 1) (listed.setIfInBounds j true) a' w') a w := fun a w ha hw j hj => by
    rcases hj with rfl | rfl
    · unfold wpOp
      rw [hi]
      simp only [Region.wanted, hg, if_true]
      refine .inl (Oper.wp_mono (fun a' w' h1 => ?_) (L_one (h emH) hg ha hw.em))
      obtain ⟨_, l', M', h1, h2, M1, h3, h4, h5, h6⟩ := h1
      have h7 := (h2.perm h3.perm).sub (M' := M1) ⟨[emH], List.perm_append_comm (l₁ := [emH])⟩
      exact ⟨h7.seesSub h4.mem, h6.1 a' w' h1 h7⟩
    · unfold wpOp
      rw [hoa]
      simp only [Region.wanted, hga, if_true]
      refine .inl (Oper.wp_mono (fun a' w' h1 => ?_) (L_one (hal l M) hga ha hw))
      obtain ⟨_, l', M', h1, h2, b, rfl, rfl⟩ := h1
      exact ⟨h2.seesSub fun x hx => List.mem_cons_of_mem _ (hA.mem x hx), two b a' w' h1 h2⟩
  refine ⟨fun a w ha hw => ?_, two⟩
  rcases hr1 with hr | hr
  · exact wpAnyH_all hr (by simp) fun j hj => one a w ha hw j (by simpa using hj)
  · exact wpAnyH_all hr (by simp) fun j hj => one a w ha hw j ((by simpa using hj : j = al ∨ j = i).symm)
theorem AP_end (hr : Region.ready .any ops listed = [al]) {oal : Oper} {rest' : List Oper} (hoa : ops.toList.drop al = oal :: rest') (hga : oal.guard = none)
    (hal : ∀ l M, L Γ [oal] l M (fun l' M' => ∃ b, l' = (da, .pointer (some ⟨b, 0, none⟩)) :: l ∧ M' = blk b z T :: M)) (hA : AllIn A M)
    (h : ∀ b, AH Γ ops A Qp fuel (listed.setIfInBounds al true) ((da, .pointer (some ⟨b, 0, none⟩)) :: l) (blk b z T :: M)) : AP Γ ops A Qp al da z T fuel listed l M :=
  ⟨AH_one al hoa hga hr fun ops' a w Q ha hw hq => hal l M ops' a w Q ha hw fun a' w' l' M' h1 h2 ⟨b, h3, h4⟩ => hq a' w' l' M' h1 h2 (by
    subst h3; subst h4
    exact ⟨AllIn.of_mem fun x hx => List.mem_cons_of_mem _ (hA.mem x hx), h b⟩), h⟩
/-! Small steps that may be taken first -/
section
variable {ty : TypeId} {pos : String} {af : Array Edge} {P : Program}
theorem PU_pure {op : Op} {v : Value} (hn : Nat.blt d Γ.n = true) (he : ∀ a w, Env a Γ.n l → Sees Γ.w0 Γ.S0 A w → (execOp a.eval { dst := some d, op, type := ty, pos, after := af, guard := none }).run Γ.P w = .ok (.value v) w) :
    Pu Γ A l { dst := some d, op, type := ty, pos, after := af, guard := none } d v := ⟨rfl, Nat.le_of_ble_eq_true hn, rfl, he⟩
theorem PU_move {x : Operand} {v : Value} (hn : Nat.blt d Γ.n = true) (hx : ev l x = some v) : Pu Γ A l { dst := some d, op := .move x, type := ty, pos, after := af, guard := none } d v :=
  PU_pure hn fun a w ha _ => by simp [execOp, ha.eval hx]
theorem PU_extract {x : Operand} {i : Nat} {vs : Array Value} {v : Value} (hn : Nat.blt d Γ.n = true) (hx : ev l x = some (.tuple vs)) (hv : vs[i]? = some v) :
    Pu Γ A l { dst := some d, op := .extract x i, type := ty, pos, after := af, guard := none } d v :=
  PU_pure hn fun a w ha _ => by simp [execOp, ha.eval hx, Instr.extract, hv]
theorem PU_fieldAddr {x : Operand} {T f fo g o : Nat} (hn : Nat.blt d Γ.n = true) (hx : ev l x = some (.pointer (some ⟨g, o, none⟩))) (ht : fldOf Γ.P T f = some fo) :
    Pu Γ A l { dst := some d, op := .fieldAddr T x f, type := ty, pos := pos, after := af, guard := none } d (.pointer (some ⟨g, o + fo, none⟩)) :=
  PU_pure hn fun a w ha hw => by
    unfold fldOf at ht
    split at ht <;> (try cases ht)
    rename_i fs hfs
    split at ht <;> (try cases ht)
    rename_i x' hx'
    split at ht <;> (try cases ht)
    rename_i i hi
    split at ht <;> cases ht
    rename_i hsz
    simp [execOp, ha.eval hx, Instr.fieldAt, underlying, hfs, hx', Instr.sureAddr, fieldPlace, sizeOf, typeInfo, hi, hsz, addr_add]
theorem PU_load {x : Operand} {T g off fo : Nat} {cs : List Value} {v : Value} (hn : Nat.blt d Γ.n = true) (hx : ev l x = some (.pointer (some ⟨g, off + fo, none⟩))) (hc : RdC Γ A g off cs) (ht : oneOf Γ.P T = true)
    (hv : cs[fo]? = some v) : Pu Γ A l { dst := some d, op := .load T x, type := ty, pos := pos, after := af, guard := none } d v :=
  PU_pure hn fun a' w ha hw => by simp [execOp, ha.eval hx, Instr.loadAt, Instr.sureAddr, loadVar, run_isAgg_one ht, hc w hw fo v hv]
theorem PU_loadW {x : Operand} {T g off : Nat} {cs : List Value} (hn : Nat.blt d Γ.n = true) (hx : ev l x = some (.pointer (some ⟨g, off, none⟩))) (hc : RdC Γ A g off cs) (ht : aggOf Γ.P T = some cs.length) :
    Pu Γ A l { dst := some d, op := .load T x, type := ty, pos := pos, after := af, guard := none } d (.agg cs.toArray) :=
  PU_pure hn fun a' w ha hw => by
    have hl := run_loadCells_at (P := Γ.P) (hc w hw)
    simp [execOp, ha.eval hx, Instr.loadAt, Instr.sureAddr, loadVar, run_isAgg_agg ht, hl]
section
variable {τ δ : Type} [GT τ δ]
end
end
/-- From here on more is to be kept for the small steps. -/
theorem wpAnyH_S {P : Program} {Q : Exit → Act → World → Prop} {S S' : World → Prop} (hs : ∀ w, S' w → S w) : ∀ (fuel : Nat) (listed : Array Bool) (a : Act) (w : World), wpAnyH P .any ops Q S' fuel listed a w → wpAnyH P .any ops Q S fuel listed a w
  | 0, _, _, _, h => h
  | fuel + 1, _, _, _, h => ⟨h.1, fun i hi => wpOp_mono (fun a' w' h' => ⟨hs _ h'.1, wpAnyH_S hs fuel _ a' w' h'.2⟩) (h.2 i hi)⟩
theorem AH_A (A' : List HP) (hs : AllIn A A') (h : AH Γ ops A' Qp fuel listed l M) : AH Γ ops A Qp fuel listed l M := fun a w ha hw =>
  wpAnyH_S (fun w h => ⟨h.old, fun x hx => h.prs x (hs.mem x hx)⟩) _ _ _ _ (h a w ha hw)
theorem AP_A (A' : List HP) (hs : AllIn A A') (h : AP Γ ops A' Qp al da z T fuel listed l M) : AP Γ ops A Qp al da z T fuel listed l M := ⟨AH_A A' hs h.1, fun b => AH_A A' hs (h.2 b)⟩
end Go.Proofs.SL
namespace Go.Proofs.SL
open Go
variable {Γ : Cx} {l : Envl} {M M' M1 M2 F Mr : List HP} {Q : Post} {K : Kont} {w0 w : World} {S0 S : List Nat} {P : Program}
variable {rest : List Oper} {d : Nat} {ty : TypeId} {pos : String} {af : Array Edge}
/-- Elements that can be read, without their row. -/
structure EL (τ : Type) where
  els : List τ
instance {τ δ : Type} [GT τ δ] : GT (EL τ) Unit where
  sz := 1
  pos := by decide
  cells _ := [.bool false]
  len _ := rfl
  one _ v hv := by simp at hv; subst hv; rfl
  rd w S t := ∀ x, x ∈ t.els → GT.rd w S x
  fp _ := []
  ow _ _ := False
  dat _ := ()
  rd_mono h hm := fun x hx => GT.rd_mono (h x hx) hm
  ow_st _ h := h
  ow_rd h _ := h.elim
section
variable {τ δ : Type} [GT τ δ] {t : τ}
theorem no_fp (hw : Holds w0 S0 (M1 ++ M2) w) {h : HP} (hm : h ∈ M2) : ∀ k, k ∈ h.fp → k ∉ fps M1 := fun k hk hk1 => by
  have hnd := hw.nodup
  rw [fps_append] at hnd
  exact (List.nodup_append.1 hnd).2.2 k hk1 k (List.mem_flatMap.2 ⟨_, hm, hk⟩) rfl
theorem RdT.els {xs : List τ} (h : elsT xs ∈ M) : RdT Γ M (EL.mk xs) := fun w hw x hx => GT.ow_rd (hw.prs _ h x hx) fun _ _ h => by cases h
theorem RdT.elOf {X : TL τ} {j : Nat} {x : τ} (h : RdT Γ M (EL.mk X.els)) (hi : X.els[j]? = some x) : RdT Γ M x := fun w hw => h w hw x (List.mem_of_getElem? hi)
theorem RdX.els {xs : List τ} (h : elsT xs ∈ M2) : RdX Γ M1 M2 (EL.mk xs) := fun w hw x hx => GT.ow_rd (hw.prs _ (List.mem_append_right _ h) x hx) fun k hk => no_fp hw h k (List.mem_flatMap.2 ⟨x, hx, hk⟩)
theorem RdX.elOf {X : TL τ} {j : Nat} {x : τ} (h : RdX Γ M1 M2 (EL.mk X.els)) (hi : X.els[j]? = some x) : RdX Γ M1 M2 x := fun w hw => h w hw x (List.mem_of_getElem? hi)
end
/-! Evidence of one world, out of parts -/
structure PC (Mr : List HP) (w : World) (S : List Nat) : Prop where
  prs : ∀ h, h ∈ Mr → h.pr w
  ds : ∀ k, k ∈ fps Mr → k ∉ S
theorem PC.fp (h : PC Mr w S) {x : HP} (hm : x ∈ Mr) : ∀ k, k ∈ x.fp → k ∉ S := fun k hk => h.ds k (List.mem_flatMap.2 ⟨x, hm, hk⟩)
def RdP {τ δ : Type} [GT τ δ] (Mr : List HP) (w : World) (S : List Nat) (t : τ) : Prop := PC Mr w S → GT.rd w S t
section
variable {τ δ : Type} [GT τ δ] {t : τ}
theorem RdP.old (h : GT.rd w S t) : RdP Mr w S t := fun _ => h
theorem RdP.tree (h : treeH t ∈ Mr) : RdP Mr w S t := fun hp => GT.ow_rd (hp.prs _ h) (hp.fp h)
theorem RdP.fst {α β δ ε : Type} [GT α δ] [GT β ε] {t : α × β} (h : RdP Mr w S t) : RdP Mr w S t.1 := fun hp => (h hp).1
theorem RdP.snd {α β δ ε : Type} [GT α δ] [GT β ε] {t : α × β} (h : RdP Mr w S t) : RdP Mr w S t.2 := fun hp => (h hp).2
theorem RdP.of {X : TL τ} {j : Nat} {x : τ} (h : RdP Mr w S X) (hi : X.els[j]? = some x) : RdP Mr w S x := fun hp => (h hp).2.2.1 x (List.mem_of_getElem? hi)
theorem RdP.pair {α β δ ε : Type} [GT α δ] [GT β ε] {a : α} {b : β} (h1 : RdP Mr w S a) (h2 : RdP Mr w S b) : RdP Mr w S (a, b) := fun hp => ⟨h1 hp, h2 hp⟩
theorem RdP.int {n : Int} : RdP Mr w S n := fun _ => trivial
theorem RdP.bool {n : Bool} : RdP Mr w S n := fun _ => trivial
theorem RdP.str {n : ByteArray} : RdP Mr w S n := fun _ => trivial
theorem RdP.u8 {n : UInt8} : RdP Mr w S n := fun _ => trivial
theorem RdP.nil (e : TypeId) : RdP Mr w S (TL.nil τ e) := fun _ => nil_rd e
theorem RdP.map {α δ' : Type} [GT α δ'] {a : α} (f : ∀ w S, GT.rd w S a → GT.rd w S t) (h : RdP Mr w S a) : RdP Mr w S t := fun hp => f w _ (h hp)
theorem RdP.els {xs : List τ} (h : elsT xs ∈ Mr) : RdP Mr w S (EL.mk xs) := fun hp x hx => GT.ow_rd (hp.prs _ h x hx) fun k hk => hp.fp h k (List.mem_flatMap.2 ⟨x, hx, hk⟩)
theorem RdP.elOf {X : TL τ} {j : Nat} {x : τ} (h : RdP Mr w S (EL.mk X.els)) (hi : X.els[j]? = some x) : RdP Mr w S x := fun hp => h hp x (List.mem_of_getElem? hi)
end
/-! A flat slice that is read alone, in a block of one's own -/
section
variable {τ δ : Type} [GT τ δ] [FlatT τ]
theorem flat_rd (x : τ) (w : World) (S : List Nat) : GT.rd w S x := GT.ow_rd ((FlatT.flat x).ow w) fun k hk => by rw [(FlatT.flat x).fp] at hk; cases hk
def slB (Y : TL τ) : List Nat := match Y.a with | none => [] | some a => [a.block]
theorem rd_block {Y : TL τ} {w w' : World} {S S' : List Nat} (h : GT.rd w S Y) (hb : ∀ k, k ∈ slB Y → w'.heap[k]? = w.heap[k]?) (hs : ∀ k, k ∈ slB Y → k ∉ S') : GT.rd w' S' Y :=
  ⟨h.1, h.2.1, fun x _ => flat_rd x _ _, h.2.2.2.1, fun a ha => ⟨(h.2.2.2.2 a ha).1, fun j v hv => by
    have h1 := (h.2.2.2.2 a ha).2 j v hv
    have h2 : a.block ∈ slB Y := by unfold slB; rw [ha]; simp
    exact ⟨by rw [World.cell?_of_block (w := w) (a := ⟨a.block, a.off + j, none⟩) (hb _ h2)]; exact h1.1, hs _ h2⟩⟩⟩
def flH (Y : TL τ) : HP := ⟨slB Y, fun w => GT.rd w [] Y, fun _ _ hb h => rd_block h hb fun _ _ h => by cases h⟩
theorem RdT.fl {Y : TL τ} (h : flH Y ∈ M) : RdT Γ M Y := fun _ hw => hw.prs _ h
theorem RdX.fl {Y : TL τ} (h : flH Y ∈ M2) : RdX Γ M1 M2 Y := fun _ hw => rd_block (hw.prs (flH Y) (List.mem_append_right _ h)) (fun _ _ => rfl) (no_fp hw h)
theorem RdP.fl {Y : TL τ} (h : flH Y ∈ Mr) : RdP Mr w S Y := fun hp => rd_block (hp.prs (flH Y) h) (fun _ _ => rfl) (hp.fp h)
end
section
variable {τ δ : Type} [GT τ δ]
end
section
variable {τ δ : Type} [GT τ δ] [FlatT τ]
end
section
variable {τ δ : Type} [GT τ δ]
end
theorem dat_u8 (x : UInt8) : (GT.dat x : UInt8) = x := rfl
end Go.Proofs.SL
