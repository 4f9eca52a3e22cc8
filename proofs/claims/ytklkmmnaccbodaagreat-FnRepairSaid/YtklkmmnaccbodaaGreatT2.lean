/- The texts of the proof, part 2: the base, walks of functions, plain Lean. -/
import Derived.Test.YtklkmmnaccbodaaGreatT1
import Derived.Sort.Grow
import Derived.Sort.EncStr
import Derived.Lib.SlicesCompact
import Derived.Laws.StructEq
import Derived.Test.YtklkmmnaccbodaaGreatRows
import Derived.Shelf.Sort.Plain
import Derived.Shelf.Slices.In.SortNone
import Derived.Shelf.Slices.CompactS
import Derived.Lib.Overlaps
import Derived.Lib.AppendZerosOnto
import Derived.Laws.Externs
import Derived.OrdersHeld
namespace Go.Proofs.SL
open Go
variable {Γ : Cx} {l : Envl} {M M' M1 M2 F : List HP} {Q : Post} {K : Kont} {w0 w : World} {S0 : List Nat}
variable {rest : List Oper} {d : Nat} {ty : TypeId} {pos : String} {af : Array Edge}
variable {ops : Array Oper} {Msh pool : List HP} {E : Fl} {rs : List (Option Nat × Rel)} {cs0 : List Nat} {KD : List (Option Nat × Rel) → List Nat → List HP → Prop} {gd : Option (Nat × Bool)}
theorem run_sslO {P : Program} {T : TypeId} {s r : ByteArray} {vlo vhi : Option Value} {a b : Int} (ht : isStr P T = true) (hlo : (vlo = none ∧ a = 0) ∨ ∃ k, vlo = some (.int k a)) (hhi : (vhi = none ∧ b = (s.size : Int)) ∨ ∃ k, vhi = some (.int k b))
    (hr : sslP s a b = some r) (w : World) : (Instr.sliceAt T (.string s) vlo vhi none).run P w = .ok (.string r) w := by
  have h2 : P.underlying T = some .string := by unfold isStr at ht; split at ht <;> simp_all
  unfold sslP at hr
  split at hr
  · rename_i hb
    cases hr
    have e1 := fun k w => run_sliceBound (P := P) (k := k) (code := .sliceAlen) (show 0 ≤ b by omega) (show b ≤ ((s.size : Nat) : Int) by omega) w
    have e2 := fun k w => run_sliceBound (P := P) (k := k) (code := .sliceB) hb.1 (show a ≤ ((b.toNat : Nat) : Int) by omega) w
    have e3 := fun k w => run_sliceBound (P := P) (k := k) (code := .sliceB) hb.1 (show a ≤ ((s.size : Nat) : Int) by omega) w
    rcases hlo with ⟨rfl, rfl⟩ | ⟨k1, rfl⟩ <;> rcases hhi with ⟨rfl, rfl⟩ | ⟨k2, rfl⟩
    · simp [Instr.sliceAt, Instr.slice, underlying, h2, Instr.sliceBounds]
    · simp [Instr.sliceAt, Instr.slice, underlying, h2, Instr.sliceBounds, e1]
    · simp [Instr.sliceAt, Instr.slice, underlying, h2, Instr.sliceBounds, e3]
    · simp [Instr.sliceAt, Instr.slice, underlying, h2, Instr.sliceBounds, e1, e2]
  · cases hr
theorem L_ssl {x : Operand} {lo hi : Option Operand} {T : TypeId} {s r : ByteArray} {a b : Int} (hn : Nat.blt d Γ.n = true) (hx : ev l x = some (.string s)) (hlo : optI l lo 0 = some a) (hhi : optI l hi (s.size : Int) = some b)
    (ht : isStr Γ.P T = true) (hr : sslP s a b = some r) (hk : L Γ rest ((d, .string r) :: l) M K) :
    L Γ ({ dst := some d, op := .slice T x lo hi none, type := ty, pos := pos, after := af, guard := none } :: rest) l M K :=
  L_pure hn (fun a' w ha hw => by
    have e0 := ha.eval hx
    have h1 := run_sslO (P := Γ.P) (T := T) (s := s) (r := r) (vlo := lo.map a'.eval) (vhi := hi.map a'.eval) (a := a) (b := b) ht (by
      cases lo with
      | none => cases hlo; exact .inl ⟨rfl, rfl⟩
      | some o => obtain ⟨k, h⟩ := optI_some hlo; exact .inr ⟨k, by simp [ha.eval h]⟩) (by
      cases hi with
      | none => cases hhi; exact .inl ⟨rfl, rfl⟩
      | some o => obtain ⟨k, h⟩ := optI_some hhi; exact .inr ⟨k, by simp [ha.eval h]⟩) hr w
    simp [execOp, e0, h1]) hk
def optD (E : Fl) (x : Option Operand) (c : Prop) (n i : Int) : Prop := match x with
  | none => n = i
  | some o => ∃ k, OpV E o c (.int k i)
theorem optD.none {c : Prop} {n : Int} : optD E Option.none c n n := rfl
theorem optD.some {o : Operand} {c : Prop} {n i : Int} {k : IntKind} (h : OpV E o c (.int k i)) : optD E (Option.some o) c n i := ⟨k, h⟩
section
variable {τ δ : Type} [GT τ δ]
/-- A slice of one's own, its element i opened: the element's cells stand as they are named, what it owned is elsewhere. -/
def holeH (X : TL τ) (i : Nat) (cs : List Value) : HP := ⟨[X.g] ++ (X.els.eraseIdx i).flatMap GT.fp,
  fun w => cs.length = GT.sz τ ∧ i < X.els.length ∧ X.els.length ≤ X.cap ∧ X.cap ≤ maxLen ∧ X.a = some ⟨X.g, 0, none⟩ ∧ (∀ x, x ∈ X.els.eraseIdx i → GT.ow w x) ∧
    w.heap[X.g]? = some (.cells (rowCells (X.els.take i) ++ (cs ++ (rowCells (X.els.drop (i + 1)) ++ X.tail))).toArray X.e (0, 0)) ∧ X.els.length * GT.sz τ + X.tail.length = X.cap * GT.sz τ,
  fun w w' h hp => ⟨hp.1, hp.2.1, hp.2.2.1, hp.2.2.2.1, hp.2.2.2.2.1, fun x hx => GT.ow_st (fun k hk => h k (List.mem_append_right _ (List.mem_flatMap.2 ⟨x, hx, hk⟩))) (hp.2.2.2.2.2.1 x hx), by
    rw [h X.g (by simp)]; exact hp.2.2.2.2.2.2.1, hp.2.2.2.2.2.2.2⟩⟩
theorem row_parts (xs : List τ) {i : Nat} {x : τ} (hi : xs[i]? = some x) : rowCells xs = rowCells (xs.take i) ++ (GT.cells x ++ rowCells (xs.drop (i + 1))) := by
  obtain ⟨hlt, hx⟩ := List.getElem?_eq_some_iff.1 hi
  have h1 : xs = xs.take i ++ xs[i] :: xs.drop (i + 1) := by rw [← List.drop_eq_getElem_cons hlt, List.take_append_drop]
  conv => lhs; rw [h1]
  rw [rowCells_append, rowCells_cons, hx]
theorem perm_el (xs : List τ) {i : Nat} {x : τ} (hi : xs[i]? = some x) : List.Perm xs (x :: xs.eraseIdx i) := by
  obtain ⟨hlt, hx⟩ := List.getElem?_eq_some_iff.1 hi
  rw [List.eraseIdx_eq_take_drop_succ]
  have : xs = xs.take i ++ x :: xs.drop (i + 1) := by rw [← hx, ← List.drop_eq_getElem_cons hlt, List.take_append_drop]
  conv => lhs; rw [this]
  exact List.perm_middle
theorem hole_open {X : TL τ} {i : Nat} {x : τ} (hi : X.els[i]? = some x) (p : Pick (treeH X) M M1) (h : Holds w0 S0 M w) : Holds w0 S0 (treeH x :: holeH X i (GT.cells x) :: M1) w := by
  have h := h.perm p.perm
  have ht : GT.ow w X := h.prs _ (List.mem_cons_self ..)
  have hlt := (List.getElem?_eq_some_iff.1 hi).1
  obtain ⟨r1, r2, r3, r4, r5⟩ := ht
  obtain ⟨g, ha⟩ := (ow_facts (w := w) (L := X) ⟨r1, r2, r3, r4, r5⟩).2 (by omega)
  have hg : X.g = g := by unfold TL.g; rw [ha]; rfl
  subst hg
  obtain ⟨h1, h2, h3, h4⟩ := r5 _ ha
  refine h.reFp ?_ fun y hy => ?_
  · simp only [fps_cons]
    show List.Perm (((match X.a with | none => [] | some a => [a.block]) ++ X.els.flatMap GT.fp) ++ fps M1) (GT.fp x ++ (([X.g] ++ (X.els.eraseIdx i).flatMap GT.fp) ++ fps M1))
    rw [ha]
    have hp := (perm_el X.els hi).flatMap_right GT.fp
    rw [List.flatMap_cons] at hp
    show List.Perm (([X.g] ++ X.els.flatMap GT.fp) ++ fps M1) _
    rw [← List.append_assoc, ← List.append_assoc]
    refine List.Perm.append_right _ ?_
    refine (hp.append_left [X.g]).trans ?_
    rw [← List.append_assoc]
    exact List.perm_append_comm.append_right _
  · rcases List.mem_cons.1 hy with rfl | hy
    · exact r3 x (List.mem_of_getElem? hi)
    rcases List.mem_cons.1 hy with rfl | hy
    · refine ⟨GT.len x, hlt, r1, r2, ha, fun z hz => r3 z ((perm_el X.els hi).mem_iff.2 (List.mem_cons_of_mem _ hz)), ?_, h4⟩
      rw [row_parts X.els hi] at h3
      simpa [List.append_assoc] using h3
    · exact h.prs _ (List.mem_cons_of_mem _ hy)
theorem hole_close {X : TL τ} {i : Nat} {x' : τ} {cs : List Value} (hc : cs = GT.cells x') (p : Pick (holeH X i cs) M M1) (q : Pick (treeH x') M1 M2) (h : Holds w0 S0 M w) :
    Holds w0 S0 (treeH ({ X with els := X.els.set i x' } : TL τ) :: M2) w := by
  subst hc
  have h := h.perm (p.perm.trans (q.perm.cons _))
  obtain ⟨r1, r2, r3, r4, r5, r6, r7, r8⟩ := h.prs (holeH X i (GT.cells x')) (List.mem_cons_self ..)
  have hx := h.prs (treeH x') (List.mem_cons_of_mem _ (List.mem_cons_self ..))
  have hi : (X.els.set i x')[i]? = some x' := by rw [List.getElem?_set_self]; exact r2
  have he : (X.els.set i x').eraseIdx i = X.els.eraseIdx i := by
    rw [List.eraseIdx_eq_take_drop_succ, List.eraseIdx_eq_take_drop_succ, List.take_set_of_le (Nat.le_refl _), List.drop_set_of_lt (Nat.lt_succ_self _)]
  refine h.reFp ?_ fun y hy => ?_
  · simp only [fps_cons]
    show List.Perm (([X.g] ++ (X.els.eraseIdx i).flatMap GT.fp) ++ (GT.fp x' ++ fps M2)) (((match X.a with | none => [] | some a => [a.block]) ++ (X.els.set i x').flatMap GT.fp) ++ fps M2)
    rw [r5]
    have hp := (perm_el _ hi).flatMap_right GT.fp
    rw [List.flatMap_cons, he] at hp
    show List.Perm _ (([X.g] ++ (X.els.set i x').flatMap GT.fp) ++ fps M2)
    rw [← List.append_assoc]
    refine List.Perm.append_right _ ?_
    rw [List.append_assoc]
    exact ((List.perm_append_comm).trans hp.symm).append_left [X.g]
  · rcases List.mem_cons.1 hy with rfl | hy
    · refine ⟨by simpa using r3, r4, fun z hz => ?_, fun ha => ?_, fun a ha => ?_⟩
      · rcases List.mem_cons.1 ((perm_el _ hi).mem_iff.1 hz) with rfl | hz
        · exact hx
        · rw [he] at hz; exact r6 z hz
      · have ha' : X.a = none := ha
        rw [r5] at ha'; cases ha'
      · have ha' : X.a = some a := ha
        rw [r5] at ha'; cases ha'
        refine ⟨rfl, rfl, ?_, by simpa using r8⟩
        rw [row_parts _ hi, List.take_set_of_le (Nat.le_refl _), List.drop_set_of_lt (Nat.lt_succ_self _)]
        simpa [List.append_assoc] using r7
    · exact h.prs _ (List.mem_cons_of_mem _ (List.mem_cons_of_mem _ hy))
theorem dat_set (X : TL τ) (i : Nat) (x' : τ) : GT.dat ({ X with els := X.els.set i x' } : TL τ) = (GT.dat X).set i (GT.dat x') := by
  rw [dat_els, dat_els, List.map_set]
theorem RdC.hole {X : TL τ} {i : Nat} {cs : List Value} (h : holeH X i cs ∈ M) : RdC Γ M X.g (X.o + i * GT.sz τ) cs := fun w hw j v hv => by
  obtain ⟨r1, r2, r3, r4, r5, r6, r7, r8⟩ := hw.prs _ h
  have ho : X.o = 0 := by unfold TL.o; rw [r5]; rfl
  have hj := (List.getElem?_eq_some_iff.1 hv).1
  have hl : (rowCells (X.els.take i)).length = i * GT.sz τ := by rw [length_rowCells, List.length_take, Nat.min_eq_left (by omega)]
  rw [ho, Nat.zero_add, cell_of_row _ _ _ _ _ _ r7]
  simp only [List.getElem?_toArray]
  rw [List.getElem?_append_right (by omega), hl, Nat.add_sub_cancel_left, List.getElem?_append_left hj]
  exact hv
/-- A store into the opened element. -/
theorem L_stH {x y : Operand} {T sz fo n : Nat} {v : Value} {X : TL τ} {i : Nat} {cs : List Value} (hx : ev l x = some (.pointer (some ⟨X.g, X.o + i * sz + fo, none⟩))) (hy : ev l y = some v)
    (hp : Pick (holeH X i cs) M M1) (hsz : GT.sz τ = sz) (hT : aggOf Γ.P T = some n ∨ (oneOf Γ.P T = true ∧ n = 1)) (hv : v.cells.toList.length = n) (h1 : ∀ u, u ∈ v.cells.toList → u.oneCell' = true) (hfit : fo + n ≤ cs.length)
    (hk : L Γ rest l (holeH X i (cs.take fo ++ v.cells.toList ++ cs.drop (fo + n)) :: M1) K) :
    L Γ ({ dst := none, op := .store T x y, type := ty, pos, after := af, guard := none } :: rest) l M K :=
  L_skip rfl rfl (fun a w ha hw => by
    subst hsz; subst hv
    have hw1 := hw.perm hp.perm
    obtain ⟨r1, r2, r3, r4, r5, r6, r7, r8⟩ := hw1.prs (holeH X i cs) (List.mem_cons_self ..)
    have ho : X.o = 0 := by unfold TL.o; rw [r5]; rfl
    have hl : (rowCells (X.els.take i)).length = i * GT.sz τ := by rw [length_rowCells, List.length_take, Nat.min_eq_left (by omega)]
    have hs := run_store_blk (P := Γ.P) (fo := i * GT.sz τ + fo) (vs := v.cells.toList) (ty := 0) r7 (by
      simp only [List.length_append, hl]; omega) h1
    have e : (rowCells (X.els.take i) ++ (cs ++ (rowCells (X.els.drop (i + 1)) ++ X.tail))).take (i * GT.sz τ + fo) ++ v.cells.toList ++ (rowCells (X.els.take i) ++ (cs ++ (rowCells (X.els.drop (i + 1)) ++ X.tail))).drop (i * GT.sz τ + fo + v.cells.toList.length)
        = rowCells (X.els.take i) ++ ((cs.take fo ++ v.cells.toList ++ cs.drop (fo + v.cells.toList.length)) ++ (rowCells (X.els.drop (i + 1)) ++ X.tail)) := by
      generalize rowCells (X.els.take i) = A at *
      generalize (rowCells (X.els.drop (i + 1)) ++ X.tail) = B at *
      rw [← hl]
      rw [List.take_append, List.take_of_length_le (by omega), Nat.add_sub_cancel_left, List.take_append_of_le_length (by omega)]
      rw [show A.length + fo + v.cells.toList.length = A.length + (fo + v.cells.toList.length) by omega, List.drop_append, List.drop_of_length_le (by omega), List.nil_append, Nat.add_sub_cancel_left, List.drop_append_of_le_length (by omega)]
      simp only [List.append_assoc]
    rw [e] at hs
    refine ⟨w.setRow X.g (rowCells (X.els.take i) ++ ((cs.take fo ++ v.cells.toList ++ cs.drop (fo + v.cells.toList.length)) ++ (rowCells (X.els.drop (i + 1)) ++ X.tail))).toArray, ?_, ?_⟩
    · have hx' := ha.eval hx
      rw [ho, Nat.zero_add] at hx'
      rcases hT with hT | ⟨hT, hn1⟩
      · have hcs : v.cells.size = v.cells.toList.length := by simp
        simp [execOp, hx', ha.eval hy, Instr.storeAt, Instr.sureAddr, storeVar, run_isAgg_agg hT, hs]
      · have hcs : v.cells.size = 1 := by rw [← hn1]; simp
        simp [execOp, hx', ha.eval hy, Instr.storeAt, Instr.sureAddr, storeVar, run_isAgg_one hT, hcs, hs]
    · refine Holds.swap hw1 rfl rfl rfl (by simp) (fun k hk hn => ?_) (fun k hk => ?_) ?_ ?_
      · exact setRow_other _ _ _ _ (fun e => hn (by simp [holeH, e]))
      · have hk' : k ∈ (holeH X i cs).fp := hk
        refine ⟨.inl hk', ?_⟩
        rw [size_setRow]
        exact (hw1.rng k (by rw [fps_cons]; exact List.mem_append_left _ hk')).2
      · have := hw1.nodup
        rw [fps_cons] at this
        exact (List.nodup_append.1 this).1
      · have hdis : ∀ k, k ∈ (X.els.eraseIdx i).flatMap GT.fp → k ≠ X.g := fun k hk e => by
          have := hw1.nodup
          rw [fps_cons] at this
          have h2 := (List.nodup_append.1 this).1
          have h3 : (X.g :: (X.els.eraseIdx i).flatMap GT.fp).Nodup := h2
          rw [List.nodup_cons] at h3
          exact h3.1 (e ▸ hk)
        refine ⟨?_, r2, r3, r4, r5, fun z hz => GT.ow_st (fun k hk => setRow_other _ _ _ _ (fun e => hdis k (List.mem_flatMap.2 ⟨z, hz, hk⟩) e)) (r6 z hz), setRow_heap _ _ _ _ _ _ r7, r8⟩
        simp only [List.length_append, List.length_take, List.length_drop]; omega) hk
/-- The address of an element of a slice with an opened element. -/
theorem L_idxH {x y : Operand} {T e sz by_ : Nat} {z : List Value} {k : IntKind} {i : Int} {j : Nat} {cs : List Value} {X : TL τ} {u : τ} (hn : Nat.blt d Γ.n = true) (hx : ev l x = some X.hdr) (hy : ev l y = some (.int k i))
    (ht : elOf Γ.P T = some (e, sz, by_, z)) (hm : holeH X j cs ∈ M) (hi : 0 ≤ i ∧ X.els[i.toNat]? = some u) (hk : L Γ rest ((d, .pointer (some ⟨X.g, X.o + i.toNat * sz, none⟩)) :: l) M K) :
    L Γ ({ dst := some d, op := .indexAddr T x y, type := ty, pos := pos, after := af, guard := none } :: rest) l M K :=
  L_pure hn (fun a' w ha hw => by
    obtain ⟨r1, r2, r3, r4, r5, r6, r7, r8⟩ := hw.prs _ hm
    have ho : X.o = 0 := by unfold TL.o; rw [r5]; rfl
    have h1 := ha.eval hx
    have h2 : X.hdr = .slice (some ⟨X.g, X.o, none⟩) X.els.length X.cap := by show Value.slice X.a X.els.length X.cap = _; rw [ho, ← r5]
    rw [h2] at h1
    simp [execOp, h1, ha.eval hy, run_indexAt ht X.g X.o X.els.length X.cap k i i.toNat (by omega) (List.getElem?_eq_some_iff.1 hi.2).1 w]) hk
end
end Go.Proofs.SL
namespace Go.Proofs.SL
open Go
theorem cells_int (n : Int) : GT.cells n = [.int .i64 n] := rfl
theorem cells_bool (b : Bool) : GT.cells b = [.bool b] := rfl
theorem cells_str (s : ByteArray) : GT.cells s = [.string s] := rfl
theorem cells_TL {τ δ : Type} [GT τ δ] (X : TL τ) : GT.cells X = [X.hdr] := rfl
theorem gnot {b : Bool} (h : b = false) : (!b) = true := by rw [h]; rfl
theorem gand {a b : Bool} (h : a = true) (h2 : b = true) : (a && b) = true := by rw [h, h2]; rfl
theorem allOne {cs : List Value} (h : cs.all Value.oneCell' = true) : ∀ v, v ∈ cs → v.oneCell' = true := List.all_eq_true.1 h
variable {Γ : Cx} {l : Envl} {M M' M1 M2 F : List HP} {Q : Post} {K : Kont} {w0 w : World} {S0 : List Nat}
variable {rest : List Oper} {d : Nat} {ty : TypeId} {pos : String} {af : Array Edge}
theorem RdT.now {τ δ : Type} [GT τ δ] {t : τ} (h : RdT Γ M t) (hw : Holds Γ.w0 Γ.S0 M w) : GT.rd w [] t := h w hw.sees
theorem RdT.nowS {τ δ : Type} [GT τ δ] {t : τ} (h : RdT Γ M t) (hw : Holds Γ.w0 Γ.S0 F w) (hs : ∀ x, x ∈ M → x ∈ F) : GT.rd w [] t := h w (hw.seesSub hs)
theorem addNilT {τ δ : Type} [GT τ δ] (e : TypeId) (h : Holds w0 S0 M w) : Holds w0 S0 (treeH (TL.nil τ e) :: M) w := h.addFlat (flat_nil e)
theorem L_mk0 (τ : Type) {δ : Type} [GT τ δ] {T e sz by_ : Nat} {z : List Value} (hn : Nat.blt d Γ.n = true) (ht : elOf Γ.P T = some (e, sz, by_, z))
    (hk : ∀ X : TL τ, GT.dat X = [] → L Γ rest ((d, X.hdr) :: l) (treeH X :: M) K) :
    L Γ ({ dst := some d, op := .buildSlice T 0 #[], type := ty, pos, after := af, guard := none } :: rest) l M K :=
  L_buildSlice0 τ hn ht (fun b => hk ⟨some ⟨b, 0, none⟩, 0, e, [], []⟩ rfl)
end Go.Proofs.SL
namespace Go.Proofs.SL
open Go
variable {Γ : Cx} {l : Envl} {M M' M1 M2 F : List HP} {Q : Post} {K : Kont} {w0 w : World} {S0 : List Nat}
variable {rest : List Oper} {d : Nat} {ty : TypeId} {pos : String} {af : Array Edge}
variable {ops : Array Oper} {Msh pool pool' : List HP} {E : Fl} {rs : List (Option Nat × Rel)} {cs0 : List Nat} {KD : List (Option Nat × Rel) → List Nat → List HP → Prop}
def RowV (cs : List Value) (e : TypeId) : Rel := fun v M => ∃ b, v = .slice (some ⟨b, 0, none⟩) 1 1 ∧ M = [blk b cs e]
theorem run_bs1 {P : Program} {T e sz by_ : Nat} {z : List Value} {v : Value} (ht : elOf P T = some (e, sz, by_, z)) (hz : z.length = sz) (hsz : 0 < sz) (hns : sz ≤ 65536) (hv : v.cells.toList.length = sz) (w : World) :
    (Instr.buildSlice T 1 #[(0, v)]).run P w = .ok (.slice (some ⟨w.heap.size, 0, none⟩) 1 1) (w.alloc (.cells v.cells.toList.toArray e (0, 0))) :=
  run_buildSlice (w := w) (n := 1) (ps := [(0, v)]) (cs := v.cells.toList) ht hz hsz (by omega) (by omega) (by
    simp only [fillL, Nat.zero_mul, Nat.one_mul, Nat.zero_add, hv, Nat.beq_refl, Bool.true_and, List.length_map, List.length_range, List.take_zero, List.nil_append]
    rw [show Nat.ble sz sz = true from Nat.ble_eq_true_of_le (Nat.le_refl _)]
    simp only []
    rw [List.drop_of_length_le (by simp), List.append_nil])
theorem D_bs1 {x : Operand} {T e sz by_ : Nat} {z : List Value} {v : Value} (hx : OpV E x True v) (ht : elOf Γ.P T = some (e, sz, by_, z)) (hz : z.length = sz) (hsz : 0 < sz) (hns : sz ≤ 65536) (hv : v.cells.toList.length = sz)
    (hk : DV Γ ops Msh pool ((d, RowV v.cells.toList e) :: E) ((some d, RowV v.cells.toList e) :: rs) cs0 rest KD) :
    DV Γ ops Msh pool E rs cs0 ({ dst := some d, op := .buildSlice T 1 #[(0, x)], type := ty, pos := pos, after := af, guard := none } :: rest) KD := by
  refine DV.mk (RowV v.cells.toList e) [] pool [] (by simp) rfl ?_ (by rw [dropE_nil]; exact hk)
  intro a w F Mk _ _ hw hm hfa hcf
  have hMk : Mk = [] := hcf
  subst hMk
  rw [dropE_nil] at hfa
  simp only [List.nil_append] at hw ⊢
  rw [if_pos (by simp [Region.wanted])]
  have e1 := hx.eval hfa (by simp [Op.operands]) trivial
  have h1 : (execOp a.eval { dst := some d, op := .buildSlice T 1 #[(0, x)], type := ty, pos := pos, after := af, guard := none }).run Γ.P w = .ok (.value (.slice (some ⟨w.heap.size, 0, none⟩) 1 1)) (w.alloc (.cells v.cells.toList.toArray e (0, 0))) := by
    simp only [execOp]
    have : (#[(0, x)] : Array (Nat × Operand)).map (fun (i, x) => (i, a.eval x)) = #[(0, v)] := by simp [e1]
    rw [this]
    simp [run_bs1 ht hz hsz hns hv]
  rw [h1]
  exact ⟨[blk w.heap.size v.cells.toList e], ⟨_, rfl, rfl⟩, Holds.new (show Holds Γ.w0 Γ.S0 F w by simpa using hw) rfl⟩
section
variable {τ δ : Type} [GT τ δ]
def OwnV (r : List δ) : Rel := fun v M => ∃ X : TL τ, v = X.hdr ∧ GT.dat X = r ∧ M = [treeH X]
/-! A row whose elements are handed on -/
theorem RdC.row {X : TL τ} {j : Nat} {x : τ} (h : rowH X ∈ M) (hi : X.els[j]? = some x) : RdC Γ M X.g (X.o + j * GT.sz τ) (GT.cells x) := fun w hw k v hv => by
  obtain ⟨r1, r2, r3, r4⟩ := hw.prs _ h
  have hlt := (List.getElem?_eq_some_iff.1 hi).1
  have hk : k < GT.sz τ := by rw [← GT.len x]; exact (List.getElem?_eq_some_iff.1 hv).1
  cases ha : X.a with
  | none => have := (r3 ha).1; rw [this] at hlt; simp at hlt
  | some a =>
    obtain ⟨h1, h2, h3, h4⟩ := r4 a ha
    have hg : X.g = a.block := by unfold TL.g; rw [ha]; rfl
    have ho : X.o = 0 := by unfold TL.o; rw [ha]; exact h2
    rw [hg, ho, Nat.zero_add, cell_of_row _ _ _ _ _ _ h3]
    simp only [List.getElem?_toArray]
    have hc := rowCells_get X.els j k x hi hk
    rw [List.getElem?_append_left (by rw [hv] at hc; exact (List.getElem?_eq_some_iff.1 hc).1), hc]
    exact hv
theorem row_adr {X : TL τ} {j : Nat} {u : τ} (h : (rowH X).pr w) (hi : X.els[j]? = some u) : X.hdr = .slice (some ⟨X.g, X.o, none⟩) X.els.length X.cap := by
  obtain ⟨r1, r2, r3, r4⟩ := h
  have hlt := (List.getElem?_eq_some_iff.1 hi).1
  show Value.slice X.a X.els.length X.cap = _
  cases ha : X.a with
  | none => have := (r3 ha).1; rw [this] at hlt; simp at hlt
  | some a =>
    obtain ⟨h1, h2, h3, h4⟩ := r4 a ha
    obtain ⟨b, o, s⟩ := a
    have h1 : s = none := h1
    subst h1
    simp [TL.g, TL.o, ha]
theorem L_idxR {x y : Operand} {T e sz by_ : Nat} {z : List Value} {k : IntKind} {i : Int} {X : TL τ} {u : τ} (hn : Nat.blt d Γ.n = true) (hx : ev l x = some X.hdr) (hy : ev l y = some (.int k i))
    (ht : elOf Γ.P T = some (e, sz, by_, z)) (hm : rowH X ∈ M) (hi : 0 ≤ i ∧ X.els[i.toNat]? = some u) (hk : L Γ rest ((d, .pointer (some ⟨X.g, X.o + i.toNat * sz, none⟩)) :: l) M K) :
    L Γ ({ dst := some d, op := .indexAddr T x y, type := ty, pos := pos, after := af, guard := none } :: rest) l M K :=
  L_pure hn (fun a' w ha hw => by
    have h1 := ha.eval hx
    rw [row_adr (hw.prs _ hm) hi.2] at h1
    simp [execOp, h1, ha.eval hy, run_indexAt ht X.g X.o X.els.length X.cap k i i.toNat (by omega) (List.getElem?_eq_some_iff.1 hi.2).1 w]) hk
/-- The next element leaves the pool. -/
theorem els_next {X : TL τ} {i : Nat} {u : τ} (hi : X.els[i]? = some u) (p : Pick (elsT (X.els.drop i)) M M1) (h : Holds w0 S0 M w) : Holds w0 S0 (treeH u :: elsT (X.els.drop (i + 1)) :: M1) w := by
  have h1 := h.perm p.perm
  obtain ⟨hlt, hx⟩ := List.getElem?_eq_some_iff.1 hi
  have he : X.els.drop i = u :: X.els.drop (i + 1) := by rw [← hx, ← List.drop_eq_getElem_cons hlt]
  rw [he] at h1
  refine h1.reFp (List.Perm.of_eq ?_) fun y hy => ?_
  · simp only [fps_cons]
    show (u :: X.els.drop (i + 1)).flatMap GT.fp ++ fps M1 = GT.fp u ++ ((X.els.drop (i + 1)).flatMap GT.fp ++ fps M1)
    rw [List.flatMap_cons, List.append_assoc]
  · have h2 := h1.prs (elsT (u :: X.els.drop (i + 1))) (List.mem_cons_self ..)
    rcases List.mem_cons.1 hy with rfl | hy
    · exact h2 u (List.mem_cons_self ..)
    rcases List.mem_cons.1 hy with rfl | hy
    · exact fun x hx => h2 x (List.mem_cons_of_mem _ hx)
    · exact h1.prs _ (List.mem_cons_of_mem _ hy)
theorem els_start {X : TL τ} (p : Pick (treeH X) M M1) (h : Holds w0 S0 M w) : Holds w0 S0 (rowH X :: elsT (X.els.drop 0) :: M1) w := tree_row (h.perm p.perm)
theorem els_step {X : TL τ} {i : Int} {u : τ} (hi : 0 ≤ i ∧ X.els[i.toNat]? = some u) (hm : rowH X ∈ M) (p : Pick (elsT (X.els.drop (i.toNat + 1))) M M1) (h : Holds w0 S0 M w) :
    Holds w0 S0 (elsT (X.els.drop (IntKind.wrap .i64 (i + 1)).toNat) :: M1) w := by
  have h1 := h.perm p.perm
  have hlt := (List.getElem?_eq_some_iff.1 hi.2).1
  obtain ⟨r1, r2, _⟩ := h.prs _ hm
  simp only [maxLen] at r2
  rw [wrap64_in (by unfold inR; omega), show (i + 1).toNat = i.toNat + 1 by omega]
  exact h1
end
end Go.Proofs.SL
namespace Go.Proofs.SL
open Go
variable {Γ : Cx} {l : Envl} {M M' M1 M2 F : List HP} {Q : Post} {K : Kont} {rest : List Oper}
section
variable {τ δ : Type} [GT τ δ]
theorem L_close {X : TL τ} {i : Nat} {cs : List Value} (x' : τ) {r : List δ} (hc : cs = GT.cells x') (p : Pick (holeH X i cs) M M1) (q : Pick (treeH x') M1 M2) (hr : some ((GT.dat X).set i (GT.dat x')) = some r)
    (hk : ∀ X2 : TL τ, GT.dat X2 = r → X2.hdr = X.hdr → L Γ rest l (treeH X2 :: M2) K) : L Γ rest l M K :=
  L_conv (fun w h => hole_close hc p q h) (hk _ (by rw [dat_set]; exact Option.some.inj hr) (by show Value.slice X.a (X.els.set i x').length X.cap = Value.slice X.a X.els.length X.cap; rw [List.length_set]))
end
end Go.Proofs.SL
namespace Go.Proofs.SL
open Go
variable {Γ : Cx} {rest : List Oper} {d : Nat} {ty : TypeId} {pos : String} {af : Array Edge} {gd : Option (Nat × Bool)}
variable {ops : Array Oper} {Msh pool : List HP} {E : Fl} {rs : List (Option Nat × Rel)} {cs0 : List Nat} {KD : List (Option Nat × Rel) → List Nat → List HP → Prop}
theorem D_idxH {τ δ : Type} [GT τ δ] {x y : Operand} {T e sz by_ j : Nat} {z cs : List Value} {k : IntKind} {i : Int} {X : TL τ} {u : τ} {c : Prop} (hg : GC ops E { dst := some d, op := .indexAddr T x y, type := ty, pos := pos, after := af, guard := gd } c)
    (hx : OpV E x c X.hdr) (hy : OpV E y c (.int k i)) (ht : elOf Γ.P T = some (e, sz, by_, z)) (hm : holeH X j cs ∈ Msh) (hi : c → 0 ≤ i ∧ X.els[i.toNat]? = some u)
    (hk : DV Γ ops Msh pool ((d, FC c (.pointer (some ⟨X.g, X.o + i.toNat * sz, none⟩))) :: E) ((some d, FC c (.pointer (some ⟨X.g, X.o + i.toNat * sz, none⟩))) :: rs) cs0 rest KD) :
    DV Γ ops Msh pool E rs cs0 ({ dst := some d, op := .indexAddr T x y, type := ty, pos := pos, after := af, guard := gd } :: rest) KD :=
  DV_pure c _ hg (fun a w F hc hf hs => by
    have e1 := hx.eval hf (by simp [Op.operands]) hc
    have e2 := hy.eval hf (by simp [Op.operands]) hc
    obtain ⟨h0, h1⟩ := hi hc
    obtain ⟨r1, r2, r3, r4, r5, r6, r7, r8⟩ := hs.prs _ hm
    have ho : X.o = 0 := by unfold TL.o; rw [r5]; rfl
    have h2 : X.hdr = .slice (some ⟨X.g, X.o, none⟩) X.els.length X.cap := by show Value.slice X.a X.els.length X.cap = _; rw [ho, ← r5]
    rw [h2] at e1
    simp [execOp, e1, e2, run_indexAt ht X.g X.o X.els.length X.cap k i i.toNat (by omega) (List.getElem?_eq_some_iff.1 h1).1 w]) hk
end Go.Proofs.SL
namespace Go.Proofs.SL
open Go
variable {Γ : Cx} {rest : List Oper} {d : Nat} {ty : TypeId} {pos : String} {af : Array Edge} {gd : Option (Nat × Bool)}
variable {ops : Array Oper} {Msh pool : List HP} {E : Fl} {rs : List (Option Nat × Rel)} {cs0 : List Nat} {KD : List (Option Nat × Rel) → List Nat → List HP → Prop}
theorem D_idxR {τ δ : Type} [GT τ δ] {x y : Operand} {T e sz by_ : Nat} {z : List Value} {k : IntKind} {i : Int} {X : TL τ} {u : τ} {c : Prop} (hg : GC ops E { dst := some d, op := .indexAddr T x y, type := ty, pos := pos, after := af, guard := gd } c)
    (hx : OpV E x c X.hdr) (hy : OpV E y c (.int k i)) (ht : elOf Γ.P T = some (e, sz, by_, z)) (hm : rowH X ∈ Msh) (hi : c → 0 ≤ i ∧ X.els[i.toNat]? = some u)
    (hk : DV Γ ops Msh pool ((d, FC c (.pointer (some ⟨X.g, X.o + i.toNat * sz, none⟩))) :: E) ((some d, FC c (.pointer (some ⟨X.g, X.o + i.toNat * sz, none⟩))) :: rs) cs0 rest KD) :
    DV Γ ops Msh pool E rs cs0 ({ dst := some d, op := .indexAddr T x y, type := ty, pos := pos, after := af, guard := gd } :: rest) KD :=
  DV_pure c _ hg (fun a w F hc hf hs => by
    have e1 := hx.eval hf (by simp [Op.operands]) hc
    have e2 := hy.eval hf (by simp [Op.operands]) hc
    obtain ⟨h0, h1⟩ := hi hc
    rw [row_adr (hs.prs _ hm) h1] at e1
    simp [execOp, e1, e2, run_indexAt ht X.g X.o X.els.length X.cap k i i.toNat (by omega) (List.getElem?_eq_some_iff.1 h1).1 w]) hk
end Go.Proofs.SL
namespace Go.Proofs.SL
open Go
section
variable {α β σ τ : Type}
theorem wrap_succ {k : Nat} (h : k < 9223372036854775807) : IntKind.wrap .i64 ((k : Int) + 1) = ((k + 1 : Nat) : Int) := by rw [wrap64_in (by unfold inR; omega)]; omega
theorem gb_true [Inhabited α] {o : Option α} {k : α → Option β} : gb true o k = o.bind k := rfl
theorem gb_some [Inhabited α] {g : Bool} {a : α} {k : α → Option β} (h : g = false → k a = k default) : gb g (some a) k = k a := by
  cases g with
  | true => rfl
  | false => exact (h rfl).symm
/-- What a walk along a list does. -/
def goE (step : τ → β → τ ⊕ Option α) (fin : τ → Option α) : List β → τ → Option α
  | [], t => fin t
  | x :: xs, t => match step t x with
    | .inl t' => goE step fin xs t'
    | .inr r => r
theorem whileP_go {f : σ → Option (σ ⊕ α)} {l : List β} (mk : Nat → τ → σ) (step : τ → β → τ ⊕ Option α) (fin : τ → Option α) (I : Nat → τ → Prop)
    (hs : ∀ k t x, l[k]? = some x → I k t → (∃ t', step t x = .inl t' ∧ f (mk k t) = some (.inl (mk (k + 1) t')) ∧ I (k + 1) t') ∨ (∃ r, step t x = .inr r ∧ f (mk k t) = r.map .inr))
    (he : ∀ t, I l.length t → f (mk l.length t) = (fin t).map .inr) : ∀ (xs : List β) (k : Nat) (t : τ), l.drop k = xs → I k t → k ≤ l.length → whileP f (mk k t) = goE step fin xs t
  | [], k, t, hd, hi, hk => by
    have hlen : k = l.length := by
      have := congrArg List.length hd
      simp at this; omega
    subst hlen
    rw [whileP_eq, he t hi]
    show _ = fin t
    cases fin t <;> rfl
  | x :: xs, k, t, hd, hi, hk => by
    have hx : l[k]? = some x := by
      have := congrArg (fun q => q[0]?) hd
      simpa [List.getElem?_drop] using this
    have hlt := (List.getElem?_eq_some_iff.1 hx).1
    have hd' : l.drop (k + 1) = xs := by
      have := congrArg List.tail hd
      simpa [List.tail_drop] using this
    rw [whileP_eq]
    rcases hs k t x hx hi with ⟨t', h1, h2, h3⟩ | ⟨r, h1, h2⟩
    · rw [h2]
      show whileP f (mk (k + 1) t') = _
      rw [whileP_go mk step fin I hs he xs (k + 1) t' hd' h3 (by omega)]
      simp only [goE, h1]
    · rw [h2]
      simp only [goE, h1]
      cases r <;> rfl
theorem whileP_for {f : σ → Option (σ ⊕ α)} {l : List β} (mk : Nat → τ → σ) (step : τ → β → τ ⊕ Option α) (fin : τ → Option α) (I : Nat → τ → Prop) (t0 : τ) {s0 : σ} (h0 : mk 0 t0 = s0) (hI : I 0 t0)
    (hs : ∀ k t x, l[k]? = some x → I k t → (∃ t', step t x = .inl t' ∧ f (mk k t) = some (.inl (mk (k + 1) t')) ∧ I (k + 1) t') ∨ (∃ r, step t x = .inr r ∧ f (mk k t) = r.map .inr))
    (he : ∀ t, I l.length t → f (mk l.length t) = (fin t).map .inr) : whileP f s0 = goE step fin l t0 := by
  subst h0
  exact whileP_go mk step fin I hs he l 0 t0 rfl hI (Nat.zero_le _)
theorem goE_app (xs acc : List β) (g : List β → Option α) : goE (fun (t : List β) x => (.inl (t ++ [x]) : List β ⊕ Option α)) g xs acc = g (acc ++ xs) := by
  induction xs generalizing acc with
  | nil => simp [goE]
  | cons x xs ih => simp only [goE]; rw [ih]; simp
/-- A walk without early ends. -/
theorem goE_fold (h : τ → β → τ) (g : τ → Option α) : ∀ (xs : List β) (t : τ), goE (fun t x => (.inl (h t x) : τ ⊕ Option α)) g xs t = g (xs.foldl h t)
  | [], t => rfl
  | x :: xs, t => by simp only [goE, List.foldl_cons]; exact goE_fold h g xs (h t x)
theorem appP_ok {δ : Type} {a b : List δ} (h : a.length + b.length ≤ 4294967296) : appP a b = some (a ++ b) := if_pos h
theorem catP_ok {a b : ByteArray} (h : a.size + b.size ≤ 9223372036854775807) : catP a b = some (a ++ b) := if_pos h
theorem lt_dec {k n : Nat} (h : k < n) : decide ((k : Int) < (n : Int)) = true := decide_eq_true (by omega)
theorem ge_dec {n : Nat} : decide ((n : Int) < (n : Int)) = false := decide_eq_false (by omega)
/-- A check of all places. -/
theorem whileP_all {f : Int → Option (Int ⊕ α)} {n : Nat} (b : Nat → Bool) (no yes : Option α)
    (h : ∀ k, k < n → f (k : Int) = if b k then some (.inl ((k + 1 : Nat) : Int)) else no.map .inr) (hn : f (n : Int) = yes.map .inr) : whileP f 0 = if (List.range n).all b then yes else no := by
  have key : ∀ m k, n - k = m → k ≤ n → whileP f (k : Int) = if (List.range' k (n - k)).all b then yes else no := by
    intro m
    induction m with
    | zero =>
      intro k hm hk
      have : k = n := by omega
      subst this
      rw [whileP_eq, hn, Nat.sub_self]
      cases yes <;> rfl
    | succ m ih =>
      intro k hm hk
      rw [whileP_eq, h k (by omega), show n - k = (n - (k + 1)) + 1 by omega, List.range'_succ, List.all_cons]
      cases hb : b k with
      | true =>
        simp only [if_true, Bool.true_and]
        exact ih (k + 1) (by omega) (by omega)
      | false =>
        simp only [Bool.false_and, Bool.false_eq_true, if_false]
        cases no <;> rfl
  have := key n 0 (by omega) (by omega)
  rw [Nat.sub_zero, ← List.range_eq_range'] at this
  exact this
/-- A search for the first that passes: what the loop yields where one does, or at the end. -/
theorem whileP_find {γ : Type} {f : Int → Option (Int ⊕ γ)} {l : List β} (p : β → Bool) (q : Int → Option γ) (hl : l.length ≤ 9223372036854775807)
    (hs : ∀ (k : Nat) x, l[k]? = some x → f (k : Int) = if p x then (q k).map .inr else some (.inl (IntKind.wrap .i64 ((k : Int) + 1)))) (he : f (l.length : Int) = (q (-1)).map .inr) : whileP f 0 = q (firstI p l) := by
  have key : ∀ (xs : List β) (k : Nat), l.drop k = xs → k ≤ l.length → (∀ j x, j < k → l[j]? = some x → p x = false) → whileP f (k : Int) = q (firstI p l) := by
    intro xs
    induction xs with
    | nil =>
      intro k hd hk hf
      have hlen : k = l.length := by have := congrArg List.length hd; simp at this; omega
      subst hlen
      rw [whileP_eq, he, firstI_miss (fun x hx => by
        obtain ⟨j, hj⟩ := List.getElem?_of_mem hx
        exact hf j x (List.getElem?_eq_some_iff.1 hj).1 hj)]
      cases q (-1) <;> rfl
    | cons x xs ih =>
      intro k hd hk hf
      have hx : l[k]? = some x := by
        have := congrArg (fun q => q[0]?) hd
        simpa [List.getElem?_drop] using this
      have hlt := (List.getElem?_eq_some_iff.1 hx).1
      rw [whileP_eq, hs k x hx]
      cases hp : p x with
      | true =>
        rw [firstI_hit (fun y hy => by
          obtain ⟨j, hj⟩ := List.getElem?_of_mem hy
          have hjl := (List.getElem?_eq_some_iff.1 hj).1
          rw [List.length_take] at hjl
          rw [List.getElem?_take_of_lt (by omega)] at hj
          exact hf j y (by omega) hj) hx hp]
        simp only [if_true]
        cases q (k : Int) <;> rfl
      | false =>
        simp only [Bool.false_eq_true, if_false]
        rw [wrap_succ (by omega)]
        refine ih (k + 1) ?_ (by omega) (fun j y hj hy => ?_)
        · have := congrArg List.tail hd
          simpa [List.tail_drop] using this
        · rcases Nat.lt_or_ge j k with h1 | h1
          · exact hf j y h1 hy
          · have : j = k := by omega
            subst this
            rw [hx] at hy; cases hy; exact hp
  exact key l 0 rfl (Nat.zero_le _) (fun j x hj => absurd hj (Nat.not_lt_zero _))
theorem all_range_get {l : List β} {p : β → Bool} : (List.range l.length).all (fun k => (l[k]?).all p) = l.all p := by
  rw [Bool.eq_iff_iff, List.all_eq_true, List.all_eq_true]
  constructor
  · intro h x hx
    obtain ⟨i, hi⟩ := List.getElem?_of_mem hx
    have := h i (List.mem_range.2 (List.getElem?_eq_some_iff.1 hi).1)
    rw [hi] at this; exact this
  · intro h k hk
    have hk := List.mem_range.1 hk
    rw [List.getElem?_eq_getElem hk]
    exact h _ (List.getElem_mem hk)
end
end Go.Proofs.SL
namespace Go.Proofs.SL
open Go
variable {Γ : Cx} {l : Envl} {M M' M1 M2 F : List HP} {Q : Post} {K : Kont} {w0 w : World} {S0 : List Nat} {P : Program}
variable {rest : List Oper} {d : Nat} {ty : TypeId} {pos : String} {af : Array Edge}
variable {ops : Array Oper} {Msh pool : List HP} {E : Fl} {rs : List (Option Nat × Rel)} {cs0 : List Nat} {KD : List (Option Nat × Rel) → List Nat → List HP → Prop} {gd : Option (Nat × Bool)}
section
variable {τ δ : Type} [GT τ δ]
end
/-! Headers -/
def slA (o c lo sz : Nat) : Nat := if c = lo then o else o + lo * sz
section
variable {τ δ : Type} [GT τ δ]
theorem sl0 (c sz : Nat) : slA 0 c 0 sz = 0 := by unfold slA; split <;> simp
theorem row_drop (xs : List τ) (i : Nat) (t : List Value) (hi : i ≤ xs.length) : (rowCells xs ++ t).drop (i * GT.sz τ) = rowCells (xs.drop i) ++ t := by
  have h1 : rowCells xs = rowCells (xs.take i) ++ rowCells (xs.drop i) := by rw [← rowCells_append, List.take_append_drop]
  have h2 : (rowCells (xs.take i)).length = i * GT.sz τ := by rw [length_rowCells, List.length_take, Nat.min_eq_left hi]
  rw [h1, List.append_assoc, ← h2, List.drop_left]
end
end Go.Proofs.SL
namespace Go.Proofs.SL
open Go
theorem RdT.w0 {Γ : Cx} {τ δ : Type} [GT τ δ] {t : τ} (h : RdT Γ [] t) : GT.rd Γ.w0 [] t := h Γ.w0 ⟨fun _ _ _ => rfl, fun _ h => by cases h⟩
end Go.Proofs.SL
namespace Go.Proofs.SL
open Go
variable {Γ : Cx} {l : Envl} {M M' M1 M2 F : List HP} {Q : Post} {K : Kont} {w0 w : World} {S0 : List Nat} {P : Program}
variable {rest : List Oper} {d : Nat} {ty : TypeId} {pos : String} {af : Array Edge}
/-- What can be read by a callee that is given M1, while M2 stays behind. -/
def RdX {τ δ : Type} [GT τ δ] (Γ : Cx) (M1 M2 : List HP) (t : τ) : Prop := ∀ w, Holds Γ.w0 Γ.S0 (M1 ++ M2) w → GT.rd w (fps M1) t
section
variable {τ δ : Type} [GT τ δ] {t : τ}
theorem RdX.old (h : GT.rd Γ.w0 Γ.S0 t) : RdX Γ M1 M2 t := fun _ hw => GT.rd_mono h fun _ _ ho => ho.carry hw
theorem RdX.tree (h : treeH t ∈ M2) : RdX Γ M1 M2 t := fun w hw => by
  have ho : GT.ow w t := hw.prs (treeH t) (List.mem_append_right _ h)
  refine GT.ow_rd ho fun k hk hk1 => ?_
  have hnd := hw.nodup
  rw [fps_append] at hnd
  exact (List.nodup_append.1 hnd).2.2 k hk1 k (List.mem_flatMap.2 ⟨_, h, hk⟩) rfl
theorem RdX.fst {α β δ ε : Type} [GT α δ] [GT β ε] {t : α × β} (h : RdX Γ M1 M2 t) : RdX Γ M1 M2 t.1 := fun w hw => (h w hw).1
theorem RdX.snd {α β δ ε : Type} [GT α δ] [GT β ε] {t : α × β} (h : RdX Γ M1 M2 t) : RdX Γ M1 M2 t.2 := fun w hw => (h w hw).2
theorem RdX.of {X : TL τ} {j : Nat} {x : τ} (h : RdX Γ M1 M2 X) (hi : X.els[j]? = some x) : RdX Γ M1 M2 x := fun w hw => (h w hw).2.2.1 x (List.mem_of_getElem? hi)
theorem RdX.pair {α β δ ε : Type} [GT α δ] [GT β ε] {a : α} {b : β} (h1 : RdX Γ M1 M2 a) (h2 : RdX Γ M1 M2 b) : RdX Γ M1 M2 (a, b) := fun w hw => ⟨h1 w hw, h2 w hw⟩
theorem RdX.int {n : Int} : RdX Γ M1 M2 n := fun _ _ => trivial
theorem RdX.bool {n : Bool} : RdX Γ M1 M2 n := fun _ _ => trivial
theorem RdX.str {n : ByteArray} : RdX Γ M1 M2 n := fun _ _ => trivial
theorem RdX.u8 {n : UInt8} : RdX Γ M1 M2 n := fun _ _ => trivial
theorem nil_rd {w : World} {S : List Nat} (e : TypeId) : GT.rd w S (TL.nil τ e) := ⟨Nat.le_refl _, by simp [TL.nil, maxLen], fun x hx => by simp [TL.nil] at hx, fun _ => rfl, fun a ha => by simp [TL.nil] at ha⟩
theorem RdX.nil (e : TypeId) : RdX Γ M1 M2 (TL.nil τ e) := fun _ _ => nil_rd e
theorem RdX.map {α δ' : Type} [GT α δ'] {a : α} (f : ∀ w S, GT.rd w S a → GT.rd w S t) (h : RdX Γ M1 M2 a) : RdX Γ M1 M2 t := fun w hw => f w _ (h w hw)
theorem RdT.map {α δ' : Type} [GT α δ'] {a : α} (f : ∀ w S, GT.rd w S a → GT.rd w S t) (h : RdT Γ M a) : RdT Γ M t := fun w hw => f w _ (h w hw)
end
/-- The same, of one world. -/
def RdO {τ δ : Type} [GT τ δ] (w : World) (S : List Nat) (t : τ) : Prop := GT.rd w S t
section
variable {τ δ : Type} [GT τ δ] {t : τ} {S : List Nat}
theorem RdO.old (h : GT.rd w S t) : RdO w S t := h
theorem RdO.fst {α β δ ε : Type} [GT α δ] [GT β ε] {t : α × β} (h : RdO w S t) : RdO w S t.1 := h.1
theorem RdO.snd {α β δ ε : Type} [GT α δ] [GT β ε] {t : α × β} (h : RdO w S t) : RdO w S t.2 := h.2
theorem RdO.of {X : TL τ} {j : Nat} {x : τ} (h : RdO w S X) (hi : X.els[j]? = some x) : RdO w S x := h.2.2.1 x (List.mem_of_getElem? hi)
theorem RdO.pair {α β δ ε : Type} [GT α δ] [GT β ε] {a : α} {b : β} (h1 : RdO w S a) (h2 : RdO w S b) : RdO w S (a, b) := ⟨h1, h2⟩
theorem RdO.int {n : Int} : RdO w S n := trivial
theorem RdO.bool {n : Bool} : RdO w S n := trivial
theorem RdO.str {n : ByteArray} : RdO w S n := trivial
theorem RdO.u8 {n : UInt8} : RdO w S n := trivial
theorem RdO.nil (e : TypeId) : RdO w S (TL.nil τ e) := nil_rd e
theorem RdO.map {α δ' : Type} [GT α δ'] {a : α} (f : ∀ w S, GT.rd w S a → GT.rd w S t) (h : RdO w S a) : RdO w S t := f w _ h
end
/-- A call that is given some parts. -/
theorem L_callM {f : Nat} {xs : List Operand} {ats : Array TypeId} {vs : List Value} {R : Value → List HP → Prop} (M1 M2 : List HP)
    (hn : Nat.blt d Γ.n = true) (hf : IsFn Γ.P f) (hx : evs l xs = some vs) (hp : List.Perm M (M1 ++ M2)) (hc : ∀ w, Holds Γ.w0 Γ.S0 (M1 ++ M2) w → Spec Γ.P f vs.toArray w M1 R)
    (hk : ∀ v M', R v M' → L Γ rest ((d, v) :: l) (M' ++ M2) K) : L Γ ({ dst := some d, op := .call { callee := .value (.func f), args := xs.toArray, argTypes := ats }, type := ty, pos := pos, after := af, guard := none } :: rest) l M K :=
  L_call (M1 := M1) (M2 := M2) (R := R) rfl rfl rfl (Nat.le_of_ble_eq_true hn) hf hx hp hc hk
end Go.Proofs.SL
namespace Go.Proofs.SL
open Go
variable {Γ : Cx} {l : Envl} {M M' M1 M2 F : List HP} {Q : Post} {K : Kont} {w0 w : World} {S0 : List Nat} {P : Program}
variable {rest : List Oper} {d : Nat} {ty : TypeId} {pos : String} {af : Array Edge}
section
variable {τ δ : Type} [GT τ δ]
theorem L_slM {x : Operand} {lo hi : Option Operand} {T e sz by_ : Nat} {z : List Value} {X : TL τ} {a b : Int} {r : List δ} (hn : Nat.blt d Γ.n = true) (hx : ev l x = some X.hdr) (hlo : optI l lo 0 = some a) (hhi : optI l hi ((GT.dat X).length : Int) = some b)
    (ht : elOf Γ.P T = some (e, sz, by_, z)) (hsz : GT.sz τ = sz) (hm : rowH X ∈ M) (hr : slcP (GT.dat X) a b = some r)
    (hk : ∀ X' : TL τ, GT.dat X' = r → X' = slc X a.toNat b.toNat → L Γ rest ((d, X'.hdr) :: l) M K) :
    L Γ ({ dst := some d, op := .slice T x lo hi none, type := ty, pos := pos, after := af, guard := none } :: rest) l M K := by
  unfold slcP at hr
  split at hr
  · rename_i hb
    cases hr
    rw [dat_els, List.length_map] at hb hhi
    obtain ⟨h0, h1, h2⟩ := hb
    have h1' : a.toNat ≤ b.toNat := by omega
    have h2' : b.toNat ≤ X.els.length := by omega
    refine L_pure hn (v := (slc X a.toNat b.toNat).hdr) (fun a' w ha hw => ?_) (hk (slc X a.toNat b.toNat) (by rw [dat_els, dat_els]; simp [slc, List.map_take, List.map_drop]) rfl)
    have hcap : X.els.length ≤ X.cap := (hw.prs _ hm).1
    unfold elOf at ht
    split at ht <;> (try cases ht)
    rename_i e' het
    split at ht <;> (try cases ht)
    rename_i i' hi'
    split at ht <;> cases ht
    have hlen : ((X.els.drop a.toNat).take (b.toNat - a.toNat)).length = b.toNat - a.toNat := by simp; omega
    have hv : (slc X a.toNat b.toNat).hdr = .slice (if X.cap = a.toNat then X.a else X.a.map (·.add (a.toNat * i'.size))) (b.toNat - a.toNat) (X.cap - a.toNat) := by
      show Value.slice _ ((X.els.drop a.toNat).take (b.toNat - a.toNat)).length _ = _
      rw [hlen]; simp only [slc, hsz]
    rw [hv]
    have e1 : a'.eval x = .slice X.a X.els.length X.cap := ha.eval hx
    cases lo with
    | none =>
      cases hlo
      cases hi with
      | none =>
        cases hhi
        simp only [execOp, Option.map_none, e1, Instr.sliceAt, Instr.slice, underlying, Sem.run_bind, run_program, Result.andThen_ok, het, Instr.sliceBounds, Sem.run_pure, sizeOf, typeInfo, hi']
        simp
      | some o =>
        obtain ⟨k, h5⟩ := optI_some hhi
        have e2 := ha.eval h5
        have e4 := fun w => run_sliceBound (P := Γ.P) (k := k) (code := .sliceAcap) (show 0 ≤ b by omega) (show b ≤ ((X.cap : Nat) : Int) by omega) w
        simp [execOp, e1, e2, Instr.sliceAt, Instr.slice, underlying, het, Instr.sliceBounds, sizeOf, typeInfo, hi', e4]
    | some o1 =>
      obtain ⟨k1, h6⟩ := optI_some hlo
      have e3 := ha.eval h6
      cases hi with
      | none =>
        cases hhi
        have e4 := fun w => run_sliceBound (P := Γ.P) (k := k1) (code := .sliceB) h0 (show a ≤ ((X.els.length : Nat) : Int) by omega) w
        simp [execOp, e1, e3, Instr.sliceAt, Instr.slice, underlying, het, Instr.sliceBounds, sizeOf, typeInfo, hi', e4]
      | some o =>
        obtain ⟨k, h5⟩ := optI_some hhi
        have e2 := ha.eval h5
        have e4 := fun w => run_sliceBound (P := Γ.P) (k := k) (code := .sliceAcap) (show 0 ≤ b by omega) (show b ≤ ((X.cap : Nat) : Int) by omega) w
        have e5 := fun w => run_sliceBound (P := Γ.P) (k := k1) (code := .sliceB) h0 (show a ≤ ((b.toNat : Nat) : Int) by omega) w
        simp [execOp, e1, e2, e3, Instr.sliceAt, Instr.slice, underlying, het, Instr.sliceBounds, sizeOf, typeInfo, hi', e4, e5]
  · cases hr
def chkP (b : Bool) : Option Unit := if b then some () else none
theorem chkP_some {b : Bool} {u : Unit} (h : chkP b = some u) : b = true := by
  unfold chkP at h; split at h
  · assumption
  · cases h
theorem slcP_some {α : Type} {l r : List α} {a b : Int} (h : slcP l a b = some r) : 0 ≤ a ∧ a ≤ b ∧ b ≤ l.length ∧ r = (l.drop a.toNat).take (b.toNat - a.toNat) := by
  unfold slcP at h; split at h
  · rename_i hb; cases h; exact ⟨hb.1, hb.2.1, hb.2.2, rfl⟩
  · cases h
theorem els_split2 {xs ys zs us : List τ} (hp : List.Perm xs (us ++ (ys ++ zs))) (h : Holds w0 S0 (elsT xs :: M) w) : Holds w0 S0 (elsT ys :: elsT zs :: M) w := by
  have h2 : Holds w0 S0 (elsT ys :: elsT zs :: elsT us :: M) w := by
    refine h.reFp ?_ fun x hx => ?_
    · simp only [fps_cons]
      show List.Perm (xs.flatMap GT.fp ++ fps M) (ys.flatMap GT.fp ++ (zs.flatMap GT.fp ++ (us.flatMap GT.fp ++ fps M)))
      rw [← List.append_assoc, ← List.append_assoc, ← List.flatMap_append, ← List.flatMap_append]
      exact ((hp.trans List.perm_append_comm).flatMap_right _).append_right _
    · have h3 := h.prs (elsT xs) (List.mem_cons_self ..)
      rcases List.mem_cons.1 hx with rfl | hx
      · exact fun y hy => h3 y (hp.mem_iff.2 (List.mem_append_right _ (List.mem_append_left _ hy)))
      rcases List.mem_cons.1 hx with rfl | hx
      · exact fun y hy => h3 y (hp.mem_iff.2 (List.mem_append_right _ (List.mem_append_right _ hy)))
      rcases List.mem_cons.1 hx with rfl | hx
      · exact fun y hy => h3 y (hp.mem_iff.2 (List.mem_append_left _ hy))
      · exact h.prs _ (List.mem_cons_of_mem _ hx)
  exact h2.sub ⟨[elsT us], by
    refine ((List.perm_append_comm (l₁ := [elsT us]) (l₂ := M)).cons _).cons _⟩
theorem drop_cut (xs : List τ) {k a b : Nat} (h1 : k ≤ a) (h2 : a ≤ b) : xs.drop k = (xs.drop k).take (a - k) ++ ((xs.drop a).take (b - a) ++ xs.drop b) := by
  have e1 : xs.drop a = (xs.drop k).drop (a - k) := by rw [List.drop_drop]; congr 1; omega
  have e2 : xs.drop b = (xs.drop a).drop (b - a) := by rw [List.drop_drop]; congr 1; omega
  rw [e2, List.take_append_drop, e1, List.take_append_drop]
theorem L_appM {s x : Operand} {T e sz by_ k : Nat} {z : List Value} {X V Y : TL τ} {a b : Int} {r r' : List δ} {u : Unit} (hn : Nat.blt d Γ.n = true)
    (hs : ev l s = some X.hdr) (hx : ev l x = some Y.hdr) (ht : elOf Γ.P T = some (e, sz, by_, z)) (hsz : GT.sz τ = sz) (hz : z.length = sz)
    (hp : Pick (treeH X) M M1) (he : Y = slc V a.toNat b.toNat) (hsl : slcP (GT.dat V) a b = some r') (hm : rowH V ∈ M1) (hq : Pick (elsT (V.els.drop k)) M1 M2)
    (hka : chkP (decide (k ≤ a.toNat)) = some u) (hr : appP (GT.dat X) (GT.dat Y) = some r) (hb : by_ ≤ 32768)
    (hk : ∀ X' : TL τ, GT.dat X' = r → L Γ rest ((d, X'.hdr) :: l) (treeH X' :: elsT (V.els.drop b.toNat) :: M2) K) :
    L Γ ({ dst := some d, op := .call { callee := .builtin .append, args := #[s, x], argTypes := #[T, T] }, type := ty, pos, after := af, guard := none } :: rest) l M K := by
  have hka := of_decide_eq_true (chkP_some hka)
  obtain ⟨h1, rfl⟩ := appP_some hr
  obtain ⟨s0, s1, s2, -⟩ := slcP_some hsl
  rw [dat_els, List.length_map] at s2
  have hab : a.toNat ≤ b.toNat := by omega
  have hbl : b.toNat ≤ V.els.length := by omega
  have hye : Y.els = (V.els.drop a.toNat).take (b.toNat - a.toNat) := by rw [he]; rfl
  have hcut := drop_cut V.els hka hab
  rw [← hye] at hcut
  simp only [dat_els, List.length_map] at h1
  cases hya : Y.a with
  | some ad =>
    refine L_appA (ys := Y.els) (M2 := elsT (V.els.drop b.toNat) :: M2) hn hs (by rw [hx]; show some (Value.slice Y.a _ _) = _; rw [hya]) ht hsz hz hp rfl (fun w hw j v hv => ?_) (fun w R h => ?_) h1 hb
      (fun X' h => hk X' (by rw [dat_els, h, List.map_append]; rfl))
    · have hmm : rowH V ∈ M := by
        have := hp.perm.mem_iff (a := rowH V)
        exact this.2 (List.mem_cons_of_mem _ hm)
      obtain ⟨r1, r2, r3, r4⟩ := hw.prs _ hmm
      have hlt : a.toNat < V.els.length := by
        rcases Nat.lt_or_ge a.toNat V.els.length with h | h
        · exact h
        · rw [hye, List.drop_of_length_le h] at hv; simp [rowCells] at hv
      cases hva : V.a with
      | none => have := (r3 hva).1; rw [this] at hlt; simp at hlt
      | some va =>
        obtain ⟨g1, g2, g3, g4⟩ := r4 va hva
        have had : ad = va.add (a.toNat * GT.sz τ) := by
          have : Y.a = some (va.add (a.toNat * GT.sz τ)) := by
            rw [he]; unfold slc
            have hne : ¬ V.cap = a.toNat := by omega
            simp only [if_neg hne, hva]; rfl
          rw [hya] at this; exact Option.some.inj this
        obtain ⟨vb, vo, vs⟩ := va
        have g1 : vs = none := g1
        have g2 : vo = 0 := g2
        subst g1; subst g2
        rw [had]
        have e3 : (Addr.add (Addr.add ⟨vb, 0, none⟩ (a.toNat * GT.sz τ)) j) = ⟨vb, a.toNat * GT.sz τ + j, none⟩ := by rw [addr_add, addr_add, Nat.zero_add]
        rw [e3, cell_of_row _ _ _ _ _ _ g3]
        simp only [List.getElem?_toArray]
        have e4 : (rowCells V.els ++ V.tail)[a.toNat * GT.sz τ + j]? = ((rowCells V.els ++ V.tail).drop (a.toNat * GT.sz τ))[j]? := by rw [List.getElem?_drop]
        rw [e4, row_drop _ _ _ (by omega)]
        have e5 : V.els.drop a.toNat = Y.els ++ V.els.drop b.toNat := by
          have := drop_cut V.els (Nat.le_refl a.toNat) hab
          rw [← hye] at this; simpa using this
        rw [e5, rowCells_append, List.append_assoc, List.getElem?_append_left (List.getElem?_eq_some_iff.1 hv).1]
        exact hv
    · have h2 := h.perm (List.Perm.append_right R hq.perm)
      exact els_split2 (List.Perm.of_eq hcut) h2
  | none =>
    intro ops a' w Q ha hw
    have hm' : rowH V ∈ treeH X :: M1 := List.mem_cons_of_mem _ hm
    have hw1 := hw.perm hp.perm
    obtain ⟨r1, r2, r3, r4⟩ := hw1.prs _ hm'
    have hye0 : Y.els = [] := by
      rcases Nat.lt_or_ge a.toNat V.cap with h | h
      · have hne : ¬ V.cap = a.toNat := by omega
        have : Y.a = V.a.map (·.add (a.toNat * GT.sz τ)) := by rw [he]; unfold slc; simp only [if_neg hne]
        rw [hya] at this
        cases hva : V.a with
        | none => rw [hye, (r3 hva).1]; simp
        | some va => rw [hva] at this; cases this
      · rw [hye, List.drop_of_length_le (by omega)]; simp
    have hk' := hk X (by rw [dat_els Y, hye0]; simp)
    have hr : GT.ow w X := hw1.prs _ (List.mem_cons_self ..)
    refine L_step rfl rfl (Nat.le_of_ble_eq_true hn) (fun a' w ha hw => ⟨w, ?_, ?_⟩) hk' ops a' w Q ha hw
    · have hr : GT.ow w X := (hw.perm hp.perm).prs _ (List.mem_cons_self ..)
      have h3 := append_none (P := Γ.P) (w := w) (a := X.a) (n := X.els.length) (c := X.cap) (c2 := Y.cap) ht hr.1 ty
      have h5 : (Builtin.append_ #[T, T] ty #[X.hdr, .slice none 0 Y.cap]).run Γ.P w = .ok X.hdr w := h3
      have h6 := ha.eval hx
      have h7 : Y.hdr = .slice none 0 Y.cap := by show Value.slice Y.a _ _ = _; rw [hya, hye0]; rfl
      rw [h7] at h6
      generalize X.hdr = uu at *
      simp [execOp, resolve, invoke, builtin, ha.eval hs, h6, h5]
    · have h2 := (hw.perm hp.perm).perm (hq.perm.cons _)
      have h4 := h2.perm (List.Perm.swap _ _ _)
      have h5 := els_split2 (List.Perm.of_eq hcut) h4
      have h6 : Holds Γ.w0 Γ.S0 (elsT Y.els :: treeH X :: elsT (V.els.drop b.toNat) :: M2) w := h5.perm (((List.Perm.swap _ _ _)).cons _)
      exact h6.sub ⟨[elsT Y.els], (List.perm_append_comm (l₁ := [elsT Y.els]) (l₂ := treeH X :: elsT (V.els.drop b.toNat) :: M2))⟩
end
end Go.Proofs.SL
namespace Go.Proofs.SL
open Go
variable {Γ : Cx} {l : Envl} {M M' M1 M2 F : List HP} {Q : Post} {K : Kont} {w0 w : World} {S0 : List Nat}
variable {rest : List Oper} {d : Nat} {ty : TypeId} {pos : String} {af : Array Edge}
variable {ops : Array Oper} {Msh pool pool' : List HP} {E : Fl} {rs : List (Option Nat × Rel)} {cs0 : List Nat} {KD : List (Option Nat × Rel) → List Nat → List HP → Prop}
section
variable {τ δ : Type} [GT τ δ]
theorem D_appT [FlatT τ] {s x : Operand} {T e sz by_ : Nat} {z : List Value} {X Y : TL τ} {r : List δ}
    (hs : OpV E s True X.hdr) (hx : OpV E x True Y.hdr) (ht : elOf Γ.P T = some (e, sz, by_, z)) (hsz : GT.sz τ = sz) (hz : z.length = sz)
    (hp : Pick (treeH X) pool pool') (hsrc : RdT Γ Msh Y) (hr : appP (GT.dat X) (GT.dat Y) = some r) (hb : by_ ≤ 32768)
    (hk : DV Γ ops Msh pool' ((d, OwnV (τ := τ) r) :: E) ((some d, OwnV (τ := τ) r) :: rs) cs0 rest KD) :
    DV Γ ops Msh pool E rs cs0 ({ dst := some d, op := .call { callee := .builtin .append, args := #[s, x], argTypes := #[T, T] }, type := ty, pos := pos, after := af, guard := none } :: rest) KD := by
  refine DV.mk (OwnV (τ := τ) r) ([treeH X]) pool' [] hp.perm rfl ?_ (by rw [dropE_nil]; exact hk)
  intro a w F Mk _ _ hw hm hfa hcf
  have hMk : Mk = [] := hcf
  subst hMk
  rw [dropE_nil] at hfa
  rw [if_pos (by simp [Region.wanted])]
  have e1 := hs.eval hfa (by simp [Op.operands, Call.operands]) trivial
  have e2 := hx.eval hfa (by simp [Op.operands, Call.operands]) trivial
  have hw1 : Holds Γ.w0 Γ.S0 (treeH X :: F) w := by simpa using hw
  obtain ⟨hl, rfl⟩ := appP_some hr
  simp only [dat_els, List.length_map] at hl
  have hrd : GT.rd w (fps Msh ++ Γ.S0) Y → True := fun _ => trivial
  have hY := hsrc w (hw1.seesSub fun h hh => List.mem_cons_of_mem _ (hm h hh))
  cases hya : Y.a with
  | some ad =>
    have hsp : Y.els ≠ [] → ad.spot = none := fun hne => (hY.2.2.2.2 ad hya).1 hne
    have hsrc2 : ∀ j v, (rowCells Y.els)[j]? = some v → w.cell? (ad.add j) = some v := fun j v hv => by
      have hne : Y.els ≠ [] := fun e => by rw [e] at hv; simp [rowCells] at hv
      obtain ⟨b, o, sp⟩ := ad
      have h3 : sp = none := hsp hne
      subst h3
      rw [addr_add]; exact ((hY.2.2.2.2 _ hya).2 j v hv).1
    obtain ⟨a', c', e', tl, w', h1, h2⟩ := append_rowE (P := Γ.P) (c := Y.cap) ht hsz hz (tree_row hw1) hsrc2 hl hb ty
    have h1' : (Builtin.append_ #[T, T] ty #[X.hdr, Y.hdr]).run Γ.P w = .ok (TL.hdr (⟨a', c', e', X.els ++ Y.els, tl⟩ : TL τ)) w' := by
      have : Y.hdr = .slice (some ad) Y.els.length Y.cap := by show Value.slice Y.a _ _ = _; rw [hya]
      rw [this]; exact h1
    have h3 : (execOp a.eval { dst := some d, op := .call { callee := .builtin .append, args := #[s, x], argTypes := #[T, T] }, type := ty, pos := pos, after := af, guard := none }).run Γ.P w = .ok (.value (TL.hdr (⟨a', c', e', X.els ++ Y.els, tl⟩ : TL τ))) w' := by
      generalize TL.hdr (⟨a', c', e', X.els ++ Y.els, tl⟩ : TL τ) = vv at *
      generalize X.hdr = uu at *
      generalize Y.hdr = yy at *
      simp [execOp, resolve, invoke, builtin, e1, e2, h1']
    rw [h3]
    refine ⟨[treeH (⟨a', c', e', X.els ++ Y.els, tl⟩ : TL τ)], ⟨_, rfl, ?_, rfl⟩, ?_⟩
    · rw [dat_els, List.map_append, dat_els, dat_els]
    · refine row_tree ?_
      have h4 : Holds Γ.w0 Γ.S0 (elsT X.els :: elsT Y.els :: rowH (⟨a', c', e', X.els ++ Y.els, tl⟩ : TL τ) :: F) w' := by
        have h5 := elsT_flat (xs := Y.els) h2 (fun x _ => FlatT.flat x)
        exact h5.perm (((List.Perm.swap _ _ _).trans ((List.Perm.swap _ _ _).cons _)).trans (List.Perm.swap _ _ _ |>.trans ((List.Perm.refl _)))) |>.perm (by
          first
          | exact List.Perm.refl _
          | exact (List.Perm.swap _ _ _)
          | exact ((List.Perm.swap _ _ _).cons _)
          | exact (List.Perm.swap _ _ _).trans ((List.Perm.swap _ _ _).cons _)
          | exact ((List.Perm.swap _ _ _).cons _).trans (List.Perm.swap _ _ _))
      exact (elsT_app h4).perm (List.Perm.swap _ _ _)
  | none =>
    have hye : Y.els = [] := hY.2.2.2.1 hya
    have hr0 : GT.ow w X := hw1.prs _ (List.mem_cons_self ..)
    have h5 : (Builtin.append_ #[T, T] ty #[X.hdr, Y.hdr]).run Γ.P w = .ok X.hdr w := by
      have : Y.hdr = .slice none 0 Y.cap := by show Value.slice Y.a _ _ = _; rw [hya, hye]; rfl
      rw [this]; exact append_none (P := Γ.P) (w := w) (a := X.a) (n := X.els.length) (c := X.cap) (c2 := Y.cap) ht hr0.1 ty
    have h3 : (execOp a.eval { dst := some d, op := .call { callee := .builtin .append, args := #[s, x], argTypes := #[T, T] }, type := ty, pos := pos, after := af, guard := none }).run Γ.P w = .ok (.value X.hdr) w := by
      generalize X.hdr = uu at *
      generalize Y.hdr = yy at *
      simp [execOp, resolve, invoke, builtin, e1, e2, h5]
    rw [h3]
    exact ⟨[treeH X], ⟨X, rfl, by rw [dat_els Y, hye]; simp, rfl⟩, hw1⟩
/-- A value that is built over a slice of one's own. -/
def AggO (f : Value → Value) (r : List δ) : Rel := fun v M => ∃ X : TL τ, v = f X.hdr ∧ GT.dat X = r ∧ M = [treeH X]
def RowO (f : Value → Value) (e : TypeId) (r : List δ) : Rel := fun v M => ∃ (X : TL τ) (b : Nat), v = .slice (some ⟨b, 0, none⟩) 1 1 ∧ GT.dat X = r ∧ M = [blk b (f X.hdr).cells.toList e, treeH X]
def OpVp (E : Fl) : List (Nat × Operand) → List (Nat × Value) → Prop
  | [], [] => True
  | x :: xs, v :: vs => (x.1 = v.1 ∧ OpV E x.2 True v.2) ∧ OpVp E xs vs
  | _, _ => False
theorem OpVp.nil : OpVp E [] [] := trivial
theorem OpVp.cons {i : Nat} {x : Operand} {v : Value} {xs : List (Nat × Operand)} {vs : List (Nat × Value)} (h : OpV E x True v) (hs : OpVp E xs vs) : OpVp E ((i, x) :: xs) ((i, v) :: vs) := ⟨⟨rfl, h⟩, hs⟩
theorem OpVp.evals {a : Act} {F : List HP} {o : Oper} (hf : Facts E (o.looksAt ops) F a) : ∀ (xs : List (Nat × Operand)) (vs : List (Nat × Value)), OpVp E xs vs → (∀ x, x ∈ xs → x.2 ∈ o.op.operands.toList) → xs.map (fun p => (p.1, a.eval p.2)) = vs
  | [], [], _, _ => rfl
  | x :: xs, v :: vs, h, hm => by
    rw [List.map_cons, h.1.2.eval hf (hm x (by simp)) trivial, OpVp.evals hf xs vs h.2 (fun y hy => hm y (List.mem_cons_of_mem _ hy)), h.1.1]
  | [], _ :: _, h, _ => h.elim
  | _ :: _, [], h, _ => h.elim
theorem D_build {T : TypeId} {xs : List (Nat × Operand)} {ps : List (Nat × Value)} {pl : List (Nat × Nat)} {z cs : List Value} (hx : OpVp E xs ps) (ht : bldOf Γ.P T = some (pl, z)) (hf : fillL (pl[·]?) z ps = some cs)
    (hk : DV Γ ops Msh pool ((d, FC True (.agg cs.toArray)) :: E) ((some d, FC True (.agg cs.toArray)) :: rs) cs0 rest KD) :
    DV Γ ops Msh pool E rs cs0 ({ dst := some d, op := .build T xs.toArray, type := ty, pos := pos, after := af, guard := none } :: rest) KD :=
  DV_pure True _ GC.none (fun a w F _ hfa _ => by
    have h1 : xs.toArray.map (fun (i, x) => (i, a.eval x)) = ps.toArray := by
      have := OpVp.evals (o := { dst := some d, op := .build T xs.toArray, type := ty, pos := pos, after := af, guard := none }) hfa xs ps hx (fun x hx => by simp [Op.operands]; exact ⟨_, hx⟩)
      rw [← this]; simp
    simp only [execOp, h1]
    simp [run_build ht hf]) hk
theorem D_buildO {T : TypeId} {t : Nat} {xs : List (Nat × Operand)} {ps : Value → List (Nat × Value)} {pl : List (Nat × Nat)} {z : List Value} {cs : Value → List Value} {r : List δ}
    (hR : E.lookup t = some (OwnV (τ := τ) r)) (hx : ∀ u, OpVp ((t, FC True u) :: dropE [t] E) xs (ps u)) (ht : bldOf Γ.P T = some (pl, z)) (hf : ∀ X : TL τ, fillL (pl[·]?) z (ps X.hdr) = some (cs X.hdr))
    (hlin : linB ops { dst := some d, op := .build T xs.toArray, type := ty, pos := pos, after := af, guard := none } [t] = true)
    (hk : DV Γ ops Msh pool ((d, AggO (τ := τ) (fun u => .agg (cs u).toArray) r) :: dropE [t] E) ((some d, AggO (τ := τ) (fun u => .agg (cs u).toArray) r) :: rs) ([t] ++ cs0) rest KD) :
    DV Γ ops Msh pool E rs cs0 ({ dst := some d, op := .build T xs.toArray, type := ty, pos := pos, after := af, guard := none } :: rest) KD := by
  refine DV.mk (AggO (τ := τ) (fun u => .agg (cs u).toArray) r) [] pool ([t]) (by simp) hlin ?_ hk
  intro a w F Mk _ _ hw hm hfa hcf
  obtain ⟨Mx, Mk', rfl, hRR, hnil⟩ := hcf
  have hnil : Mk' = [] := hnil
  subst hnil
  obtain ⟨X, hv, hd, rfl⟩ := hRR _ hR
  rw [if_pos (by simp [Region.wanted])]
  have hf2 : Facts ((t, FC True X.hdr) :: dropE [t] E) (Oper.looksAt ops { dst := some d, op := .build T xs.toArray, type := ty, pos := pos, after := af, guard := none }) F a := by
    intro t' R' h1 h2
    rw [List.lookup_cons] at h2
    cases hb : t' == t with
    | true =>
      rw [hb] at h2
      cases h2
      have : t' = t := by simpa using hb
      subst this
      exact ⟨[], ⟨rfl, fun _ => hv, fun hn => (hn trivial).elim⟩, fun _ h => by cases h⟩
    | false => rw [hb] at h2; exact hfa t' R' h1 h2
  have h1 : xs.toArray.map (fun (i, x) => (i, a.eval x)) = (ps X.hdr).toArray := by
    have := OpVp.evals (o := { dst := some d, op := .build T xs.toArray, type := ty, pos := pos, after := af, guard := none }) hf2 xs (ps X.hdr) (hx X.hdr) (fun x hx => by simp [Op.operands]; exact ⟨_, hx⟩)
    rw [← this]; simp
  have h3 : (execOp a.eval { dst := some d, op := .build T xs.toArray, type := ty, pos := pos, after := af, guard := none }).run Γ.P w = .ok (.value (.agg (cs X.hdr).toArray)) w := by
    simp only [execOp, h1]
    simp [run_build ht (hf X)]
  rw [h3]
  exact ⟨[treeH X], ⟨X, rfl, hd, rfl⟩, by simpa using hw⟩
theorem D_bs1O {t T e sz by_ : Nat} {z : List Value} {f : Value → Value} {r : List δ} (hR : E.lookup t = some (AggO (τ := τ) f r)) (ht : elOf Γ.P T = some (e, sz, by_, z)) (hz : z.length = sz) (hsz : 0 < sz) (hns : sz ≤ 65536)
    (hv : ∀ X : TL τ, (f X.hdr).cells.toList.length = sz)
    (hlin : linB ops { dst := some d, op := .buildSlice T 1 #[(0, .tmp t)], type := ty, pos := pos, after := af, guard := none } [t] = true)
    (hk : DV Γ ops Msh pool ((d, RowO (τ := τ) f e r) :: dropE [t] E) ((some d, RowO (τ := τ) f e r) :: rs) ([t] ++ cs0) rest KD) :
    DV Γ ops Msh pool E rs cs0 ({ dst := some d, op := .buildSlice T 1 #[(0, .tmp t)], type := ty, pos := pos, after := af, guard := none } :: rest) KD := by
  refine DV.mk (RowO (τ := τ) f e r) [] pool ([t]) (by simp) hlin ?_ hk
  intro a w F Mk _ _ hw hm hfa hcf
  obtain ⟨Mx, Mk', rfl, hRR, hnil⟩ := hcf
  have hnil : Mk' = [] := hnil
  subst hnil
  obtain ⟨X, hx, hd, rfl⟩ := hRR _ hR
  rw [if_pos (by simp [Region.wanted])]
  have e1 : a.eval (.tmp t) = f X.hdr := hx
  have h1 : (execOp a.eval { dst := some d, op := .buildSlice T 1 #[(0, .tmp t)], type := ty, pos := pos, after := af, guard := none }).run Γ.P w = .ok (.value (.slice (some ⟨w.heap.size, 0, none⟩) 1 1)) (w.alloc (.cells (f X.hdr).cells.toList.toArray e (0, 0))) := by
    simp only [execOp]
    have : (#[(0, Operand.tmp t)] : Array (Nat × Operand)).map (fun (i, x) => (i, a.eval x)) = #[(0, f X.hdr)] := by simp [e1]
    rw [this]
    simp [run_bs1 ht hz hsz hns (hv X)]
  rw [h1]
  exact ⟨[blk w.heap.size (f X.hdr).cells.toList e, treeH X], ⟨X, _, rfl, hd, rfl⟩, Holds.new (show Holds Γ.w0 Γ.S0 (treeH X :: F) w by simpa using hw) rfl⟩
end
end Go.Proofs.SL
namespace Go.Proofs.SL
open Go
variable {M M1 : List HP} {w0 w : World} {S0 : List Nat}
def condH : Bool → HP → HP
  | true, _ => ⟨[], fun _ => True, fun _ _ _ h => h⟩
  | false, h => h
theorem condH_true {h : HP} (hh : Holds w0 S0 M w) : Holds w0 S0 (condH true h :: M) w := by
  refine hh.reFp (List.Perm.of_eq rfl) fun x hx => ?_
  rcases List.mem_cons.1 hx with rfl | hx
  · trivial
  · exact hh.prs _ hx
theorem cond_in {h : HP} {b : Bool} (p : Pick h M M1) (hh : Holds w0 S0 M w) : Holds w0 S0 (condH b h :: M1) w := by
  cases b with
  | false => exact hh.perm p.perm
  | true => exact condH_true ((hh.perm p.perm).sub ⟨[h], List.perm_append_comm (l₁ := [h])⟩)
theorem cond_out {h : HP} {b : Bool} (p : Pick (condH b h) M M1) (hb : b = false) (hh : Holds w0 S0 M w) : Holds w0 S0 (h :: M1) w := by
  subst hb; exact hh.perm p.perm
theorem bf1 {b : Bool} (h : (!b) = true) : b = false := by simpa using h
theorem bf2 {b c : Bool} (h : (!b && c) = true) : b = false := by cases b <;> simp_all
end Go.Proofs.SL
namespace Go.Proofs.SL
open Go
theorem els_skip {M M1 : List HP} {w0 w : World} {S0 : List Nat} {τ δ : Type} [GT τ δ] {X : TL τ} {i : Int} {u : τ} (hi : 0 ≤ i ∧ X.els[i.toNat]? = some u) (hm : rowH X ∈ M) (p : Pick (elsT (X.els.drop i.toNat)) M M1) (h : Holds w0 S0 M w) :
    Holds w0 S0 (elsT (X.els.drop (IntKind.wrap .i64 (i + 1)).toNat) :: M1) w := by
  have h1 := els_next hi.2 p h
  have h2 : Holds w0 S0 (elsT (X.els.drop (i.toNat + 1)) :: M1) w := h1.sub ⟨[treeH u], List.perm_append_comm (l₁ := [treeH u])⟩
  have hlt := (List.getElem?_eq_some_iff.1 hi.2).1
  obtain ⟨r1, r2, _⟩ := h.prs _ hm
  simp only [maxLen] at r2
  rw [wrap64_in (by unfold inR; omega), show (i + 1).toNat = i.toNat + 1 by omega]
  exact h2
end Go.Proofs.SL
namespace Go.Proofs.SL
open Go
variable {Γ : Cx} {l : Envl} {M M' M1 M2 F : List HP} {Q : Post} {K : Kont} {w0 w : World} {S0 : List Nat} {P : Program}
variable {rest : List Oper} {d : Nat} {ty : TypeId} {pos : String} {af : Array Edge}
section
variable {τ δ : Type} [GT τ δ]
end
end Go.Proofs.SL
namespace Go.Proofs.SL
open Go
variable {Γ : Cx} {ops : Array Oper} {Msh pool pool' : List HP} {E : Fl} {rs : List (Option Nat × Rel)} {rest : List Oper} {KD : RKont} {cs0 : List Nat}
variable {d : Nat} {ty : TypeId} {pos : String} {af : Array Edge}
theorem D_callM {f : Nat} {xs : List Operand} {ats : Array TypeId} {vs : List Value} (R : Rel) (M1 : List HP) (hp : List.Perm pool (M1 ++ pool'))
    (hf : IsFn Γ.P f) (hx : OpVs E True xs vs) (hc : ∀ w F, Holds Γ.w0 Γ.S0 (M1 ++ F) w → (∀ h, h ∈ Msh → h ∈ F) → Spec Γ.P f vs.toArray w M1 R)
    (hk : DV Γ ops Msh pool' ((d, R) :: E) ((some d, R) :: rs) cs0 rest KD) :
    DV Γ ops Msh pool E rs cs0 ({ dst := some d, op := .call { callee := .value (.func f), args := xs.toArray, argTypes := ats }, type := ty, pos := pos, after := af, guard := none } :: rest) KD := by
  refine DV.mk R M1 pool' [] hp rfl ?_ (by rw [dropE_nil]; exact hk)
  intro a w F Mk _ _ hw hm hfa hcf
  have hMk : Mk = [] := hcf
  subst hMk
  rw [dropE_nil] at hfa
  simp only [List.nil_append] at hw ⊢
  rw [if_pos (by simp [Region.wanted])]
  have h2 : (#[] ++ xs.toArray.map a.eval ++ #[] : Array Value) = vs.toArray := by
    simp [OpVs.evals (o := { dst := some d, op := .call { callee := .value (.func f), args := xs.toArray, argTypes := ats }, type := ty, pos := pos, after := af, guard := none }) trivial hfa xs vs hx (fun x hx => by simp [Op.operands, Call.operands, hx])]
  rw [execOp_call_go, h2, hf.run]
  exact (hc w F hw hm (Holds.split hw)).mono fun e w'' ⟨v, M', h1, h3, h4⟩ => ⟨v, M', h1, h3, Holds.frame hw h4⟩
variable {gd : Option (Nat × Bool)}
end Go.Proofs.SL
namespace Go.Proofs.SL
open Go
section
variable {τ δ κ : Type} [GT τ δ]
theorem rowCells_key {key : τ → κ} {enc : κ → Value} (hc : ∀ x, GT.cells x = [enc (key x)]) (xs : List τ) : rowCells xs = xs.map fun x => enc (key x) := by
  induction xs with
  | nil => rfl
  | cons x xs ih => rw [rowCells_cons, hc, ih]; rfl
variable [Inhabited κ]
theorem put_cells (enc : κ → Value) (ds : List κ) (a b : List Value) (h : a.length = ds.length) : Sort.putCells enc 0 ds.toArray (a ++ b).toArray = (ds.map enc ++ b).toArray := by
  apply Array.ext_getElem?
  intro j
  simp only [Sort.putCells, Array.getElem?_mapIdx, List.getElem?_toArray, List.size_toArray, Nat.zero_add, Nat.zero_le, true_and, Nat.sub_zero]
  rcases Nat.lt_or_ge j ds.length with hj | hj
  · rw [List.getElem?_append_left (by omega), List.getElem?_append_left (by simpa using hj), List.getElem?_eq_getElem (show j < a.length by omega)]
    simp [hj, List.getElem?_map]
  · rw [List.getElem?_append_right (by omega), List.getElem?_append_right (by simpa using hj), List.length_map, h]
    cases b[j - ds.length]? with
    | none => rfl
    | some v => simp [Nat.not_lt.2 hj]
theorem put_holds {w w' : World} {key : τ → κ} {enc : κ → Value} (hc : ∀ x : τ, GT.cells x = [enc (key x)]) (hfp : ∀ x : τ, GT.fp x = []) (how : ∀ (w : World) (x : τ), GT.ow w x) {b cap n : Nat} {e : TypeId} {els ys : List τ} {tail tail' : List Value} {D : List κ} {os : Array Obj}
    (hh : Holds w (fps [treeH (⟨some ⟨b, 0, none⟩, cap, e, els, tail⟩ : TL τ)]) [treeH (⟨some ⟨b, 0, none⟩, cap, e, els, tail⟩ : TL τ)] w) (hD : D.length = els.length) (hrow : D.map enc ++ tail = rowCells ys ++ tail') (hy : ys.length ≤ cap) (hl : ys.length * GT.sz τ + tail'.length = cap * GT.sz τ)
    (hw : w' = Sort.grow (Sort.putRow enc (Sort.ahead w n) b 0 D.toArray) os) :
    Holds w (fps [treeH (⟨some ⟨b, 0, none⟩, cap, e, els, tail⟩ : TL τ)]) [treeH (⟨some ⟨b, 0, none⟩, cap, e, ys, tail'⟩ : TL τ)] w' := by
  have ht : GT.ow w (⟨some ⟨b, 0, none⟩, cap, e, els, tail⟩ : TL τ) := hh.prs _ (List.mem_cons_self ..)
  obtain ⟨h1, h2, h3, h4, h5⟩ := ht
  dsimp only at h1 h2 h3 h4
  obtain ⟨_, _, hb, _⟩ := h5 _ rfl
  dsimp only at hb
  have hbl : b < w.heap.size := (Array.getElem?_eq_some_iff.1 hb).1
  have hw' : w'.heap[b]? = some (.cells (rowCells ys ++ tail').toArray e (0, 0)) := by
    subst hw
    rw [Sort.heap_grow_old _ _ (by simpa [Sort.putRow, Sort.mapBlock, Sort.ahead] using hbl), ← hrow]
    have hp := put_cells enc D (rowCells els) tail (by rw [rowCells_key hc]; simp [hD])
    simp only [Sort.putRow, Sort.mapBlock, Sort.ahead, Array.getElem?_modify, hb, Sort.onCells, if_true, Option.map_some]
    rw [hp]
  have hfps : ∀ xs : List τ, xs.flatMap GT.fp = [] := fun xs => List.flatMap_eq_nil_iff.2 fun x _ => hfp x
  have efp : fps [treeH (⟨some ⟨b, 0, none⟩, cap, e, ys, tail'⟩ : TL τ)] = fps [treeH (⟨some ⟨b, 0, none⟩, cap, e, els, tail⟩ : TL τ)] := by
    simp only [fps_cons]
    show ([b] ++ ys.flatMap GT.fp) ++ fps [] = ([b] ++ els.flatMap GT.fp) ++ fps []
    rw [hfps, hfps]
  refine ⟨by subst hw; rfl, by subst hw; rfl, by subst hw; rfl, by subst hw; simp [Sort.putRow, Sort.mapBlock, Sort.ahead], fun k hk hn => ?_, fun x hx => ?_, by rw [efp]; exact hh.nodup, fun k hk => ?_⟩
  · have hkb : b ≠ k := by
      intro e2; subst e2
      exact hn (by simp only [fps_cons]; show b ∈ ([b] ++ els.flatMap GT.fp) ++ fps []; simp)
    subst hw
    rw [Sort.heap_grow_old _ _ (by simpa [Sort.putRow, Sort.mapBlock, Sort.ahead] using hk)]
    simp [Sort.putRow, Sort.mapBlock, Sort.ahead, Array.getElem?_modify, hkb]
  · obtain rfl := List.mem_singleton.1 hx
    exact ⟨hy, h2, fun x _ => how _ x, fun h => (by cases h), fun a ha => by cases ha; exact ⟨rfl, rfl, hw', hl⟩⟩
  · rw [efp] at hk
    refine ⟨(hh.rng k hk).1, Nat.lt_of_lt_of_le (hh.rng k hk).2 ?_⟩
    subst hw; simp [Sort.putRow, Sort.mapBlock, Sort.ahead]
/-- A slice that one owns is nil, or a row from its block's beginning. -/
theorem own_cases {w : World} {a0 : TL τ} (hh : Holds w (fps [treeH a0]) [treeH a0] w) : (∃ e tail, a0 = ⟨none, 0, e, [], tail⟩) ∨ ∃ b cap e els tail, a0 = ⟨some ⟨b, 0, none⟩, cap, e, els, tail⟩ ∧ els.length ≤ cap ∧ els.length * GT.sz τ + tail.length = cap * GT.sz τ ∧ w.heap[b]? = some (.cells (rowCells els ++ tail).toArray e (0, 0)) ∧ b < w.heap.size := by
  have ht : GT.ow w a0 := hh.prs _ (List.mem_cons_self ..)
  obtain ⟨h1, h2, h3, h4, h5⟩ := ht
  obtain ⟨a, cap, e, els, tail⟩ := a0
  dsimp only at h1 h2 h3 h4 h5
  cases a with
  | none =>
    obtain ⟨rfl, rfl⟩ := h4 rfl
    exact .inl ⟨e, tail, rfl⟩
  | some ad =>
    obtain ⟨hs, ho, hb, hl⟩ := h5 ad rfl
    obtain ⟨b, o, sp⟩ := ad
    dsimp only at hs ho hb
    subst hs; subst ho
    exact .inr ⟨b, cap, e, els, tail, rfl, h1, hl, hb, (Array.getElem?_eq_some_iff.1 hb).1⟩
theorem sort_holds {w : World} {key : τ → κ} {enc : κ → Value} (hc : ∀ x : τ, GT.cells x = [enc (key x)]) {b : Nat} {e : TypeId} {els : List τ} {tail : List Value} (hb : w.heap[b]? = some (.cells (rowCells els ++ tail).toArray e (0, 0))) : Sort.Holds enc w b 0 (els.map key).toArray := by
  intro j hj
  have hj' : j < els.length := by simpa using hj
  refine ⟨?_, by simp [World.frozen?, hb]⟩
  simp only [World.cell?, hb, Nat.zero_add]
  simp only [Option.isSome_none, Bool.false_eq_true, if_false]
  rw [List.getElem?_toArray, List.getElem?_append_left (by rw [rowCells_key hc]; simpa using hj'), rowCells_key hc]
  simp [hj']
theorem Spec.sort {P : Program} {f : FuncId} {w : World} {a0 : TL τ} {key : τ → κ} {enc : κ → Value} (hc : ∀ x : τ, GT.cells x = [enc (key x)]) (hfp : ∀ x : τ, GT.fp x = []) (how : ∀ (w : World) (x : τ), GT.ow w x) (ys : List τ) (hlen : ys.length = a0.els.length)
    (h : ∀ (b cap : Nat) (w : World), Sort.Holds enc w b 0 (a0.els.map key).toArray → b < w.heap.size → (a0.els.map key).length < 4611686018427387904 → Calls P f #[.slice (some ⟨b, 0, none⟩) (a0.els.map key).length cap] w fun e w' => e = .returned (.tuple #[]) ∧ ∃ n os, w' = Sort.grow (Sort.putRow enc (Sort.ahead w n) b 0 (ys.map key).toArray) os)
    (h0 : ∀ (p : Option Addr) (cap : Nat) (w : World), Calls P f #[.slice p 0 cap] w fun e w' => e = .returned (.tuple #[]) ∧ w' = w) (hsz : a0.els.length ≤ 4294967296) :
    Spec P f #[a0.hdr] w [treeH a0] (fun v M => ∃ y0 : TL τ, v = .tuple #[] ∧ GT.dat y0 = ys.map GT.dat ∧ M = [treeH y0] ∧ y0.hdr = a0.hdr) := by
  intro hh
  rcases own_cases hh with ⟨e, tail, rfl⟩ | ⟨b, cap, e, els, tail, rfl, h1, hl, hb, hbl⟩
  · have hy : ys = [] := List.length_eq_zero_iff.1 hlen
    subst hy
    refine (h0 none 0 w).mono fun e' w' ⟨he, hw⟩ => ?_
    subst hw
    exact ⟨_, _, he, ⟨⟨none, 0, e, [], tail⟩, rfl, rfl, rfl, rfl⟩, hh⟩
  · dsimp only at hlen h hsz
    have hlm : (els.map key).length = els.length := List.length_map ..
    have := h b cap w (sort_holds hc hb) hbl (by omega)
    rw [hlm] at this
    refine this.mono fun e' w' ⟨he, n, os, hw⟩ => ⟨_, _, he, ⟨⟨some ⟨b, 0, none⟩, cap, e, ys, tail⟩, rfl, rfl, rfl, ?_⟩, put_holds hc hfp how hh (by rw [List.length_map, hlen]) (by rw [rowCells_key hc, List.map_map]; rfl) (by rw [hlen]; exact h1) (by rw [hlen]; exact hl) hw⟩
    show Value.slice _ ys.length _ = Value.slice _ els.length _
    rw [hlen]
end
/-- The sort of numbers, on data. -/
def sortIP (l : List Int) : Option (List Int) := if l.length ≤ 4294967296 then some (l.mergeSort fun x y => decide (x ≤ y)) else none
/-- The sort of strings, on data. -/
def sortSP (l : List ByteArray) : Option (List ByteArray) := if l.length ≤ 4294967296 then some (((l.map fun s => s.data.toList).mergeSort fun x y => decide (x ≤ y)).map fun l => ⟨l.toArray⟩) else none
theorem map_id' {α : Type} (l : List α) : l.map (fun x => x) = l := by simp
theorem Spec.sortI {P : Program} {f : FuncId} (w : World) (a0 : TL Int) (r : List Int) (hp : sortIP (GT.dat a0) = some r)
    (h : ∀ (b off cap : Nat) (zs : List Int) (w : World), Sort.Holds (Value.int .i64) w b off zs.toArray → b < w.heap.size → zs.length < 4611686018427387904 → Calls P f #[.slice (some ⟨b, off, none⟩) zs.length cap] w fun e w' => e = .returned (.tuple #[]) ∧ ∃ n os, w' = Sort.grow (Sort.putRow (Value.int .i64) (Sort.ahead w n) b off (zs.mergeSort fun x y => decide (x ≤ y)).toArray) os)
    (h0 : ∀ (p : Option Addr) (cap : Nat) (w : World), Calls P f #[.slice p 0 cap] w fun e w' => e = .returned (.tuple #[]) ∧ w' = w) :
    Spec P f #[a0.hdr] w [treeH a0] (fun v M => ∃ y0 : TL Int, v = .tuple #[] ∧ GT.dat y0 = r ∧ M = [treeH y0] ∧ y0.hdr = a0.hdr) := by
  unfold sortIP at hp
  have hd : GT.dat a0 = a0.els := by show a0.els.map (fun x => x) = _; simp
  rw [hd] at hp
  split at hp
  · rename_i hl
    obtain rfl := Option.some.inj hp
    have := Spec.sort (P := P) (f := f) (w := w) (a0 := a0) (key := fun x : Int => x) (enc := Value.int .i64) (fun _ => rfl) (fun _ => rfl) (fun _ _ => trivial) (a0.els.mergeSort fun x y => decide (x ≤ y)) (by simp) (by
      intro b cap w h1 h2 h3
      rw [map_id'] at h1 h3 ⊢
      rw [map_id']
      exact h b 0 cap a0.els w h1 h2 h3) h0 hl
    refine this.mono fun v M ⟨y0, h1, h2, h3⟩ => ⟨y0, h1, ?_, h3⟩
    rw [h2]
    exact map_id' _
  · cases hp
theorem cells_str' (x : ByteArray) : GT.cells x = [encStr x.data.toList] := by
  show [Value.string x] = [Value.string ⟨x.data.toList.toArray⟩]
  rw [show (⟨x.data.toList.toArray⟩ : ByteArray) = x by cases x; simp]
theorem Spec.sortS {P : Program} {f : FuncId} (w : World) (a0 : TL ByteArray) (r : List ByteArray) (hp : sortSP (GT.dat a0) = some r)
    (h : ∀ (b off cap : Nat) (ss : List (List UInt8)) (w : World), Sort.Holds encStr w b off ss.toArray → b < w.heap.size → ss.length < 4611686018427387904 → Calls P f #[.slice (some ⟨b, off, none⟩) ss.length cap] w fun e w' => e = .returned (.tuple #[]) ∧ ∃ n os, w' = Sort.grow (Sort.putRow encStr (Sort.ahead w n) b off (ss.mergeSort fun x y => decide (x ≤ y)).toArray) os)
    (h0 : ∀ (p : Option Addr) (cap : Nat) (w : World), Calls P f #[.slice p 0 cap] w fun e w' => e = .returned (.tuple #[]) ∧ w' = w) :
    Spec P f #[a0.hdr] w [treeH a0] (fun v M => ∃ y0 : TL ByteArray, v = .tuple #[] ∧ GT.dat y0 = r ∧ M = [treeH y0] ∧ y0.hdr = a0.hdr) := by
  unfold sortSP at hp
  have hd : GT.dat a0 = a0.els := by show a0.els.map (fun x => x) = _; simp
  rw [hd] at hp
  split at hp
  · rename_i hl
    obtain rfl := Option.some.inj hp
    have hs : ∀ (b cap : Nat) (w : World), Sort.Holds encStr w b 0 (a0.els.map fun s => s.data.toList).toArray → b < w.heap.size → (a0.els.map fun s => s.data.toList).length < 4611686018427387904 → Calls P f #[.slice (some ⟨b, 0, none⟩) (a0.els.map fun s => s.data.toList).length cap] w fun e w' => e = .returned (.tuple #[]) ∧ ∃ n os, w' = Sort.grow (Sort.putRow encStr (Sort.ahead w n) b 0 ((a0.els.map fun s => s.data.toList).mergeSort fun x y => decide (x ≤ y)).toArray) os := fun b cap w => h b 0 cap _ w
    have hlm : ((a0.els.map fun s => s.data.toList).mergeSort fun x y => decide (x ≤ y)).length = a0.els.length := by rw [List.length_mergeSort, List.length_map]
    generalize ((a0.els.map fun s => s.data.toList).mergeSort fun x y => decide (x ≤ y)) = ys at hs hlm ⊢
    have := Spec.sort (P := P) (f := f) (w := w) (a0 := a0) (key := fun x : ByteArray => x.data.toList) (enc := encStr) cells_str' (fun _ => rfl) (fun _ _ => trivial) (ys.map fun l => (⟨l.toArray⟩ : ByteArray)) (by rw [List.length_map, hlm]) (by
      rw [List.map_map, show ((fun x : ByteArray => x.data.toList) ∘ fun l : List UInt8 => (⟨l.toArray⟩ : ByteArray)) = id from funext fun l => rfl, List.map_id]
      exact hs) h0 hl
    refine this.mono fun v M ⟨y0, h1, h2, h3⟩ => ⟨y0, h1, ?_, h3⟩
    rw [h2]
    exact map_id' _
  · cases hp
theorem compact_le {α : Type} [Inhabited α] [DecidableEq α] (zs : List α) : (Lib.compact zs).length ≤ zs.length := by
  unfold Lib.compact Lib.compactUpTo
  rw [List.length_map]
  exact Nat.le_trans (List.length_filter_le _ _) (by simp)
/-- Compact at strings, on data. -/
def compactSP (l : List ByteArray) : Option (List ByteArray) := if l.length ≤ 4294967296 then some ((Lib.compact (l.map fun s => s.data.toList)).map fun l => ⟨l.toArray⟩) else none
theorem Spec.compactS {P : Program} {f : FuncId} (w : World) (a0 : TL ByteArray) (r : List ByteArray) (hp : compactSP (GT.dat a0) = some r)
    (h : ∀ (b off cap : Nat) (zs : List (List UInt8)) (w : World), Sort.Holds encStr w b off zs.toArray → zs.length ≤ 9223372036854775807 → zs.length ≤ cap → Calls P f #[.slice (some ⟨b, off, none⟩) zs.length cap] w fun e w' => e = .returned (.slice (some ⟨b, off, none⟩) (Lib.compact zs).length cap) ∧ ∃ q, w' = Sort.putRow encStr (Sort.ahead w q) b off (Lib.compact zs ++ List.replicate (zs.length - (Lib.compact zs).length) []).toArray)
    (h0 : ∀ (p : Option Addr) (cap : Nat) (w : World), Calls P f #[.slice p 0 cap] w fun e w' => e = .returned (.slice p 0 cap) ∧ w' = w) :
    Spec P f #[a0.hdr] w [treeH a0] (fun v M => ∃ x0 : TL ByteArray, v = x0.hdr ∧ GT.dat x0 = r ∧ M = [treeH x0]) := by
  intro hh
  unfold compactSP at hp
  have hd : GT.dat a0 = a0.els := map_id' _
  rw [hd] at hp
  split at hp
  rotate_left
  · cases hp
  rename_i hlen
  obtain rfl := Option.some.inj hp
  rcases own_cases hh with ⟨e, tail, rfl⟩ | ⟨b, cap, e, els, tail, rfl, h1, hl, hb, hbl⟩
  · refine (h0 none 0 w).mono fun e' w' ⟨he, hw⟩ => ?_
    subst hw
    exact ⟨_, _, he, ⟨⟨none, 0, e, [], tail⟩, rfl, rfl, rfl⟩, hh⟩
  · dsimp only at hlen
    have hc : ∀ x : ByteArray, GT.cells x = [encStr x.data.toList] := cells_str'
    have hlm : (els.map fun s => s.data.toList).length = els.length := List.length_map ..
    have hcl := compact_le (els.map fun s => s.data.toList)
    have := h b 0 cap (els.map fun s => s.data.toList) w (sort_holds hc hb) (by omega) (by omega)
    rw [hlm] at this hcl
    refine this.mono fun e' w' ⟨he, q, hw⟩ => ⟨_, _, he, ⟨⟨some ⟨b, 0, none⟩, cap, e, (Lib.compact (els.map fun s => s.data.toList)).map fun l => (⟨l.toArray⟩ : ByteArray), List.replicate (els.length - (Lib.compact (els.map fun s => s.data.toList)).length) (Value.string ByteArray.empty) ++ tail⟩, ?_, map_id' _, rfl⟩,
      put_holds (n := q) (os := #[]) (D := Lib.compact (els.map fun s => s.data.toList) ++ List.replicate (els.length - (Lib.compact (els.map fun s => s.data.toList)).length) []) hc (fun _ => rfl) (fun _ _ => trivial) hh ?_ ?_ ?_ ?_ (by rw [Sort.grow_empty]; exact hw)⟩
    · show Value.slice _ _ _ = Value.slice _ (List.length (List.map _ _)) _
      rw [List.length_map]
    · simp; omega
    · rw [rowCells_key hc, List.map_append, List.map_replicate, List.map_map, List.append_assoc]; rfl
    · simp; omega
    · simp only [List.length_map, List.length_append, List.length_replicate]
      have : GT.sz ByteArray = 1 := rfl
      rw [this] at hl ⊢
      omega
end Go.Proofs.SL
namespace Go.Proofs.SL
open Go
def eqShape (P : Program) (T : TypeId) : Option (List (TypeId × Nat)) := match P.underlying T with
  | some (.struct fs) => if P.stoodInHeld T || P.eqGuardType P.depth T then none else some ((fs.toList.filter fun f => decide (f.name ≠ "_")).map fun f => (f.type, f.offset))
  | _ => none
inductive EqS (P : Program) (d : Nat) (xs ys : Array Value) : List (TypeId × Nat) → Bool → Prop
  | nil : EqS P d xs ys [] true
  | cons {t : TypeId} {o : Nat} {a b : Value} {r r' : Bool} {fs : List (TypeId × Nat)} (ht : oneOf P t = true) (ha : xs[o]? = some a) (hb : ys[o]? = some b) (he : ∀ w, (Op.equalIn d t a b).run P w = .ok r w) (hs : EqS P d xs ys fs r') : EqS P d xs ys ((t, o) :: fs) (r && r')
theorem run_part_one {P : Program} {T : TypeId} (h : oneOf P T = true) {xs : Array Value} {o : Nat} {v : Value} (hx : xs[o]? = some v) (w : World) : (part T xs o).run P w = .ok v w := by
  simp [part, run_isAgg_one h, hx]
theorem run_eqS {P : Program} {d : Nat} {xs ys : Array Value} : ∀ {fs : List Field} {r : Bool}, EqS P d xs ys ((fs.filter fun f => decide (f.name ≠ "_")).map fun f => (f.type, f.offset)) r → ∀ w, (Op.eqFields d xs ys fs).run P w = .ok r w
  | [], r, h, w => by cases h; simp [Op.eqFields]
  | f :: fs, r, h, w => by
    unfold Op.eqFields
    by_cases hn : f.name ≠ "_"
    · rw [List.filter_cons, if_pos (by simp [hn])] at h
      rw [if_pos hn]
      cases h with
      | cons ht ha hb he hs =>
        rename_i a b r r'
        simp only [Sem.run_bind, run_part_one ht ha, run_part_one ht hb, Result.andThen_ok, he]
        cases r
        · simp
        · simp only [Bool.not_true, Bool.false_eq_true, if_false, Bool.true_and]
          exact run_eqS hs w
    · rw [List.filter_cons, if_neg (by simpa using hn)] at h
      rw [if_neg hn]
      exact run_eqS h w
theorem eqShape_some {P : Program} {T : TypeId} {sh : List (TypeId × Nat)} (h : eqShape P T = some sh) : P.underlying T = some (.struct (P.fieldsOf T)) ∧ P.stoodInHeld T = false ∧ P.eqGuardType P.depth T = false ∧ sh = ((P.fieldsOf T).toList.filter fun f => decide (f.name ≠ "_")).map fun f => (f.type, f.offset) := by
  unfold eqShape at h
  split at h
  · rename_i fs hu
    have hf : P.fieldsOf T = fs := by unfold Program.fieldsOf; rw [hu]
    split at h
    · cases h
    · rename_i hn
      simp only [Bool.or_eq_true, not_or, Bool.not_eq_true] at hn
      exact ⟨by rw [hf]; exact hu, hn.1, hn.2, by rw [hf]; exact (Option.some.inj h).symm⟩
  · cases h
theorem bv_aneq {P : Program} {T : TypeId} {x y : Operand} {xs ys : Array Value} {sh : List (TypeId × Nat)} {r : Bool} (h : eqShape P T = some sh) (he : EqS P 9999 xs ys sh r) : BinV P .neq T x y (.agg xs) (.agg ys) (.bool (!r)) := fun w => by
  obtain ⟨h1, h2, h3, rfl⟩ := eqShape_some h
  simp only [Sem.run_bind, run_eqGuard_agg w _ _ _ _ _ _ h3, Result.andThen_ok, run_neq_struct]
  rw [show (10000 : Nat) = 9999 + 1 from rfl, run_equalIn_struct w 9999 T xs ys h1 h2, run_eqS he w]; rfl
theorem EqS.consI {P : Program} {d : Nat} {xs ys : Array Value} {t : TypeId} {o : Nat} {k : IntKind} {a b : Int} {r' : Bool} {fs : List (TypeId × Nat)} {k' : IntKind} (ht : oneOf P t = true) (hu : P.underlying t = some (.int k')) (ha : xs[o]? = some (.int k a)) (hb : ys[o]? = some (.int k b)) (hs : EqS P (d + 1) xs ys fs r') : EqS P (d + 1) xs ys ((t, o) :: fs) (decide (a = b) && r') :=
  EqS.cons ht ha hb (fun w => run_equalIn_int w d t k k' a b hu) hs
theorem EqS.consS {P : Program} {d : Nat} {xs ys : Array Value} {t : TypeId} {o : Nat} {a b : ByteArray} {r' : Bool} {fs : List (TypeId × Nat)} (ht : oneOf P t = true) (hu : P.underlying t = some .string) (ha : xs[o]? = some (.string a)) (hb : ys[o]? = some (.string b)) (hs : EqS P (d + 1) xs ys fs r') : EqS P (d + 1) xs ys ((t, o) :: fs) (decide (a = b) && r') :=
  EqS.cons ht ha hb (fun w => by rw [run_equalIn_string w d t a b hu, str_eq]) hs
end Go.Proofs.SL
namespace Go.Proofs.SL
open Go
section
variable {Γ : Cx} {l : Envl} {M : List HP} {K : Kont} {w0 w : World} {S0 : List Nat}
variable {rest : List Oper} {d : Nat} {ty : TypeId} {pos : String} {af : Array Edge}
end
section
variable {Γ : Cx} {rest : List Oper} {d : Nat} {ty : TypeId} {pos : String} {af : Array Edge}
variable {ops : Array Oper} {Msh pool : List HP} {E : Fl} {rs : List (Option Nat × Rel)} {cs0 : List Nat} {KD : List (Option Nat × Rel) → List Nat → List HP → Prop}
/-- A pointer to a new block. -/
def PtrNew (z : List Value) (T : TypeId) : Rel := fun v M => ∃ b, v = .pointer (some ⟨b, 0, none⟩) ∧ M = [blk b z T]
theorem D_alloc {T : TypeId} {z : List Value} (hz : zeroOf Γ.P T = some z)
    (hk : DV Γ ops Msh pool ((d, PtrNew z T) :: E) ((some d, PtrNew z T) :: rs) cs0 rest KD) :
    DV Γ ops Msh pool E rs cs0 ({ dst := some d, op := .alloc T, type := ty, pos := pos, after := af, guard := none } :: rest) KD := by
  refine DV.mk (PtrNew z T) [] pool [] (by simp) rfl ?_ (by rw [dropE_nil]; exact hk)
  intro a w F Mk _ _ hw hm hfa hcf
  have hMk : Mk = [] := hcf
  subst hMk
  rw [dropE_nil] at hfa
  simp only [List.nil_append] at hw ⊢
  rw [if_pos (by simp [Region.wanted])]
  have h1 : (execOp a.eval { dst := some d, op := .alloc T, type := ty, pos := pos, after := af, guard := none }).run Γ.P w = .ok (.value (.pointer (some ⟨w.heap.size, 0, none⟩))) (w.alloc (.cells z.toArray T (0, 0))) := by
    unfold zeroOf at hz
    split at hz <;> (try cases hz)
    rename_i i hi
    split at hz <;> cases hz
    rename_i z' hz'
    simp [execOp, Instr.alloc, zeroValue, typeInfo, hi, hz', newVar, newRow]
  rw [h1]
  exact ⟨[blk w.heap.size z T], ⟨_, rfl, rfl⟩, Holds.new (show Holds Γ.w0 Γ.S0 F w by simpa using hw) rfl⟩
end
end Go.Proofs.SL
namespace Go.Proofs.SL
open Go
instance : Mk Bool := ⟨fun _ => 1, fun k _ => decide (((k : Int)).tmod 3 = 0)⟩
instance : Bm Bool := ⟨1, fun x => by show 1 ≤ 1 * (1 + 0); omega⟩
end Go.Proofs.SL
namespace Go.Proofs.SL
open Go
variable {Γ : Cx} {l : Envl} {M M1 : List HP} {K : Kont} {w0 w : World} {S0 : List Nat}
variable {rest : List Oper} {d : Nat} {ty : TypeId} {pos : String} {af : Array Edge}
section
variable {τ δ : Type} [GT τ δ]
theorem blk_own [FlatT τ] {b cap : Nat} {e : TypeId} {ts : List τ} {tail : List Value} (h1 : ts.length ≤ cap) (h2 : cap ≤ maxLen) (h3 : ts.length * GT.sz τ + tail.length = cap * GT.sz τ)
    (h : Holds w0 S0 (blk b (rowCells ts ++ tail) e :: M) w) : Holds w0 S0 (treeH (⟨some ⟨b, 0, none⟩, cap, e, ts, tail⟩ : TL τ) :: M) w := by
  have hb : w.heap[b]? = some (.cells (rowCells ts ++ tail).toArray e (0, 0)) := h.prs _ (List.mem_cons_self ..)
  have ef : fps (treeH (⟨some ⟨b, 0, none⟩, cap, e, ts, tail⟩ : TL τ) :: M) = fps (blk b (rowCells ts ++ tail) e :: M) := by
    simp only [fps_cons]
    show ([b] ++ ts.flatMap GT.fp) ++ fps M = [b] ++ fps M
    rw [fps_flat ts fun x _ => FlatT.flat x, List.append_nil]
  refine ⟨h.os, h.tape, h.output, h.size, h.old, fun x hx => ?_, by rw [ef]; exact h.nodup, fun k hk => h.rng k (by rw [← ef]; exact hk)⟩
  rcases List.mem_cons.1 hx with rfl | hx
  · exact ⟨h1, h2, fun x _ => (FlatT.flat x).ow w, fun hn => (by cases hn), fun a ha => by cases ha; exact ⟨rfl, rfl, hb, h3⟩⟩
  · exact h.prs x (List.mem_cons_of_mem _ hx)
/-- A slice of several parts of one kind. -/
theorem L_bsN [FlatT τ] (ts : List τ) {T e sz by_ n : Nat} {z : List Value} {xs : List (Nat × Operand)} {ps : List (Nat × Value)} {r : List δ} (hn : Nat.blt d Γ.n = true) (hx : evp l xs = some ps) (ht : elOf Γ.P T = some (e, sz, by_, z)) (hz : z.length = sz)
    (hsz : GT.sz τ = sz) (h0 : Nat.blt 0 sz = true) (hns : Nat.ble (n * sz) 65536 = true) (hn0 : Nat.blt 0 n = true) (hlen : ts.length = n) (hf : fillL (fun i => some (i * sz, sz)) ((List.range (n * sz)).map fun i => z.getD (i % sz) undef) ps = some (rowCells ts))
    (hr : some (ts.map GT.dat) = some r) (hk : ∀ X : TL τ, GT.dat X = r → L Γ rest ((d, X.hdr) :: l) (treeH X :: M) K) :
    L Γ ({ dst := some d, op := .buildSlice T n xs.toArray, type := ty, pos, after := af, guard := none } :: rest) l M K := by
  have h0' : 0 < sz := Nat.le_of_ble_eq_true h0
  have hns' : n * sz ≤ 65536 := Nat.le_of_ble_eq_true hns
  refine L_buildSlice hn hx ht hz h0' hns' (Nat.le_of_ble_eq_true hn0) hf fun b => ?_
  have hnl : n ≤ 65536 := Nat.le_trans (Nat.le_mul_of_pos_right n h0') hns'
  refine L_conv (M' := treeH (⟨some ⟨b, 0, none⟩, n, e, ts, []⟩ : TL τ) :: M) (fun w h => blk_own (by omega) (by simp only [maxLen]; omega) (by rw [hlen]; simp) (by rw [List.append_nil]; exact h)) ?_
  have := hk ⟨some ⟨b, 0, none⟩, n, e, ts, []⟩ (Option.some.inj hr)
  have eh : (⟨some ⟨b, 0, none⟩, n, e, ts, []⟩ : TL τ).hdr = .slice (some ⟨b, 0, none⟩) n n := by show Value.slice _ ts.length _ = _; rw [hlen]
  rw [eh] at this
  exact this
/-- A made slice, on data. -/
def mkP {δ : Type} (by_ : Nat) (n : Int) (z : δ) : Option (List δ) := if 0 ≤ n ∧ n ≤ 1048576 ∧ n.toNat * by_ ≤ 281474976710656 then some (List.replicate n.toNat z) else none
theorem L_mkP (t0 : τ) {x y : Operand} {T e sz by_ : Nat} {z : List Value} {k k' : IntKind} {n : Int} {r : List δ} (hn : Nat.blt d Γ.n = true) (hx : ev l x = some (.int k n)) (hy : ev l y = some (.int k' n)) (ht : elOf Γ.P T = some (e, sz, by_, z))
    (hz : GT.cells t0 = z) (hsz : GT.sz τ = sz) (hf : Flat t0) (hr : mkP by_ n (GT.dat t0) = some r)
    (hk : ∀ X : TL τ, GT.dat X = r → L Γ rest ((d, X.hdr) :: l) (treeH X :: M) K) :
    L Γ ({ dst := some d, op := .makeSlice T x y, type := ty, pos, after := af, guard := none } :: rest) l M K := by
  unfold mkP at hr
  split at hr
  rotate_left
  · cases hr
  rename_i hb
  obtain ⟨h1, h2, h3⟩ := hb
  obtain ⟨m, rfl⟩ := Int.eq_ofNat_of_zero_le h1
  obtain rfl := Option.some.inj hr
  simp only [Int.toNat_natCast] at *
  refine L_make (n := m) t0 hn hx hy ht hz hsz hf h3 (by simp only [maxLen]; omega) fun g => ?_
  have := hk ⟨some ⟨g, 0, none⟩, m, e, List.replicate m t0, []⟩ (by rw [dat_els]; simp)
  have eh : (⟨some ⟨g, 0, none⟩, m, e, List.replicate m t0, []⟩ : TL τ).hdr = .slice (some ⟨g, 0, none⟩) m m := by show Value.slice _ (List.replicate m t0).length _ = _; rw [List.length_replicate]
  rw [eh] at this
  exact this
end
/-- A byte out of a number. -/
def u8P (n : Int) : Option UInt8 := if 0 ≤ n ∧ n < 256 then some (UInt8.ofNat n.toNat) else none
theorem u8P_some {n : Int} {b : UInt8} (h : u8P n = some b) : n = (b.toNat : Int) := by
  unfold u8P at h
  split at h
  · rename_i hb
    obtain rfl := Option.some.inj h
    rw [UInt8.toNat_ofNat']
    omega
  · cases h
theorem strOf_bytes (xs : List UInt8) : strOf (xs.map fun b => (b.toNat : Int)) = ⟨xs.toArray⟩ := by
  have h : ∀ (xs : List UInt8) (s : ByteArray), (xs.map fun b => (b.toNat : Int)).foldl (fun r n => r.push (UInt8.ofNat n.toNat)) s = ⟨s.data ++ xs.toArray⟩ := by
    intro xs
    induction xs with
    | nil => intro s; simp
    | cons x xs ih =>
      intro s
      rw [List.map_cons, List.foldl_cons, ih]
      congr 1
      show (s.push _).data ++ _ = _
      simp [ByteArray.push]
  unfold strOf
  rw [h]
  simp
/-- The string of some bytes. -/
def strP (xs : List UInt8) : ByteArray := ⟨xs.toArray⟩
theorem run_bytesNone {P : Program} (w : World) (len cap : Nat) : (Conv.bytesToString (.slice none len cap)).run P w = .ok (.string ByteArray.empty) w := by
  simp [Conv.bytesToString]
theorem L_toStr {x : Operand} {S T e : Nat} {X : TL UInt8} (hn : Nat.blt d Γ.n = true) (hx : ev l x = some X.hdr) (hS : Γ.P.underlying S = some (.slice e)) (he : Γ.P.underlying e = some (.int .u8)) (hT : Γ.P.underlying T = some .string)
    (hR : RdT Γ M X) (hk : L Γ rest ((d, .string (strP (GT.dat X))) :: l) M K) :
    L Γ ({ dst := some d, op := .convert S T x, type := ty, pos := pos, after := af, guard := none } :: rest) l M K := by
  obtain ⟨a, cap, e', els, tail⟩ := X
  have hd : GT.dat (⟨a, cap, e', els, tail⟩ : TL UInt8) = els := map_id' els
  rw [hd] at hk
  cases a with
  | none =>
    refine L_pure hn (fun a' w ha hw => ?_) hk
    have h1 := hR w hw.sees
    have he0 : els = [] := h1.2.2.2.1 rfl
    subst he0
    have h2 := ha.eval hx
    simp only [execOp, h2, Sem.run_bind]
    show ((convert S T (.slice none _ _)).run Γ.P w).andThen _ = _
    rw [run_convert_bytes_string w S T e _ _ _ hS he hT, run_bytesNone]
    rfl
  | some ad =>
    refine L_pure hn (fun a' w ha hw => ?_) hk
    have h1 := hR w hw.sees
    have h2 := ha.eval hx
    obtain ⟨h3, h4⟩ := h1.2.2.2.2 ad rfl
    simp only [execOp, h2, Sem.run_bind]
    show ((convert S T (.slice (some ad) els.length cap)).run Γ.P w).andThen _ = _
    rw [run_convert_bytes_string w S T e _ _ _ hS he hT]
    have hrow : ∀ xs : List UInt8, rowCells xs = xs.map fun b => Value.int .u8 (b.toNat : Int) := by
      intro xs
      induction xs with
      | nil => rfl
      | cons x xs ih => rw [rowCells_cons, ih]; rfl
    have hl : (loadCells ad els.length).run Γ.P w = .ok ((els.map fun b => (b.toNat : Int)).map (Value.int .u8)).toArray w := by
      by_cases hz : els = []
      · subst hz
        simp [loadCells, loadCellsFrom]
      · have hs := h3 hz
        obtain ⟨blk, off, sp⟩ := ad
        dsimp only at hs
        subst hs
        have := run_loadCells_at (P := Γ.P) (g := blk) (off := off) (cs := rowCells els) (w := w) (fun j v hv => by
          have := h4 j v hv
          exact this.1)
        rw [length_rowCells, show GT.sz UInt8 = 1 from rfl, Nat.mul_one, hrow] at this
        rw [this, List.map_map]; rfl
    have hb := run_bytesToString (P := Γ.P) w ad els.length cap (els.map fun b => (b.toNat : Int)) hl
    have e1 := strOf_bytes els
    unfold strOf at e1
    rw [hb, e1]
    rfl
end Go.Proofs.SL
namespace Go.Proofs.SL
open Go
section
variable {Γ : Cx} {rest : List Oper} {d : Nat} {ty : TypeId} {pos : String} {af : Array Edge} {gd : Option (Nat × Bool)}
variable {ops : Array Oper} {Msh pool : List HP} {E : Fl} {rs : List (Option Nat × Rel)} {cs0 : List Nat} {KD : List (Option Nat × Rel) → List Nat → List HP → Prop}
end
end Go.Proofs.SL
namespace Go.Proofs.SL
open Go
/-- An array of ints, as loops and contracts hand it on. -/
structure AR where
  l : List Int
instance : GT AR (List Int) where
  sz := 1
  pos := by decide
  cells _ := [.int .i64 0]
  len _ := rfl
  one _ v hv := by simp at hv; subst hv; rfl
  rd _ _ _ := True
  fp _ := []
  ow _ _ := True
  dat t := t.l
  rd_mono h _ := h
  ow_st _ h := h
  ow_rd _ _ := trivial
theorem dat_ar (x : AR) : GT.dat x = x.l := rfl
def aC (k : IntKind) (l : List Int) : List Value := l.map (Value.int k)
variable {Γ : Cx} {l : Envl} {M : List HP} {K : Kont} {w0 w : World} {S0 : List Nat} {rest : List Oper} {d : Nat} {ty : TypeId} {pos : String} {af : Array Edge}
section
variable {k : IntKind} {A A' : List Int}
end
/-! A variable of the package that is only read: block g, ints. -/
structure GA (g : Nat) (k : IntKind) (A : List Int) where mk ::
instance (g : Nat) (k : IntKind) (A : List Int) : GT (GA g k A) Unit where
  sz := 1
  pos := by decide
  cells _ := [.int .i64 0]
  len _ := rfl
  one _ v hv := by simp at hv; subst hv; rfl
  rd w S _ := ∀ j v, (aC k A)[j]? = some v → Old w S ⟨g, j, none⟩ v
  fp _ := []
  ow _ _ := False
  dat _ := ()
  rd_mono h hm := fun j v hv => hm _ _ (h j v hv)
  ow_st _ h := h
  ow_rd h _ := h.elim
/-! In a drawn region -/
variable {ops : Array Oper} {Msh pool : List HP} {E : Fl} {rs : List (Option Nat × Rel)} {cs0 : List Nat} {KD : List (Option Nat × Rel) → List Nat → List HP → Prop} {gd : Option (Nat × Bool)}
section
variable {k : IntKind} {A A' : List Int} {c : Prop}
theorem D_xorU {x : Operand} {T : TypeId} {n : Int} (hg : GC ops E { dst := some d, op := .unOp .xor T x, type := ty, pos := pos, after := af, guard := gd } c)
    (hx : OpV E x c (.int k n)) (hk : DV Γ ops Msh pool ((d, FC c (.int k (bits .xor k (if k.signed then -1 else k.max) n))) :: E) ((some d, FC c (.int k (bits .xor k (if k.signed then -1 else k.max) n))) :: rs) cs0 rest KD) :
    DV Γ ops Msh pool E rs cs0 ({ dst := some d, op := .unOp .xor T x, type := ty, pos := pos, after := af, guard := gd } :: rest) KD :=
  DV_pure c _ hg (fun a w F hc hf hs => by
    have e1 := hx.eval hf (by simp [Op.operands]) hc
    simp [execOp, e1, Op.unary, intBits_xor]) hk
end
end Go.Proofs.SL
namespace Go.Proofs.SL
open Go
theorem run_toStr {P : Program} {S T e : Nat} {X : TL UInt8} {w : World} (hS : P.underlying S = some (.slice e)) (he : P.underlying e = some (.int .u8)) (hT : P.underlying T = some .string) (h1 : GT.rd w [] X) :
    (convert S T X.hdr).run P w = .ok (.string (strP (GT.dat X))) w := by
  obtain ⟨a, cap, e', els, tail⟩ := X
  have hd : GT.dat (⟨a, cap, e', els, tail⟩ : TL UInt8) = els := map_id' els
  rw [hd]
  cases a with
  | none =>
    have he0 : els = [] := h1.2.2.2.1 rfl
    subst he0
    show (convert S T (.slice none _ _)).run P w = _
    rw [run_convert_bytes_string w S T e _ _ _ hS he hT, run_bytesNone]
    rfl
  | some ad =>
    obtain ⟨h3, h4⟩ := h1.2.2.2.2 ad rfl
    show (convert S T (.slice (some ad) els.length cap)).run P w = _
    rw [run_convert_bytes_string w S T e _ _ _ hS he hT]
    have hrow : ∀ xs : List UInt8, rowCells xs = xs.map fun b => Value.int .u8 (b.toNat : Int) := by
      intro xs
      induction xs with
      | nil => rfl
      | cons x xs ih => rw [rowCells_cons, ih]; rfl
    have hl : (loadCells ad els.length).run P w = .ok ((els.map fun b => (b.toNat : Int)).map (Value.int .u8)).toArray w := by
      by_cases hz : els = []
      · subst hz
        simp [loadCells, loadCellsFrom]
      · have hs := h3 hz
        obtain ⟨blk, off, sp⟩ := ad
        dsimp only at hs
        subst hs
        have := run_loadCells_at (P := P) (g := blk) (off := off) (cs := rowCells els) (w := w) (fun j v hv => by
          have := h4 j v hv
          exact this.1)
        rw [length_rowCells, show GT.sz UInt8 = 1 from rfl, Nat.mul_one, hrow] at this
        rw [this, List.map_map]; rfl
    have hb := run_bytesToString (P := P) w ad els.length cap (els.map fun b => (b.toNat : Int)) hl
    have e1 := strOf_bytes els
    unfold strOf at e1
    rw [hb, e1]
    rfl
variable {Γ : Cx} {rest : List Oper} {d : Nat} {ty : TypeId} {pos : String} {af : Array Edge}
variable {ops : Array Oper} {Msh pool : List HP} {E : Fl} {rs : List (Option Nat × Rel)} {cs0 : List Nat} {KD : List (Option Nat × Rel) → List Nat → List HP → Prop}
theorem D_toStrO {t S T e : Nat} {r : List UInt8} (hR : E.lookup t = some (OwnV (τ := UInt8) r)) (hS : Γ.P.underlying S = some (.slice e)) (he : Γ.P.underlying e = some (.int .u8)) (hT : Γ.P.underlying T = some .string)
    (hlin : linB ops { dst := some d, op := .convert S T (.tmp t), type := ty, pos := pos, after := af, guard := none } [t] = true)
    (hk : DV Γ ops Msh pool ((d, FC True (.string (strP r))) :: dropE [t] E) ((some d, FC True (.string (strP r))) :: rs) ([t] ++ cs0) rest KD) :
    DV Γ ops Msh pool E rs cs0 ({ dst := some d, op := .convert S T (.tmp t), type := ty, pos := pos, after := af, guard := none } :: rest) KD := by
  refine DV.mk (FC True (.string (strP r))) [] pool ([t]) (by simp) hlin ?_ hk
  intro a w F Mk _ _ hw hm hfa hcf
  obtain ⟨Mx, Mk', rfl, hRR, hnil⟩ := hcf
  have hnil : Mk' = [] := hnil
  subst hnil
  obtain ⟨X, hv, hd, rfl⟩ := hRR _ hR
  rw [if_pos (by simp [Region.wanted])]
  have hw1 : Holds Γ.w0 Γ.S0 (treeH X :: F) w := by simpa using hw
  have h1 := run_toStr (P := Γ.P) hS he hT (rd_of_tree (List.mem_cons_self ..) hw1.sees)
  have hv' : a.eval (.tmp t) = X.hdr := hv
  have h3 : (execOp a.eval { dst := some d, op := .convert S T (.tmp t), type := ty, pos := pos, after := af, guard := none }).run Γ.P w = .ok (.value (.string (strP r))) w := by
    rw [← hd]
    generalize X.hdr = u at *
    simp [execOp, hv', h1]
  rw [h3]
  exact ⟨[], ⟨rfl, fun _ => rfl, fun hn => (hn trivial).elim⟩, by simpa using hw1.sub ⟨[treeH X], by
    show List.Perm (treeH X :: F) (F ++ [treeH X])
    exact (List.perm_append_comm (l₁ := [treeH X]) (l₂ := F))⟩⟩
end Go.Proofs.SL
namespace Go.Proofs.SL
open Go
variable {Γ : Cx} {rest : List Oper} {d : Nat} {ty : TypeId} {pos : String} {af : Array Edge}
variable {ops : Array Oper} {Msh pool pool' : List HP} {E : Fl} {rs : List (Option Nat × Rel)} {cs0 : List Nat} {KD : List (Option Nat × Rel) → List Nat → List HP → Prop}
variable {τ δ : Type} [GT τ δ]
theorem OpV.g0 {g : Nat} {c : Prop} : OpV E (.global g) c (.pointer (some ⟨g, 0, none⟩)) := rfl
theorem D_bsN [FlatT τ] (ts : List τ) {T e sz by_ n : Nat} {z : List Value} {xs : List (Nat × Operand)} {ps : List (Nat × Value)} {r : List δ} (hx : OpVp E xs ps) (ht : elOf Γ.P T = some (e, sz, by_, z)) (hz : z.length = sz)
    (hsz : GT.sz τ = sz) (h0 : Nat.blt 0 sz = true) (hns : Nat.ble (n * sz) 65536 = true) (hn0 : Nat.blt 0 n = true) (hlen : ts.length = n) (hf : fillL (fun i => some (i * sz, sz)) ((List.range (n * sz)).map fun i => z.getD (i % sz) undef) ps = some (rowCells ts))
    (hr : some (ts.map GT.dat) = some r) (hk : DV Γ ops Msh pool ((d, OwnV (τ := τ) r) :: E) ((some d, OwnV (τ := τ) r) :: rs) cs0 rest KD) :
    DV Γ ops Msh pool E rs cs0 ({ dst := some d, op := .buildSlice T n xs.toArray, type := ty, pos := pos, after := af, guard := none } :: rest) KD := by
  have h0' : 0 < sz := Nat.le_of_ble_eq_true h0
  have hns' : n * sz ≤ 65536 := Nat.le_of_ble_eq_true hns
  have hnl : n ≤ 65536 := Nat.le_trans (Nat.le_mul_of_pos_right n h0') hns'
  refine DV.mk (OwnV (τ := τ) r) [] pool [] (by simp) rfl ?_ (by rw [dropE_nil]; exact hk)
  intro a w F Mk _ _ hw hm hfa hcf
  have hMk : Mk = [] := hcf
  subst hMk
  rw [dropE_nil] at hfa
  simp only [List.nil_append] at hw ⊢
  rw [if_pos (by simp [Region.wanted])]
  have h1 : xs.toArray.map (fun (i, x) => (i, a.eval x)) = ps.toArray := by
    have := OpVp.evals (o := { dst := some d, op := .buildSlice T n xs.toArray, type := ty, pos := pos, after := af, guard := none }) hfa xs ps hx (fun x hx => by simp [Op.operands]; exact ⟨_, hx⟩)
    rw [← this]; simp
  have hrun := run_buildSlice (P := Γ.P) (w := w) ht hz h0' hns' (Nat.le_of_ble_eq_true hn0) hf
  have h3 : (execOp a.eval { dst := some d, op := .buildSlice T n xs.toArray, type := ty, pos := pos, after := af, guard := none }).run Γ.P w = .ok (.value (.slice (some ⟨w.heap.size, 0, none⟩) n n)) (w.alloc (.cells (rowCells ts).toArray e (0, 0))) := by
    simp only [execOp, h1]
    simp [hrun]
  rw [h3]
  have eh : (⟨some ⟨w.heap.size, 0, none⟩, n, e, ts, []⟩ : TL τ).hdr = .slice (some ⟨w.heap.size, 0, none⟩) n n := by show Value.slice _ ts.length _ = _; rw [hlen]
  have hw2 : Holds Γ.w0 Γ.S0 F w := by simpa using hw
  refine ⟨[treeH (⟨some ⟨w.heap.size, 0, none⟩, n, e, ts, []⟩ : TL τ)], ⟨_, eh.symm, Option.some.inj hr, rfl⟩, ?_⟩
  have h5 := hw2.new (b := w.heap.size) (cs := rowCells ts) (T := e) rfl
  exact blk_own (by omega) (by simp only [maxLen]; omega) (by rw [hlen]; simp) (by rw [List.append_nil]; exact h5)
end Go.Proofs.SL
namespace Go.Proofs.SL
open Go
variable {Γ : Cx} {rest : List Oper} {d : Nat} {ty : TypeId} {pos : String} {af : Array Edge} {l : Envl} {M : List HP} {K : Kont}
def cxs (ns : List Int) : List (Nat × Operand) := ns.zipIdx.map fun q => (q.2, .const (.int .i64 q.1))
def cps (ns : List Int) : List (Nat × Value) := ns.zipIdx.map fun q => (q.2, .int .i64 q.1)
/-- A long slice of constants. -/
theorem L_bsNC (ns : List Int) {T e by_ n : Nat} {z : List Value} {o : Op} (hn : Nat.blt d Γ.n = true) (ho : o = .buildSlice T n (cxs ns).toArray) (hx : evp l (cxs ns) = some (cps ns)) (ht : elOf Γ.P T = some (e, 1, by_, z)) (hz : z.length = 1)
    (hns : Nat.ble (n * 1) 65536 = true) (hn0 : Nat.blt 0 n = true) (hlen : ns.length = n) (hf : fillL (fun i => some (i * 1, 1)) ((List.range (n * 1)).map fun i => z.getD (i % 1) undef) (cps ns) = some (rowCells ns))
    (hk : ∀ X : TL Int, GT.dat X = ns → L Γ rest ((d, X.hdr) :: l) (treeH X :: M) K) :
    L Γ ({ dst := some d, op := o, type := ty, pos, after := af, guard := none } :: rest) l M K := by
  subst ho
  exact L_bsN (τ := Int) ns hn hx ht hz rfl rfl hns hn0 hlen hf (congrArg some (show ns.map (fun x : Int => x) = ns from List.map_id' ns)) hk
end Go.Proofs.SL
namespace Go.Proofs.SL
open Go
variable {Γ : Cx} {rest : List Oper} {d : Nat} {ty : TypeId} {pos : String} {af : Array Edge} {gd : Option (Nat × Bool)}
variable {ops : Array Oper} {Msh pool : List HP} {E : Fl} {rs : List (Option Nat × Rel)} {cs0 : List Nat} {KD : RKont}
/-- What is handed back where the guard lets the call run. -/
def GR (c : Prop) (R : Rel) : Rel := fun v M => (c → R v M) ∧ (¬ c → v = undef ∧ M = [])
theorem D_callGV {f : Nat} {xs : List Operand} {ats : Array TypeId} {vs : List Value} {c : Prop} (R : Rel)
    (hg : GC ops E { dst := some d, op := .call { callee := .value (.func f), args := xs.toArray, argTypes := ats }, type := ty, pos := pos, after := af, guard := gd } c)
    (hf : IsFn Γ.P f) (hx : OpVs E c xs vs) (hc : c → ∀ w F, Holds Γ.w0 Γ.S0 F w → (∀ h, h ∈ Msh → h ∈ F) → Spec Γ.P f vs.toArray w [] R)
    (hk : DV Γ ops Msh pool ((d, GR c R) :: E) ((some d, GR c R) :: rs) cs0 rest KD) :
    DV Γ ops Msh pool E rs cs0 ({ dst := some d, op := .call { callee := .value (.func f), args := xs.toArray, argTypes := ats }, type := ty, pos := pos, after := af, guard := gd } :: rest) KD := by
  refine DV.mk (GR c R) [] pool [] (by simp) rfl ?_ (by rw [dropE_nil]; exact hk)
  intro a w F Mk _ _ hw hm hfa hcf
  have hMk : Mk = [] := hcf
  subst hMk
  rw [dropE_nil] at hfa
  simp only [List.nil_append] at hw ⊢
  have hgc := hg a F hfa
  split
  · rename_i hwt
    have hcc := hgc.1 hwt
    have hw' : Holds Γ.w0 Γ.S0 F w := by simpa using hw
    have h2 : (#[] ++ xs.toArray.map a.eval ++ #[] : Array Value) = vs.toArray := by
      simp [OpVs.evals (o := { dst := some d, op := .call { callee := .value (.func f), args := xs.toArray, argTypes := ats }, type := ty, pos := pos, after := af, guard := gd }) hcc hfa xs vs hx (fun x hx => by simp [Op.operands, Call.operands, hx])]
    rw [execOp_call_go, h2, hf.run]
    exact (hc hcc w F hw' hm (Holds.split (M1 := []) (M2 := F) hw)).mono fun e w'' ⟨v, M', h1, h3, h4⟩ => ⟨v, M', h1, ⟨fun _ => h3, fun hn => (hn hcc).elim⟩, Holds.frame (M1 := []) (M2 := F) hw h4⟩
  · rename_i hwt
    exact ⟨fun hc => (hwt (hgc.2 hc)).elim, fun _ => ⟨rfl, rfl⟩⟩
theorem D_callGR {f : Nat} {xs : List Operand} {ats : Array TypeId} (Rs : List Rel) {c : Prop} {x : Value}
    (hg : GC ops E { dst := some d, op := .call { callee := .value (.func f), args := xs.toArray, argTypes := ats }, type := ty, pos := pos, after := af, guard := gd } c)
    (hf : IsFn Γ.P f) (hx : OpRs E xs Rs) (hc : c → ∀ w F vs, Holds Γ.w0 Γ.S0 F w → (∀ h, h ∈ Msh → h ∈ F) → AllR F Rs vs → Spec Γ.P f vs.toArray w [] (IsV x))
    (hk : DV Γ ops Msh pool ((d, FC c x) :: E) ((some d, FC c x) :: rs) cs0 rest KD) :
    DV Γ ops Msh pool E rs cs0 ({ dst := some d, op := .call { callee := .value (.func f), args := xs.toArray, argTypes := ats }, type := ty, pos := pos, after := af, guard := gd } :: rest) KD := by
  refine DV.mk (FC c x) [] pool [] (by simp) rfl ?_ (by rw [dropE_nil]; exact hk)
  intro a w F Mk _ _ hw hm hfa hcf
  have hMk : Mk = [] := hcf
  subst hMk
  rw [dropE_nil] at hfa
  simp only [List.nil_append] at hw ⊢
  have hgc := hg a F hfa
  split
  · rename_i hwt
    have hcc := hgc.1 hwt
    have hw' : Holds Γ.w0 Γ.S0 F w := by simpa using hw
    have h1 := OpRs.evals (o := { dst := some d, op := .call { callee := .value (.func f), args := xs.toArray, argTypes := ats }, type := ty, pos := pos, after := af, guard := gd }) hfa xs Rs hx (fun x hx => by simp [Op.operands, Call.operands, hx])
    have h2 : (#[] ++ xs.toArray.map a.eval ++ #[] : Array Value) = (xs.map a.eval).toArray := by simp
    rw [execOp_call_go, h2, hf.run]
    exact (hc hcc w F _ hw' hm h1 (Holds.split (M1 := []) (M2 := F) hw)).mono fun e w'' ⟨v, M', h1, h3, h4⟩ => ⟨v, M', h1, ⟨h3.2, fun _ => h3.1, fun hn => (hn hcc).elim⟩, Holds.frame (M1 := []) (M2 := F) hw h4⟩
  · rename_i hwt
    exact ⟨rfl, fun hc => (hwt (hgc.2 hc)).elim, fun _ => rfl⟩
end Go.Proofs.SL
namespace Go.Proofs.SL
open Go
section
variable {Γ : Cx} {rest : List Oper} {d : Nat} {ty : TypeId} {pos : String} {af : Array Edge}
variable {ops : Array Oper} {Msh pool : List HP} {E : Fl} {rs : List (Option Nat × Rel)} {cs0 : List Nat} {KD : RKont}
/-- A struct that one owns. -/
def AggV {τ δ : Type} [GT τ δ] (r : δ) : Rel := fun v M => ∃ x : τ, v = .agg (GT.cells x).toArray ∧ GT.dat x = r ∧ M = [treeH x]
/-- A pointer to a block that holds a struct that one owns. -/
def BoxV {τ δ : Type} [GT τ δ] (T : TypeId) (r : δ) : Rel := fun v M => ∃ (b : Nat) (x : τ), v = .pointer (some ⟨b, 0, none⟩) ∧ GT.dat x = r ∧ M = [blk b (GT.cells x) T, treeH x]
theorem D_moveC {t : Nat} {R : Rel} (hR : E.lookup t = some R)
    (hlin : linB ops { dst := some d, op := .move (.tmp t), type := ty, pos := pos, after := af, guard := none } [t] = true)
    (hk : DV Γ ops Msh pool ((d, R) :: dropE [t] E) ((some d, R) :: rs) ([t] ++ cs0) rest KD) :
    DV Γ ops Msh pool E rs cs0 ({ dst := some d, op := .move (.tmp t), type := ty, pos := pos, after := af, guard := none } :: rest) KD := by
  refine DV.mk R [] pool [t] (by simp) hlin ?_ hk
  intro a w F Mk _ _ hw hm hfa hcf
  obtain ⟨Mx, Mk', rfl, hRR, hnil⟩ := hcf
  have hnil : Mk' = [] := hnil
  subst hnil
  have h1 := hRR _ hR
  rw [if_pos (by simp [Region.wanted])]
  have h2 : (execOp a.eval { dst := some d, op := .move (.tmp t), type := ty, pos := pos, after := af, guard := none }).run Γ.P w = .ok (.value (a.tmps.getD t undef)) w := by
    simp [execOp, Act.eval]
  rw [h2]
  exact ⟨Mx, h1, by simpa using hw⟩
theorem D_extractC {t i : Nat} {R : Rel} (R' : Rel) (hR : E.lookup t = some R) (hh : ∀ v M, R v M → ∃ vs u, v = .tuple vs ∧ vs[i]? = some u ∧ R' u M)
    (hlin : linB ops { dst := some d, op := .extract (.tmp t) i, type := ty, pos := pos, after := af, guard := none } [t] = true)
    (hk : DV Γ ops Msh pool ((d, R') :: dropE [t] E) ((some d, R') :: rs) ([t] ++ cs0) rest KD) :
    DV Γ ops Msh pool E rs cs0 ({ dst := some d, op := .extract (.tmp t) i, type := ty, pos := pos, after := af, guard := none } :: rest) KD := by
  refine DV.mk R' [] pool [t] (by simp) hlin ?_ hk
  intro a w F Mk _ _ hw hm hfa hcf
  obtain ⟨Mx, Mk', rfl, hRR, hnil⟩ := hcf
  have hnil : Mk' = [] := hnil
  subst hnil
  obtain ⟨vs, u, hv, hu, h1⟩ := hh _ _ (hRR _ hR)
  rw [if_pos (by simp [Region.wanted])]
  have e1 : a.eval (.tmp t) = .tuple vs := hv
  have h2 : (execOp a.eval { dst := some d, op := .extract (.tmp t) i, type := ty, pos := pos, after := af, guard := none }).run Γ.P w = .ok (.value u) w := by
    simp [execOp, e1, Instr.extract, hu]
  rw [h2]
  exact ⟨Mx, h1, by simpa using hw⟩
theorem D_extractW {t i : Nat} {R : Rel} (u : Value) (hR : E.lookup t = some R) (hh : ∀ v M, R v M → ∃ vs, v = .tuple vs ∧ vs[i]? = some u)
    (hk : DV Γ ops Msh pool ((d, FC True u) :: E) ((some d, FC True u) :: rs) cs0 rest KD) :
    DV Γ ops Msh pool E rs cs0 ({ dst := some d, op := .extract (.tmp t) i, type := ty, pos := pos, after := af, guard := none } :: rest) KD :=
  DV_pure True u GC.none (fun a w F _ hf _ => by
    obtain ⟨M, h1, _⟩ := hf t R (List.mem_append_left _ (by simp [Op.operands])) hR
    obtain ⟨vs, hv, hu⟩ := hh _ _ h1
    have e1 : a.eval (.tmp t) = .tuple vs := hv
    simp [execOp, e1, Instr.extract, hu]) hk
theorem D_storeK {τ δ : Type} [GT τ δ] {p x : Nat} {T : TypeId} {T' : TypeId} {z : List Value} {r : δ} (hp : E.lookup p = some (PtrNew z T')) (hx : E.lookup x = some (AggV (τ := τ) r))
    (ht : aggOf Γ.P T = some (GT.sz τ)) (hl : z.length = GT.sz τ)
    (hlin : linB ops { dst := none, op := .store T (.tmp p) (.tmp x), type := ty, pos := pos, after := af, guard := none } [p, x] = true)
    (hk : DV Γ ops Msh pool (dropE [p, x] E) ((some p, BoxV (τ := τ) T' r) :: rs) ([x] ++ cs0) rest KD) :
    DV Γ ops Msh pool E rs cs0 ({ dst := none, op := .store T (.tmp p) (.tmp x), type := ty, pos := pos, after := af, guard := none } :: rest) KD := by
  refine DV.mkK (BoxV (τ := τ) T' r) [] pool p [x] rfl (by simp) hlin ?_ hk
  intro a w F Mk _ _ hw hm hfa hcf
  obtain ⟨M1, Mk', rfl, hR1, M2, Mk'', rfl, hR2, hnil⟩ := hcf
  have hnil : Mk'' = [] := hnil
  subst hnil
  obtain ⟨b, hb, rfl⟩ := hR1 _ hp
  obtain ⟨y, hv, hd, rfl⟩ := hR2 _ hx
  rw [if_pos (by simp [Region.wanted])]
  have e1 : a.eval (.tmp p) = .pointer (some ⟨b, 0, none⟩) := hb
  have e2 : a.eval (.tmp x) = .agg (GT.cells y).toArray := hv
  have hw' : Holds Γ.w0 Γ.S0 (blk b z T' :: (treeH y :: F)) w := by simpa using hw
  have hh : w.heap[b]? = some (.cells z.toArray T' (0, 0)) := hw'.prs (blk b z T') (by simp)
  have hly : (GT.cells y).length = GT.sz τ := GT.len y
  have hs := run_store_blk (P := Γ.P) (fo := 0) (vs := GT.cells y) (ty := T) hh (by omega) (fun v hv => GT.one y v hv)
  have e : (z.take 0 ++ GT.cells y ++ z.drop (0 + (GT.cells y).length)) = GT.cells y := by simp [hl, hly]
  rw [e] at hs
  have hrun : (execOp a.eval { dst := none, op := .store T (.tmp p) (.tmp x), type := ty, pos := pos, after := af, guard := none }).run Γ.P w = .ok .skip (w.setRow b (GT.cells y).toArray) := by
    simp [execOp, e1, e2, Instr.storeAt, Instr.sureAddr, storeVar, run_isAgg_agg ht, Value.cells, hs, hly]
  rw [hrun]
  exact ⟨[blk b (GT.cells y) T', treeH y], ⟨b, y, hb, hd, rfl⟩, by simpa using setRow_blk (cs' := GT.cells y) hw'⟩
/-- A call that is given parts of memory, its operands known by relations. -/
theorem D_callMR {pool' : List HP} {f : Nat} {xs : List Operand} {ats : Array TypeId} (Rs : List Rel) (R : Rel) (M1 : List HP) (hp : List.Perm pool (M1 ++ pool'))
    (hf : IsFn Γ.P f) (hx : OpRs E xs Rs) (hc : ∀ w F vs, Holds Γ.w0 Γ.S0 (M1 ++ F) w → (∀ h, h ∈ Msh → h ∈ F) → AllR F Rs vs → Spec Γ.P f vs.toArray w M1 R)
    (hk : DV Γ ops Msh pool' ((d, R) :: E) ((some d, R) :: rs) cs0 rest KD) :
    DV Γ ops Msh pool E rs cs0 ({ dst := some d, op := .call { callee := .value (.func f), args := xs.toArray, argTypes := ats }, type := ty, pos := pos, after := af, guard := none } :: rest) KD := by
  refine DV.mk R M1 pool' [] hp rfl ?_ (by rw [dropE_nil]; exact hk)
  intro a w F Mk _ _ hw hm hfa hcf
  have hMk : Mk = [] := hcf
  subst hMk
  rw [dropE_nil] at hfa
  simp only [List.nil_append] at hw ⊢
  rw [if_pos (by simp [Region.wanted])]
  have h1 := OpRs.evals (o := { dst := some d, op := .call { callee := .value (.func f), args := xs.toArray, argTypes := ats }, type := ty, pos := pos, after := af, guard := none }) hfa xs Rs hx (fun x hx => by simp [Op.operands, Call.operands, hx])
  have h2 : (#[] ++ xs.toArray.map a.eval ++ #[] : Array Value) = (xs.map a.eval).toArray := by simp
  rw [execOp_call_go, h2, hf.run]
  exact (hc w F _ hw hm h1 (Holds.split hw)).mono fun e w'' ⟨v, M', h1, h3, h4⟩ => ⟨v, M', h1, h3, Holds.frame hw h4⟩
end
section
variable {Γ : Cx} {rest : List Oper} {d : Nat} {ty : TypeId} {pos : String} {af : Array Edge} {gd : Option (Nat × Bool)}
variable {ops : Array Oper} {Msh pool : List HP} {E : Fl} {rs : List (Option Nat × Rel)} {cs0 : List Nat} {KD : RKont}
end
end Go.Proofs.SL
namespace Go.Proofs.SL
open Go
section
variable {Γ : Cx} {l : Envl} {M M1 M2 F : List HP} {Q : Post} {K : Kont} {w0 w : World} {S0 : List Nat}
variable {rest : List Oper} {d : Nat} {ty : TypeId} {pos : String} {af : Array Edge}
variable {τ δ : Type} [GT τ δ]
/-- append of a whole slice of one's own: its elements are handed on. -/
theorem L_appAll {s x : Operand} {T e sz by_ : Nat} {z : List Value} {X Y : TL τ} {r : List δ} (hn : Nat.blt d Γ.n = true)
    (hs : ev l s = some X.hdr) (hx : ev l x = some Y.hdr) (ht : elOf Γ.P T = some (e, sz, by_, z)) (hsz : GT.sz τ = sz) (hz : z.length = sz)
    (hp : Pick (treeH X) M M1) (hq : Pick (treeH Y) M1 M2) (hr : appP (GT.dat X) (GT.dat Y) = some r) (hb : by_ ≤ 32768)
    (hk : ∀ X' : TL τ, GT.dat X' = r → L Γ rest ((d, X'.hdr) :: l) (treeH X' :: M2) K) :
    L Γ ({ dst := some d, op := .call { callee := .builtin .append, args := #[s, x], argTypes := #[T, T] }, type := ty, pos, after := af, guard := none } :: rest) l M K := by
  obtain ⟨h1, rfl⟩ := appP_some hr
  simp only [dat_els, List.length_map] at h1
  have hmY : treeH Y ∈ M := by
    have h2 : treeH Y ∈ M1 := hq.perm.mem_iff.2 (List.mem_cons_self ..)
    exact hp.perm.mem_iff.2 (List.mem_cons_of_mem _ h2)
  obtain ⟨a2, c2, e2, x2, tl2⟩ := Y
  cases a2 with
  | some a2 =>
    obtain ⟨b, o, sp⟩ := a2
    refine L_appA (ys := x2) (M2 := M2) hn hs hx ht hsz hz hp rfl (fun w hw j v hv => ?_) (fun w R h => ?_) h1 hb
      (fun X' h => hk X' (by rw [dat_els, h, List.map_append]; rfl))
    · have h2 := (rd_of_tree hmY hw).2.2.2.2 _ rfl
      have hne : x2 ≠ [] := fun e => by subst e; simp [rowCells] at hv
      have h3 : sp = none := h2.1 hne
      subst h3
      rw [addr_add]; exact (h2.2 j v hv).1
    · have h2 := tree_row (h.perm (hq.perm.append_right R))
      refine h2.sub ⟨[rowH (⟨some ⟨b, o, sp⟩, c2, e2, x2, tl2⟩ : TL τ)], ?_⟩
      exact List.perm_append_comm (l₁ := [rowH (⟨some ⟨b, o, sp⟩, c2, e2, x2, tl2⟩ : TL τ)]) (l₂ := elsT x2 :: (M2 ++ R))
  | none =>
    intro ops a w Q ha hw hq'
    have h2 : x2 = [] := (rd_of_tree hmY hw.sees).2.2.2.1 rfl
    subst h2
    have hk' := hk X (by rw [dat_els]; show _ = _ ++ [].map GT.dat; simp)
    refine L_step rfl rfl (Nat.le_of_ble_eq_true hn) (fun a w ha hw => ⟨w, ?_, ?_⟩) hk' ops a w Q ha hw hq'
    · have hr : GT.ow w X := (hw.perm hp.perm).prs _ (List.mem_cons_self ..)
      have := append_none (P := Γ.P) (w := w) (a := X.a) (n := X.els.length) (c := X.cap) (c2 := c2) ht hr.1 ty
      have h5 : (Builtin.append_ #[T, T] ty #[X.hdr, .slice none 0 c2]).run Γ.P w = .ok X.hdr w := this
      have h6 := ha.eval hx
      simp only [TL.hdr, List.length_nil] at h6
      generalize X.hdr = uu at *
      simp [execOp, resolve, invoke, builtin, ha.eval hs, h6, h5]
    · refine (hw.perm (hp.perm.trans (hq.perm.cons _))).sub ⟨[treeH (⟨none, c2, e2, [], tl2⟩ : TL τ)], ?_⟩
      exact (List.perm_append_comm (l₁ := [treeH (⟨none, c2, e2, [], tl2⟩ : TL τ)]) (l₂ := M2)).cons _
end
section
variable {Γ : Cx} {rest : List Oper} {d : Nat} {ty : TypeId} {pos : String} {af : Array Edge}
variable {ops : Array Oper} {Msh pool pool' : List HP} {E : Fl} {rs : List (Option Nat × Rel)} {cs0 : List Nat} {KD : RKont}
variable {τ τ' δ δ' : Type} [GT τ δ] [GT τ' δ']
/-- append of one element that owns a slice, in a region whose order is open. -/
theorem D_app1O {s : Operand} {t T e sz by_ : Nat} {z : List Value} {X : TL τ} {T' : TypeId} {f : Value → Value} {r0 : List δ'} (yf : TL τ' → τ) (q : δ) {r : List δ}
    (hs : OpV (dropE [t] E) s True X.hdr) (hx : E.lookup t = some (RowO (τ := τ') f T' r0)) (ht : elOf Γ.P T = some (e, sz, by_, z)) (hsz : GT.sz τ = sz) (hz : z.length = sz)
    (hf : ∀ Y : TL τ', (f Y.hdr).cells.toList = GT.cells (yf Y)) (hfp : ∀ Y : TL τ', GT.fp (yf Y) = GT.fp Y) (how : ∀ (w : World) (Y : TL τ'), GT.ow w Y → GT.ow w (yf Y)) (hdt : ∀ Y : TL τ', GT.dat Y = r0 → GT.dat (yf Y) = q)
    (hp : Pick (treeH X) pool pool') (hr : appP (GT.dat X) [q] = some r) (hb : by_ ≤ 32768)
    (hlin : linB ops { dst := some d, op := .call { callee := .builtin .append, args := #[s, .tmp t], argTypes := #[T, T] }, type := ty, pos := pos, after := af, guard := none } [t] = true)
    (hk : DV Γ ops Msh pool' ((d, OwnV (τ := τ) r) :: dropE [t] E) ((some d, OwnV (τ := τ) r) :: rs) ([t] ++ cs0) rest KD) :
    DV Γ ops Msh pool E rs cs0 ({ dst := some d, op := .call { callee := .builtin .append, args := #[s, .tmp t], argTypes := #[T, T] }, type := ty, pos := pos, after := af, guard := none } :: rest) KD := by
  refine DV.mk (OwnV (τ := τ) r) ([treeH X]) pool' ([t]) hp.perm hlin ?_ hk
  intro a w F Mk _ _ hw hm hfa hcf
  obtain ⟨Mx, Mk', rfl, hR, hnil⟩ := hcf
  have hnil : Mk' = [] := hnil
  subst hnil
  obtain ⟨Y, b, hv, hd, rfl⟩ := hR _ hx
  rw [if_pos (by simp [Region.wanted])]
  have e1 := hs.eval hfa (by simp [Op.operands, Call.operands]) trivial
  have e2 : a.eval (.tmp t) = .slice (some ⟨b, 0, none⟩) 1 1 := hv
  have hq := hdt Y hd
  subst hq
  obtain ⟨hl, rfl⟩ := appP_some hr
  simp only [dat_els, List.length_map, List.length_cons, List.length_nil] at hl
  have hw1 : Holds Γ.w0 Γ.S0 (treeH X :: blk b (GT.cells (yf Y)) T' :: treeH Y :: F) w := by rw [← hf Y]; simpa using hw
  have hw2 : Holds Γ.w0 Γ.S0 (treeH X :: blk b (GT.cells (yf Y)) T' :: treeH (yf Y) :: F) w := by
    refine hw1.reFp (List.Perm.of_eq ?_) fun x hx => ?_
    · simp only [fps_cons]
      show GT.fp X ++ ([b] ++ (GT.fp Y ++ fps F)) = GT.fp X ++ ([b] ++ (GT.fp (yf Y) ++ fps F))
      rw [hfp]
    · simp only [List.mem_cons] at hx
      rcases hx with rfl | rfl | rfl | hx
      · exact hw1.prs _ (by simp)
      · exact hw1.prs _ (by simp)
      · exact how w Y (hw1.prs (treeH Y) (by simp))
      · exact hw1.prs _ (by simp [hx])
  have hsrc : ∀ j v, (rowCells [yf Y])[j]? = some v → w.cell? ((⟨b, 0, none⟩ : Addr).add j) = some v := fun j v hv => by
    rw [addr_add]
    exact RdC.blk (Γ := Γ) (M := treeH X :: blk b (GT.cells (yf Y)) T' :: treeH (yf Y) :: F) (List.mem_cons_of_mem _ (List.mem_cons_self ..)) w hw2.sees j v (by simpa [rowCells] using hv)
  obtain ⟨a', c', e', tl, w', h1, h2⟩ := append_rowE (P := Γ.P) (c := 1) ht hsz hz (tree_row hw2) hsrc (by simpa using hl) hb ty
  have h1' : (Builtin.append_ #[T, T] ty #[X.hdr, .slice (some ⟨b, 0, none⟩) 1 1]).run Γ.P w = .ok (TL.hdr (⟨a', c', e', X.els ++ [yf Y], tl⟩ : TL τ)) w' := h1
  have h3 : (execOp a.eval { dst := some d, op := .call { callee := .builtin .append, args := #[s, .tmp t], argTypes := #[T, T] }, type := ty, pos := pos, after := af, guard := none }).run Γ.P w = .ok (.value (TL.hdr (⟨a', c', e', X.els ++ [yf Y], tl⟩ : TL τ))) w' := by
    generalize TL.hdr (⟨a', c', e', X.els ++ [yf Y], tl⟩ : TL τ) = vv at *
    generalize X.hdr = uu at *
    simp [execOp, resolve, invoke, builtin, e1, e2, h1']
  rw [h3]
  refine ⟨[treeH (⟨a', c', e', X.els ++ [yf Y], tl⟩ : TL τ)], ⟨_, rfl, ?_, rfl⟩, ?_⟩
  · rw [dat_els, List.map_append]; rfl
  · refine row_tree ?_
    have h4 : Holds Γ.w0 Γ.S0 (elsT X.els :: elsT [yf Y] :: rowH (⟨a', c', e', X.els ++ [yf Y], tl⟩ : TL τ) :: F) w' := by
      have h5 : Holds Γ.w0 Γ.S0 (treeH (yf Y) :: elsT X.els :: rowH (⟨a', c', e', X.els ++ [yf Y], tl⟩ : TL τ) :: blk b (GT.cells (yf Y)) T' :: F) w' :=
        h2.perm (perm_cons (Ms := [elsT X.els, rowH (⟨a', c', e', X.els ++ [yf Y], tl⟩ : TL τ), blk b (GT.cells (yf Y)) T']) (.there _ (.there _ (.there _ (.here _)))) (perm_cons (.there _ (.here _)) (perm_cons (.here _) (perm_cons (.here _) (perm_nil_left _)))))
      have h6 := elsT_one h5
      have h7 : Holds Γ.w0 Γ.S0 (elsT X.els :: elsT [yf Y] :: rowH (⟨a', c', e', X.els ++ [yf Y], tl⟩ : TL τ) :: blk b (GT.cells (yf Y)) T' :: F) w' := h6.perm (List.Perm.swap _ _ _)
      exact h7.sub ⟨[blk b (GT.cells (yf Y)) T'], by
        show List.Perm _ (([elsT X.els, elsT [yf Y], rowH (⟨a', c', e', X.els ++ [yf Y], tl⟩ : TL τ)] ++ F) ++ [blk b (GT.cells (yf Y)) T'])
        rw [List.append_assoc]
        exact (List.perm_append_comm (l₁ := [blk b (GT.cells (yf Y)) T']) (l₂ := F)).append_left [elsT X.els, elsT [yf Y], rowH (⟨a', c', e', X.els ++ [yf Y], tl⟩ : TL τ)]⟩
    exact (elsT_app h4).perm (List.Perm.swap _ _ _)
end
section
variable {Γ : Cx} {rest : List Oper} {d : Nat} {ty : TypeId} {pos : String} {af : Array Edge}
variable {ops : Array Oper} {Msh pool pool' : List HP} {E : Fl} {rs : List (Option Nat × Rel)} {cs0 : List Nat} {KD : RKont}
variable {τ δ : Type} [GT τ δ]
/-- A new empty slice. -/
theorem D_mk0 (τ : Type) {δ : Type} [GT τ δ] {T e sz by_ : Nat} {z : List Value} (ht : elOf Γ.P T = some (e, sz, by_, z))
    (hk : DV Γ ops Msh pool ((d, OwnV (τ := τ) []) :: E) ((some d, OwnV (τ := τ) []) :: rs) cs0 rest KD) :
    DV Γ ops Msh pool E rs cs0 ({ dst := some d, op := .buildSlice T 0 #[], type := ty, pos := pos, after := af, guard := none } :: rest) KD := by
  refine DV.mk (OwnV (τ := τ) []) [] pool [] (by simp) rfl ?_ (by rw [dropE_nil]; exact hk)
  intro a w F Mk _ _ hw hm hfa hcf
  have hMk : Mk = [] := hcf
  subst hMk
  rw [dropE_nil] at hfa
  rw [if_pos (by simp [Region.wanted])]
  have hw0 : Holds Γ.w0 Γ.S0 F w := by simpa using hw
  have h1 := run_buildSlice0 ht w
  have h2 : (execOp a.eval { dst := some d, op := .buildSlice T 0 #[], type := ty, pos := pos, after := af, guard := none }).run Γ.P w = .ok (.value (.slice (some ⟨w.heap.size, 0, none⟩) 0 0)) (w.alloc (.cells ([] : List Value).toArray e (0, 0))) := by
    simp only [execOp]
    simp [h1]
  rw [h2]
  refine ⟨[treeH (⟨some ⟨w.heap.size, 0, none⟩, 0, e, [], []⟩ : TL τ)], ⟨_, rfl, rfl, rfl⟩, ?_⟩
  have h3 := hw0.new (cs := []) (T := e) (b := w.heap.size) rfl
  refine h3.reFp (List.Perm.of_eq rfl) fun x hx => ?_
  rcases List.mem_cons.1 hx with rfl | hx
  · have hp := h3.prs (blk w.heap.size [] e) (List.mem_cons_self ..)
    refine ⟨Nat.le_refl _, by simp [maxLen], fun x hx => (by cases hx), fun ha => (by cases ha), fun a ha => ?_⟩
    cases ha
    exact ⟨rfl, rfl, hp, by simp⟩
  · exact h3.prs x (List.mem_cons_of_mem _ hx)
/-- append of what can be read to a slice that was made in the region. -/
theorem D_appTO [FlatT τ] {x : Operand} {t T e sz by_ : Nat} {z : List Value} {Y : TL τ} {ra r : List δ}
    (hs : E.lookup t = some (OwnV (τ := τ) ra)) (hx : OpV (dropE [t] E) x True Y.hdr) (ht : elOf Γ.P T = some (e, sz, by_, z)) (hsz : GT.sz τ = sz) (hz : z.length = sz)
    (hsrc : RdT Γ Msh Y) (hr : appP ra (GT.dat Y) = some r) (hb : by_ ≤ 32768)
    (hlin : linB ops { dst := some d, op := .call { callee := .builtin .append, args := #[.tmp t, x], argTypes := #[T, T] }, type := ty, pos := pos, after := af, guard := none } [t] = true)
    (hk : DV Γ ops Msh pool ((d, OwnV (τ := τ) r) :: dropE [t] E) ((some d, OwnV (τ := τ) r) :: rs) ([t] ++ cs0) rest KD) :
    DV Γ ops Msh pool E rs cs0 ({ dst := some d, op := .call { callee := .builtin .append, args := #[.tmp t, x], argTypes := #[T, T] }, type := ty, pos := pos, after := af, guard := none } :: rest) KD := by
  refine DV.mk (OwnV (τ := τ) r) [] pool [t] (by simp) hlin ?_ hk
  intro a w F Mk _ _ hw hm hfa hcf
  obtain ⟨Mx, Mk', rfl, hR, hnil⟩ := hcf
  have hnil : Mk' = [] := hnil
  subst hnil
  obtain ⟨X, hv, hd, rfl⟩ := hR _ hs
  subst hd
  rw [if_pos (by simp [Region.wanted])]
  have e1 : a.eval (.tmp t) = X.hdr := hv
  have e2 := hx.eval hfa (by simp [Op.operands, Call.operands]) trivial
  have hw1 : Holds Γ.w0 Γ.S0 (treeH X :: F) w := by simpa using hw
  obtain ⟨hl, rfl⟩ := appP_some hr
  simp only [dat_els, List.length_map] at hl
  have hY := hsrc w (hw1.seesSub fun h hh => List.mem_cons_of_mem _ (hm h hh))
  cases hya : Y.a with
  | some ad =>
    have hsp : Y.els ≠ [] → ad.spot = none := fun hne => (hY.2.2.2.2 ad hya).1 hne
    have hsrc2 : ∀ j v, (rowCells Y.els)[j]? = some v → w.cell? (ad.add j) = some v := fun j v hv => by
      have hne : Y.els ≠ [] := fun e => by rw [e] at hv; simp [rowCells] at hv
      obtain ⟨b, o, sp⟩ := ad
      have h3 : sp = none := hsp hne
      subst h3
      rw [addr_add]; exact ((hY.2.2.2.2 _ hya).2 j v hv).1
    obtain ⟨a', c', e', tl, w', h1, h2⟩ := append_rowE (P := Γ.P) (c := Y.cap) ht hsz hz (tree_row hw1) hsrc2 hl hb ty
    have h1' : (Builtin.append_ #[T, T] ty #[X.hdr, Y.hdr]).run Γ.P w = .ok (TL.hdr (⟨a', c', e', X.els ++ Y.els, tl⟩ : TL τ)) w' := by
      have : Y.hdr = .slice (some ad) Y.els.length Y.cap := by show Value.slice Y.a _ _ = _; rw [hya]
      rw [this]; exact h1
    have h3 : (execOp a.eval { dst := some d, op := .call { callee := .builtin .append, args := #[.tmp t, x], argTypes := #[T, T] }, type := ty, pos := pos, after := af, guard := none }).run Γ.P w = .ok (.value (TL.hdr (⟨a', c', e', X.els ++ Y.els, tl⟩ : TL τ))) w' := by
      generalize TL.hdr (⟨a', c', e', X.els ++ Y.els, tl⟩ : TL τ) = vv at *
      generalize X.hdr = uu at *
      generalize Y.hdr = yy at *
      simp [execOp, resolve, invoke, builtin, e1, e2, h1']
    rw [h3]
    refine ⟨[treeH (⟨a', c', e', X.els ++ Y.els, tl⟩ : TL τ)], ⟨_, rfl, ?_, rfl⟩, ?_⟩
    · rw [dat_els, List.map_append, dat_els, dat_els]
    · refine row_tree ?_
      have h5 := elsT_flat (xs := Y.els) h2 (fun x _ => FlatT.flat x)
      have h4 : Holds Γ.w0 Γ.S0 (elsT X.els :: elsT Y.els :: rowH (⟨a', c', e', X.els ++ Y.els, tl⟩ : TL τ) :: F) w' :=
        h5.perm (perm_cons (Ms := [elsT Y.els, rowH (⟨a', c', e', X.els ++ Y.els, tl⟩ : TL τ)]) (.there _ (.there _ (.here _))) (perm_cons (.here _) (perm_cons (.here _) (perm_nil_left _))))
      exact (elsT_app h4).perm (List.Perm.swap _ _ _)
  | none =>
    have hye : Y.els = [] := hY.2.2.2.1 hya
    have hr0 : GT.ow w X := hw1.prs _ (List.mem_cons_self ..)
    have h5 : (Builtin.append_ #[T, T] ty #[X.hdr, Y.hdr]).run Γ.P w = .ok X.hdr w := by
      have : Y.hdr = .slice none 0 Y.cap := by show Value.slice Y.a _ _ = _; rw [hya, hye]; rfl
      rw [this]; exact append_none (P := Γ.P) (w := w) (a := X.a) (n := X.els.length) (c := X.cap) (c2 := Y.cap) ht hr0.1 ty
    have h3 : (execOp a.eval { dst := some d, op := .call { callee := .builtin .append, args := #[.tmp t, x], argTypes := #[T, T] }, type := ty, pos := pos, after := af, guard := none }).run Γ.P w = .ok (.value X.hdr) w := by
      generalize X.hdr = uu at *
      generalize Y.hdr = yy at *
      simp [execOp, resolve, invoke, builtin, e1, e2, h5]
    rw [h3]
    exact ⟨[treeH X], ⟨X, rfl, by rw [dat_els Y, hye]; simp, rfl⟩, hw1⟩
end
section
variable {Γ : Cx} {rest : List Oper} {d : Nat} {ty : TypeId} {pos : String} {af : Array Edge} {gd : Option (Nat × Bool)}
variable {ops : Array Oper} {Msh pool pool' : List HP} {E : Fl} {rs : List (Option Nat × Rel)} {cs0 : List Nat} {KD : RKont}
/-- A part that runs where the guard lets it; else a given answer. -/
def gm {α : Type} (g : Bool) (d : α) (o : Option α) : Option α := cond g o (some d)
theorem gm_t {α : Type} {g : Bool} {d y : α} {o : Option α} (h : gm g d o = some y) (hg : g = true) : o = some y := by subst hg; exact h
theorem gm_f {α : Type} {g : Bool} {d y : α} {o : Option α} (h : gm g d o = some y) (hg : ¬ g = true) : y = d := by
  cases g
  · exact (Option.some.inj h).symm
  · exact (hg rfl).elim
@[simp] theorem gm_true {α : Type} {d : α} {o : Option α} : gm true d o = o := rfl
@[simp] theorem gm_false {α : Type} {d : α} {o : Option α} : gm false d o = some d := rfl
/-- A call under a guard that is given memory. -/
theorem D_callMg {f : Nat} {xs : List Operand} {ats : Array TypeId} {vs : List Value} {c : Prop} (R U : Rel) (M1 : List HP) (hp : List.Perm pool (M1 ++ pool'))
    (hg : GC ops E { dst := some d, op := .call { callee := .value (.func f), args := xs.toArray, argTypes := ats }, type := ty, pos := pos, after := af, guard := gd } c)
    (hf : IsFn Γ.P f) (hx : OpVs E c xs vs) (hc : c → ∀ w F, Holds Γ.w0 Γ.S0 (M1 ++ F) w → (∀ h, h ∈ Msh → h ∈ F) → Spec Γ.P f vs.toArray w M1 R)
    (h1 : c → ∀ v M, R v M → U v M) (h0 : ¬ c → U undef M1)
    (hk : DV Γ ops Msh pool' ((d, U) :: E) ((some d, U) :: rs) cs0 rest KD) :
    DV Γ ops Msh pool E rs cs0 ({ dst := some d, op := .call { callee := .value (.func f), args := xs.toArray, argTypes := ats }, type := ty, pos := pos, after := af, guard := gd } :: rest) KD := by
  refine DV.mk U M1 pool' [] hp rfl ?_ (by rw [dropE_nil]; exact hk)
  intro a w F Mk _ _ hw hm hfa hcf
  have hMk : Mk = [] := hcf
  subst hMk
  rw [dropE_nil] at hfa
  simp only [List.nil_append] at hw ⊢
  have hgc := hg a F hfa
  split
  · rename_i hwt
    have hcc := hgc.1 hwt
    have h2 : (#[] ++ xs.toArray.map a.eval ++ #[] : Array Value) = vs.toArray := by
      simp [OpVs.evals (o := { dst := some d, op := .call { callee := .value (.func f), args := xs.toArray, argTypes := ats }, type := ty, pos := pos, after := af, guard := gd }) hcc hfa xs vs hx (fun x hx => by simp [Op.operands, Call.operands, hx])]
    rw [execOp_call_go, h2, hf.run]
    exact (hc hcc w F hw hm (Holds.split hw)).mono fun e w'' ⟨v, M', h1', h3, h4⟩ => ⟨v, M', h1', h1 hcc v M' h3, Holds.frame hw h4⟩
  · rename_i hwt
    have hn : ¬ c := fun hc => hwt (hgc.2 hc)
    simpa using h0 hn
end
section
variable {Γ : Cx} {rest : List Oper} {d : Nat} {ty : TypeId} {pos : String} {af : Array Edge}
variable {ops : Array Oper} {Msh pool pool' : List HP} {E : Fl} {rs : List (Option Nat × Rel)} {cs0 : List Nat} {KD : RKont}
variable {τ δ : Type} [GT τ δ]
/-- append of one element that owns nothing, though its type may. -/
theorem D_app1Y {s : Operand} {t T e sz by_ : Nat} {z : List Value} {X : TL τ} {T' : TypeId} (y : τ) (hy : Flat y) {r : List δ}
    (hs : OpV (dropE [t] E) s True X.hdr) (hx : E.lookup t = some (RowV (GT.cells y) T')) (ht : elOf Γ.P T = some (e, sz, by_, z)) (hsz : GT.sz τ = sz) (hz : z.length = sz)
    (hp : Pick (treeH X) pool pool') (hr : appP (GT.dat X) [GT.dat y] = some r) (hb : by_ ≤ 32768)
    (hlin : linB ops { dst := some d, op := .call { callee := .builtin .append, args := #[s, .tmp t], argTypes := #[T, T] }, type := ty, pos := pos, after := af, guard := none } [t] = true)
    (hk : DV Γ ops Msh pool' ((d, OwnV (τ := τ) r) :: dropE [t] E) ((some d, OwnV (τ := τ) r) :: rs) ([t] ++ cs0) rest KD) :
    DV Γ ops Msh pool E rs cs0 ({ dst := some d, op := .call { callee := .builtin .append, args := #[s, .tmp t], argTypes := #[T, T] }, type := ty, pos := pos, after := af, guard := none } :: rest) KD := by
  refine DV.mk (OwnV (τ := τ) r) ([treeH X]) pool' ([t]) hp.perm hlin ?_ hk
  intro a w F Mk _ _ hw hm hfa hcf
  obtain ⟨Mx, Mk', rfl, hR, hnil⟩ := hcf
  have hnil : Mk' = [] := hnil
  subst hnil
  obtain ⟨b, hv, rfl⟩ := hR _ hx
  rw [if_pos (by simp [Region.wanted])]
  have e1 := hs.eval hfa (by simp [Op.operands, Call.operands]) trivial
  have e2 : a.eval (.tmp t) = .slice (some ⟨b, 0, none⟩) 1 1 := hv
  obtain ⟨hl, rfl⟩ := appP_some hr
  simp only [dat_els, List.length_map, List.length_cons, List.length_nil] at hl
  have hw1 : Holds Γ.w0 Γ.S0 (treeH X :: blk b (GT.cells y) T' :: F) w := by simpa using hw
  have hsrc : ∀ j v, (rowCells [y])[j]? = some v → w.cell? ((⟨b, 0, none⟩ : Addr).add j) = some v := fun j v hv => by
    rw [addr_add]
    exact RdC.blk (Γ := Γ) (M := treeH X :: blk b (GT.cells y) T' :: F) (List.mem_cons_of_mem _ (List.mem_cons_self ..)) w hw1.sees j v (by simpa [rowCells] using hv)
  obtain ⟨a', c', e', tl, w', h1, h2⟩ := append_rowE (P := Γ.P) (c := 1) ht hsz hz (tree_row hw1) hsrc (by simpa using hl) hb ty
  have h1' : (Builtin.append_ #[T, T] ty #[X.hdr, .slice (some ⟨b, 0, none⟩) 1 1]).run Γ.P w = .ok (TL.hdr (⟨a', c', e', X.els ++ [y], tl⟩ : TL τ)) w' := h1
  have h3 : (execOp a.eval { dst := some d, op := .call { callee := .builtin .append, args := #[s, .tmp t], argTypes := #[T, T] }, type := ty, pos := pos, after := af, guard := none }).run Γ.P w = .ok (.value (TL.hdr (⟨a', c', e', X.els ++ [y], tl⟩ : TL τ))) w' := by
    generalize TL.hdr (⟨a', c', e', X.els ++ [y], tl⟩ : TL τ) = vv at *
    generalize X.hdr = uu at *
    simp [execOp, resolve, invoke, builtin, e1, e2, h1']
  rw [h3]
  refine ⟨[treeH (⟨a', c', e', X.els ++ [y], tl⟩ : TL τ)], ⟨_, rfl, ?_, rfl⟩, ?_⟩
  · rw [dat_els, List.map_append]; rfl
  · refine row_tree ?_
    have h4 : Holds Γ.w0 Γ.S0 (elsT X.els :: elsT [y] :: rowH (⟨a', c', e', X.els ++ [y], tl⟩ : TL τ) :: F) w' := by
      have h5 := elsT_flat (xs := [y]) h2 (fun x hx => by obtain rfl := List.mem_singleton.1 hx; exact hy)
      have h6 : Holds Γ.w0 Γ.S0 (elsT X.els :: elsT [y] :: rowH (⟨a', c', e', X.els ++ [y], tl⟩ : TL τ) :: blk b (GT.cells y) T' :: F) w' :=
        h5.perm (((List.Perm.swap _ _ _).cons _).trans (List.Perm.swap _ _ _))
      exact h6.sub ⟨[blk b (GT.cells y) T'], by
        show List.Perm _ (([elsT X.els, elsT [y], rowH (⟨a', c', e', X.els ++ [y], tl⟩ : TL τ)] ++ F) ++ [blk b (GT.cells y) T'])
        rw [List.append_assoc]
        exact (List.perm_append_comm (l₁ := [blk b (GT.cells y) T']) (l₂ := F)).append_left [elsT X.els, elsT [y], rowH (⟨a', c', e', X.els ++ [y], tl⟩ : TL τ)]⟩
    exact (elsT_app h4).perm (List.Perm.swap _ _ _)
end
section
variable {Γ : Cx} {rest : List Oper} {d : Nat} {ty : TypeId} {pos : String} {af : Array Edge} {gd : Option (Nat × Bool)}
variable {ops : Array Oper} {Msh pool pool' : List HP} {E : Fl} {rs : List (Option Nat × Rel)} {cs0 : List Nat} {KD : RKont}
variable {τ δ : Type} [GT τ δ]
end
end Go.Proofs.SL
namespace Go.Proofs.SL
open Go
/-! Facts of a program's tables, found by their places -/
class FldF (P : Program) (T f : Nat) (o : outParam Nat) : Prop where h : fldOf P T f = some o
class OneF (P : Program) (T : Nat) : Prop where h : oneOf P T = true
class AggF (P : Program) (T : Nat) (n : outParam Nat) : Prop where h : aggOf P T = some n
class ElF (P : Program) (T : Nat) (e sz by_ : outParam Nat) (z : outParam (List Value)) : Prop where h : elOf P T = some (e, sz, by_, z)
class ZerF (P : Program) (T : Nat) (z : outParam (List Value)) : Prop where h : zeroOf P T = some z
class StrF (P : Program) (T : Nat) : Prop where h : isStr P T = true
class FnF (P : Program) (f : Nat) : Prop where h : IsFn P f
class BldF (P : Program) (T : Nat) (pl : outParam (List (Nat × Nat))) (z : outParam (List Value)) : Prop where h : bldOf P T = some (pl, z)
class UndF (P : Program) (T : Nat) (d : outParam TypeDesc) : Prop where h : P.underlying T = some d
/-! Parts and slots -/
theorem ba {α β : Type} {o : Option α} {k : α → Option β} {r : β} (h : Option.bind o k = some r) : ∃ y, o = some y ∧ k y = some r := bind_any h
theorem pk {h : HP} {M M' : List HP} (p : Pick h M M' := by first | (with_reducible repeat (first | exact Pick.here _ | apply Pick.there)); done | (repeat (first | exact Pick.here _ | apply Pick.there))) : Pick h M M' := p
theorem mm {h : HP} {M : List HP} (p : h ∈ M := by first | (with_reducible repeat (first | exact List.Mem.head _ | apply List.Mem.tail)); done | (repeat (first | exact List.Mem.head _ | apply List.Mem.tail))) : h ∈ M := p
theorem sb {l' l : Envl} (h : Sub l' l := by repeat (first | exact Sub.nil _ | (apply Sub.cons; (· exact rfl)))) : Sub l' l := h
theorem ms {M' M : List HP} (h : MSub M' M := by repeat (first | exact MSub.nil _ | (apply MSub.cons; (· exact pk)))) : MSub M' M := h
theorem pc {M Ms R : List HP} (h : List.Perm M (Ms ++ R) := by repeat (first | exact perm_nil_left _ | (apply perm_cons; (· exact pk)))) : List.Perm M (Ms ++ R) := h
theorem bv {P : Program} {op : BinOp} {T : TypeId} {x y : Operand} {u v r : Value} (h : BinV P op T x y u v r := by
  first
    | (with_reducible first | exact bv_add | exact bv_eql | exact bv_lss | exact bv_sub | exact bv_neq | exact bv_geq | exact bv_gtr | exact bv_leq | exact bv_seql | exact bv_sneq | exact bv_slss | exact bv_sgeq | exact bv_sgtr | exact bv_sleq | exact bv_mul | exact bv_and | exact bv_or | exact bv_xor)
    | ((with_reducible refine bv_beql ?_); exact UndF.h) | ((with_reducible refine bv_bneq ?_); exact UndF.h) | ((with_reducible refine bv_quo ?_); decide) | ((with_reducible refine bv_rem ?_); decide)
    | ((with_reducible refine bv_shl ?_ ?_) <;> decide) | ((with_reducible refine bv_shr ?_ ?_) <;> decide)) : BinV P op T x y u v r := h
theorem ocs {cs : List Value} (h : ∀ v, v ∈ cs → v.oneCell' = true := by first | exact allOne rfl | exact fun v hv => GT.one _ v hv | (simp [Value.oneCell', TL.hdr, Value.cells]; done)) : ∀ v, v ∈ cs → v.oneCell' = true := h
section
variable {Γ : Cx} {l : Envl} {M M' : List HP} {Q : Post} {K : Kont} {rest : List Oper} {d : Nat} {ty : TypeId} {pos : String} {af : Array Edge}
inductive Kp : List Nat → Envl → Envl → Prop
  | nil (l : Envl) : Kp [] l []
  | cons {t : Nat} {v : Value} {ts : List Nat} {l l' : Envl} (h : l.lookup t = some v) (hk : Kp ts l l') : Kp (t :: ts) l ((t, v) :: l')
theorem Kp.sub {ts : List Nat} {l l' : Envl} (h : Kp ts l l') : Sub l' l := by
  induction h with
  | nil l => exact Sub.nil _
  | cons h _ ih => exact Sub.cons h ih
/-- Some slots are kept. -/
theorem kp (ts : List Nat) {c : Code} {l' : Envl} (k : W Γ c l' M Q) (h : Kp ts l l' := by repeat (first | exact Kp.nil _ | (apply Kp.cons; (· exact rfl)))) : W Γ c l M Q := W_weaken h.sub (MSub.refl _) k
theorem kq (ts : List Nat) {c : Code} {l' : Envl} (k : W Γ c l' M' Q) (h : Kp ts l l' := by repeat (first | exact Kp.nil _ | (apply Kp.cons; (· exact rfl)))) (hm : M = M' := by (try simp only [List.cons_append, List.nil_append]); exact rfl) : W Γ c l M Q := W_weaken h.sub (hm ▸ MSub.refl _) k
theorem al {T : TypeId} {z : List Value} [hz : ZerF Γ.P T z] (hk : ∀ b, L Γ rest ((d, .pointer (some ⟨b, 0, none⟩)) :: l) (blk b z T :: M) K) (hn : Nat.blt d Γ.n = true := by exact rfl) :
    L Γ ({ dst := some d, op := .alloc T, type := ty, pos, after := af, guard := none } :: rest) l M K := L_alloc hn hz.h hk
theorem bx {x : Operand} {T : TypeId} {v : Value} (hk : ∀ b, L Γ rest ((d, .pointer (some ⟨b, 0, none⟩)) :: l) (blk b v.cells.toList T :: M) K) (hn : Nat.blt d Γ.n = true := by exact rfl) (hx : ev l x = some v := by exact rfl) :
    L Γ ({ dst := some d, op := .box T x, type := ty, pos, after := af, guard := none } :: rest) l M K := L_box hn hx hk
end
section
variable {w0 w : World} {S0 : List Nat} {M M' M1 M2 : List HP}
/-- A tree made of parts that are there; what is left. -/
def Own {τ δ : Type} [GT τ δ] (M : List HP) (t : τ) (M' : List HP) : Prop := ∀ (w0 : World) (S0 : List Nat) (w : World) (F : List HP), Holds w0 S0 (M ++ F) w → Holds w0 S0 (treeH t :: (M' ++ F)) w
theorem own_pick {τ δ : Type} [GT τ δ] {t : τ} (p : Pick (treeH t) M M') : Own M t M' := fun _ _ _ F h => h.perm (p.perm.append_right F)
theorem own_flat {τ δ : Type} [GT τ δ] {t : τ} (p : Flat t) : Own M t M := fun _ _ _ _ h => h.addFlat p
theorem own_int {n : Int} : Own M n M := own_flat (flat_int trivial)
theorem own_bool {n : Bool} : Own M n M := own_flat (flat_bool _)
theorem own_str {n : ByteArray} : Own M n M := own_flat (flat_str trivial)
theorem own_nil {τ δ : Type} [GT τ δ] {e : TypeId} : Own M (TL.nil τ e) M := own_flat (flat_nil e)
theorem own_pair {α β δ ε : Type} [GT α δ] [GT β ε] {a : α} {b : β} (ha : Own M a M1) (hb : Own M1 b M2) : Own M (a, b) M2 := fun w0 S0 w F h => by
  have h1 := ha w0 S0 w F h
  have h2 : Holds w0 S0 (M1 ++ (treeH a :: F)) w := h1.perm List.perm_middle.symm
  have h3 := hb w0 S0 w _ h2
  have h4 : Holds w0 S0 (treeH a :: treeH b :: (M2 ++ F)) w := h3.perm ((List.perm_middle.cons _).trans (List.Perm.swap _ _ _))
  exact pair_tree h4
theorem ow {τ δ : Type} [GT τ δ] {t : τ} (o : Own M t M' := by repeat (first | (with_reducible exact own_int) | (with_reducible exact own_bool) | (with_reducible exact own_str) | (with_reducible exact own_nil) | (with_reducible apply own_pair) | ((with_reducible apply own_pick); exact pk))) : Own M t M' := o
theorem Own.h {τ δ : Type} [GT τ δ] {t : τ} (o : Own M t M') (h : Holds w0 S0 M w) : Holds w0 S0 (treeH t :: M') w := by
  have := o w0 S0 w [] (by simpa using h)
  simpa using this
/-- A tree taken apart. -/
def Exp {τ δ : Type} [GT τ δ] (t : τ) (M M' : List HP) : Prop := ∀ (w0 : World) (S0 : List Nat) (w : World) (F : List HP), Holds w0 S0 (treeH t :: (M ++ F)) w → Holds w0 S0 (M' ++ F) w
theorem exp_flat {τ δ : Type} [GT τ δ] {t : τ} : Exp t M M := fun _ _ _ F h => h.sub ⟨[treeH t], List.perm_append_comm (l₁ := [treeH t]) (l₂ := M ++ F)⟩
theorem exp_int {n : Int} : Exp n M M := exp_flat
theorem exp_bool {n : Bool} : Exp n M M := exp_flat
theorem exp_str {n : ByteArray} : Exp n M M := exp_flat
theorem exp_leaf {τ δ : Type} [GT τ δ] {t : TL τ} : Exp t M (treeH t :: M) := fun _ _ _ _ h => h
theorem exp_pair {α β δ ε : Type} [GT α δ] [GT β ε] {a : α} {b : β} (hb : Exp b M M1) (ha : Exp a M1 M2) : Exp (a, b) M M2 := fun w0 S0 w F h => by
  have h1 := tree_pair h
  have h2 : Holds w0 S0 (treeH b :: (M ++ (treeH a :: F))) w := h1.perm ((List.Perm.swap _ _ _).trans (List.perm_middle.symm.cons _))
  have h3 := hb w0 S0 w _ h2
  exact ha w0 S0 w F (h3.perm List.perm_middle)
theorem ex {τ δ : Type} [GT τ δ] {t : τ} (o : Exp t M M' := by repeat (first | (with_reducible exact exp_int) | (with_reducible exact exp_bool) | (with_reducible exact exp_str) | (with_reducible apply exp_pair) | (with_reducible exact exp_leaf))) : Exp t M M' := o
theorem Exp.h {τ δ : Type} [GT τ δ] {t : τ} (o : Exp t M1 M') (p : Pick (treeH t) M M1) (h : Holds w0 S0 M w) : Holds w0 S0 M' w := by
  have := o w0 S0 w [] (by simpa using h.perm p.perm)
  simpa using this
variable {Γ : Cx} {l : Envl} {Q : Post} {K : Kont} {c : Code} {r : List Oper}
theorem jW {τ δ : Type} [GT τ δ] (t : τ) (k : W Γ c l (treeH t :: M') Q) (o : Own M t M' := by exact ow) : W Γ c l M Q := W_conv (fun _ h => o.h h) k
theorem jL {τ δ : Type} [GT τ δ] (t : τ) (k : L Γ r l (treeH t :: M') K) (o : Own M t M' := by exact ow) : L Γ r l M K := L_conv (fun _ h => o.h h) k
theorem xW {τ δ : Type} [GT τ δ] (t : τ) (k : W Γ c l M' Q) (p : Pick (treeH t) M M1 := by exact pk) (o : Exp t M1 M' := by exact ex) : W Γ c l M Q := W_conv (fun _ h => o.h p h) k
theorem xL {τ δ : Type} [GT τ δ] (t : τ) (k : L Γ r l M' K) (p : Pick (treeH t) M M1 := by exact pk) (o : Exp t M1 M' := by exact ex) : L Γ r l M K := L_conv (fun _ h => o.h p h) k
end
theorem dd {a b : Prop} (h : a) (e : a → b := by (intro h; (try dsimp only [dat_pair, dat_int, dat_bool, dat_str, dat_ar] at h); exact h)) : b := e h
theorem sc {p q : Prop} (k : q) (e : q → p := by (intro k; (simp only [cells_pair, cells_int, cells_bool, cells_str, cells_TL, List.cons_append, List.nil_append]); exact k)) : p := e k
section
variable {ops : Array Oper} {E : Fl}
theorem gc {o : Oper} {c : Prop} (h : GC ops E o c := by first | exact GC.none | exact GC.some rfl rfl) : GC ops E o c := h
theorem ov {x : Operand} {c : Prop} {v : Value} (h : OpV E x c v := by first | exact OpV.c | exact OpV.t rfl | exact OpV.s rfl) : OpV E x c v := h
end
theorem L_extractL {Γ : Cx} {l : Envl} {M : List HP} {K : Kont} {rest : List Oper} {d : Nat} {ty : TypeId} {pos : String} {af : Array Edge} {x : Operand} {i : Nat} {vs : List Value} {v : Value} (hn : Nat.blt d Γ.n = true) (hx : ev l x = some (.tuple vs.toArray)) (hv : vs[i]? = some v) (hk : L Γ rest ((d, v) :: l) M K) :
    L Γ ({ dst := some d, op := .extract x i, type := ty, pos, after := af, guard := none } :: rest) l M K := L_extract hn hx (by simpa using hv) hk
theorem isLen {Γ : Cx} {l : Envl} {M : List HP} {K : Kont} {rest : List Oper} {d : Option Nat} {ty : TypeId} {pos : String} {af : Array Edge} {g : Option (Nat × Bool)} {x : Array Operand} {T : Array TypeId} (h : L Γ ({ dst := d, op := .call { callee := .builtin .len, args := x, argTypes := T }, type := ty, pos := pos, after := af, guard := g } :: rest) l M K) :
    L Γ ({ dst := d, op := .call { callee := .builtin .len, args := x, argTypes := T }, type := ty, pos := pos, after := af, guard := g } :: rest) l M K := h
section
variable {Γ : Cx} {l : Envl} {M : List HP} {K : Kont} {Q : Post} {c : Code} {r : List Oper} {ops : Array Oper} {Msh pool : List HP} {E : Fl} {rs : List (Option Nat × Rel)} {cs0 : List Nat} {KD : RKont}
theorem isL (h : L Γ r l M K) : L Γ r l M K := h
theorem isW (h : W Γ c l M Q) : W Γ c l M Q := h
theorem isD (h : DV Γ ops Msh pool E rs cs0 r KD) : DV Γ ops Msh pool E rs cs0 r KD := h
end
/-- One step that needs no word. -/
theorem s1 {p q : Prop} (k : q) (h : q → p := by
  intro k
  (first
    | (with_reducible refine isL ?_); (first
      | (with_reducible apply L_move); (· exact rfl); (· exact rfl)
      | (with_reducible apply L_assign); (· exact rfl); (· exact rfl)
      | (with_reducible refine L_nil ?_)
      | (with_reducible apply L_binV); (· exact rfl); (· exact rfl); (· exact rfl); (· exact bv)
      | (with_reducible apply L_fieldAddr); (· exact rfl); (· exact rfl); (· exact FldF.h)
      | (with_reducible apply L_load); (· exact rfl); (· exact rfl); (· exact RdC.blk mm); (· exact OneF.h); (· exact rfl)
      | (with_reducible apply L_loadW); (· exact rfl); (· exact rfl); (· exact RdC.blk mm); (· exact AggF.h)
      | (with_reducible apply L_extractL); (· exact rfl); (· exact rfl); (· exact rfl)
      | (with_reducible apply L_store); (· exact rfl); (· exact rfl); (· exact pk); (· exact OneF.h); (· exact rfl); (· exact rfl)
      | (with_reducible apply L_storeW); (· exact rfl); (· exact rfl); (· exact pk); (· exact AggF.h); (· exact rfl); (· exact ocs)
      | (with_reducible refine isLen ?_); (first | refine L_lenT rfl rfl StrF.h ?_ | refine L_lenP rfl rfl ElF.h ?_)
      | (with_reducible apply L_not); (· exact rfl); (· exact rfl)
      | (with_reducible apply L_nilCheck); (· exact rfl); (· exact rfl))
    | (with_reducible refine isW ?_); (first
      | (with_reducible refine W_seq ?_)
      | (with_reducible refine W_region ?_)
      | (with_reducible refine W_skip ?_)
      | (with_reducible refine W_block ?_)
      | (with_reducible refine W_ret ?_))
    | (with_reducible refine isD ?_); (first
      | (with_reducible apply D_move); (· exact gc); (· exact ov)
      | (with_reducible apply D_fieldAddr); (· exact gc); (· exact ov); (· exact FldF.h)
      | (with_reducible apply D_load); (· exact gc); (· exact ov); (· exact fun _ => RdC.blk mm); (· exact OneF.h); (· exact rfl)
      | (with_reducible apply D_bin); (· exact gc); (· exact ov); (· exact ov); (· exact fun _ => bv)
      | (with_reducible apply D_and); (· exact gc); (· exact ov); (· exact ov); (· exact fun h hb => ⟨h, hb⟩)
      | (with_reducible apply D_or); (· exact gc); (· exact ov); (· exact ov); (· exact fun h hb => ⟨h, hb⟩)
      | (with_reducible apply D_loadW); (· exact gc); (· exact ov); (· exact fun _ => RdC.blk mm); (· exact AggF.h)
      | (with_reducible apply D_assign); (· exact gc); (· exact ov)
      | (with_reducible apply D_not); (· exact gc); (· exact ov)
      | (with_reducible apply D_nilCheck); (· exact gc); (· exact ov)
      | (with_reducible refine DV_nil ?_))
    | (with_reducible refine Give_nil ?_)
    | (with_reducible apply Give_drop); (· exact rfl)
    | (with_reducible apply Give_is); (· exact rfl); (· exact rfl)
    | (with_reducible apply Give_cons); (· exact rfl)
    | (with_reducible apply Give_drop')
    | (with_reducible apply Give_st))
  exact k) : p := h k
theorem s2 {p q : Prop} (k : q) (h : q → p := by (intro k; (iterate 2 (refine s1 ?_)); exact k)) : p := h k
theorem s3 {p q : Prop} (k : q) (h : q → p := by (intro k; (iterate 3 (refine s1 ?_)); exact k)) : p := h k
theorem s4 {p q : Prop} (k : q) (h : q → p := by (intro k; (iterate 4 (refine s1 ?_)); exact k)) : p := h k
theorem s5 {p q : Prop} (k : q) (h : q → p := by (intro k; (iterate 5 (refine s1 ?_)); exact k)) : p := h k
theorem s6 {p q : Prop} (k : q) (h : q → p := by (intro k; (iterate 6 (refine s1 ?_)); exact k)) : p := h k
theorem s7 {p q : Prop} (k : q) (h : q → p := by (intro k; (iterate 7 (refine s1 ?_)); exact k)) : p := h k
theorem s8 {p q : Prop} (k : q) (h : q → p := by (intro k; (iterate 8 (refine s1 ?_)); exact k)) : p := h k
theorem s9 {p q : Prop} (k : q) (h : q → p := by (intro k; (iterate 9 (refine s1 ?_)); exact k)) : p := h k
theorem s10 {p q : Prop} (k : q) (h : q → p := by (intro k; (iterate 10 (refine s1 ?_)); exact k)) : p := h k
theorem s11 {p q : Prop} (k : q) (h : q → p := by (intro k; (iterate 11 (refine s1 ?_)); exact k)) : p := h k
theorem s12 {p q : Prop} (k : q) (h : q → p := by (intro k; (iterate 12 (refine s1 ?_)); exact k)) : p := h k
theorem s13 {p q : Prop} (k : q) (h : q → p := by (intro k; (iterate 13 (refine s1 ?_)); exact k)) : p := h k
theorem s14 {p q : Prop} (k : q) (h : q → p := by (intro k; (iterate 14 (refine s1 ?_)); exact k)) : p := h k
theorem s15 {p q : Prop} (k : q) (h : q → p := by (intro k; (iterate 15 (refine s1 ?_)); exact k)) : p := h k
theorem s16 {p q : Prop} (k : q) (h : q → p := by (intro k; (iterate 16 (refine s1 ?_)); exact k)) : p := h k
theorem s17 {p q : Prop} (k : q) (h : q → p := by (intro k; (iterate 17 (refine s1 ?_)); exact k)) : p := h k
theorem s18 {p q : Prop} (k : q) (h : q → p := by (intro k; (iterate 18 (refine s1 ?_)); exact k)) : p := h k
theorem s19 {p q : Prop} (k : q) (h : q → p := by (intro k; (iterate 19 (refine s1 ?_)); exact k)) : p := h k
theorem s20 {p q : Prop} (k : q) (h : q → p := by (intro k; (iterate 20 (refine s1 ?_)); exact k)) : p := h k
end Go.Proofs.SL
namespace Go.Proofs.SL
open Go
set_option maxHeartbeats 2000000
end Go.Proofs.SL
namespace Go.Proofs.SL
open Go
set_option maxHeartbeats 2000000
theorem mix : Tryz.prog.follows .mixedOrders = true := by kernel_rfl
instance fn66 : FnF Tryz.prog 66 := ⟨⟨_, Tryz.func66, by kernel_rfl, rfl⟩⟩
noncomputable def s_l1In (a0 : Int) (a1 : Int) (a2 : Int) : Option Bool :=
  some ((decide (a1 ≤ a0)) && (decide (a0 ≤ a2)))
theorem s_l1In_walk (w : World) (a0 : Int) (a1 : Int) (a2 : Int)  (r : Bool) (hp : s_l1In a0 a1 a2 = some r) : Spec Tryz.prog 40 [.int .i64 a0, .int .i64 a1, .int .i64 a2].toArray w [] (IsV (.bool r)) := by
  refine Spec.intro Tryz.func40 rfl Tryz.ntmps40 rfl ?_
  unfold s_l1In at hp
  replace hp := dd hp
  refine s5 ?_
  refine W_D0 [6] mix (by kernel_rfl) rfl ?_
  refine s20 ?_
  obtain rfl := Option.some.inj hp
  refine s1 ?_
  refine res1 rfl (ResOK.tmp rfl) ⟨rfl, rfl⟩ ms
noncomputable def i_within (a0 : Int) (a1 : Int) (a2 : Int) : Option Bool :=
  some ((decide (a1 ≤ a0)) && (decide (a0 ≤ a2)))
theorem i_within_walk (w : World) (a0 : Int) (a1 : Int) (a2 : Int)  (r : Bool) (hp : i_within a0 a1 a2 = some r) : Spec Tryz.prog 66 [.int .i64 a0, .int .i64 a1, .int .i64 a2].toArray w [] (IsV (.bool r)) := by
  refine Spec.intro Tryz.func66 rfl Tryz.ntmps66 rfl ?_
  unfold i_within at hp
  replace hp := dd hp
  refine s5 ?_
  refine W_D0 [6] mix (by kernel_rfl) rfl ?_
  refine s20 ?_
  obtain rfl := Option.some.inj hp
  refine s1 ?_
  refine res1 rfl (ResOK.tmp rfl) ⟨rfl, rfl⟩ ms
noncomputable def s_l9Node (a0 : Int) : Option Bool :=
  some ((decide (0 ≤ a0)) && (decide (a0 < 3)))
theorem s_l9Node_walk (w : World) (a0 : Int)  (r : Bool) (hp : s_l9Node a0 = some r) : Spec Tryz.prog 41 [.int .i64 a0].toArray w [] (IsV (.bool r)) := by
  refine Spec.intro Tryz.func41 rfl Tryz.ntmps41 rfl ?_
  unfold s_l9Node at hp
  replace hp := dd hp
  refine s5 ?_
  refine W_D0 [2] mix (by kernel_rfl) rfl ?_
  refine s16 ?_
  obtain rfl := Option.some.inj hp
  refine s1 ?_
  refine res1 rfl (ResOK.tmp rfl) ⟨rfl, rfl⟩ ms
noncomputable def i_isRep (a0 : Int) : Option Bool :=
  Option.bind (i_within a0 0 2) (fun y1 => some y1)
theorem i_isRep_walk (w : World) (a0 : Int)  (r : Bool) (hp : i_isRep a0 = some r) : Spec Tryz.prog 53 [.int .i64 a0].toArray w [] (IsV (.bool r)) := by
  refine Spec.intro Tryz.func53 rfl Tryz.ntmps53 rfl ?_
  unfold i_isRep at hp
  replace hp := dd hp
  refine s7 ?_
  replace hp := ba hp; obtain ⟨y1, hy1, hp⟩ := hp
  refine L_callX rfl fn66.h rfl (by exact fun w hw => i_within_walk w a0 0 2  _ hy1) ?_
  refine s2 ?_
  obtain rfl := Option.some.inj hp
  refine s1 ?_
  refine res1 rfl (ResOK.tmp rfl) ⟨rfl, rfl⟩ ms
end Go.Proofs.SL
namespace Go.Proofs
open Go.Shelf
def Tryz.lays189_ren : Go.Shelf.Ren := ⟨fun | 189 => 74 | 125 => 85 | 257 => 86 | 128 => 104 | 129 => 105 | 294 => 106 | 295 => 107 | 296 => 108 | 297 => 109 | 298 => 110 | 299 => 111 | 216 => 112 | 300 => 113 | 301 => 114 | 328 => 128 | 329 => 123 | 330 => 124 | 331 => 129 | 332 => 130 | 215 => 131 | 343 => 136 | n => n, fun | 28 => 41 | 3 => 3 | 46 => 115 | 0 => 0 | 51 => 133 | 53 => 135 | 4 => 4 | 183 => 125 | 182 => 124 | 131 => 130 | 5 => 5 | 9 => 9 | 218 => 150 | 222 => 154 | 228 => 160 | 229 => 161 | n => n, fun | n => n⟩
theorem Tryz.lays189 : Go.Proofs.Lays.n189 Tryz.prog Tryz.lays189_ren := {
  mixed := by kernel_rfl
  f125 := Tryz.func85.trans (congrArg some (by kernel_rfl))
  f128 := Tryz.func104.trans (congrArg some (by kernel_rfl))
  f129 := Tryz.func105.trans (congrArg some (by kernel_rfl))
  f189 := Tryz.func74.trans (congrArg some (by kernel_rfl))
  f215 := Tryz.func131.trans (congrArg some (by kernel_rfl))
  f216 := Tryz.func112.trans (congrArg some (by kernel_rfl))
  f257 := Tryz.func86.trans (congrArg some (by kernel_rfl))
  f294 := Tryz.func106.trans (congrArg some (by kernel_rfl))
  f295 := Tryz.func107.trans (congrArg some (by kernel_rfl))
  f296 := Tryz.func108.trans (congrArg some (by kernel_rfl))
  f297 := Tryz.func109.trans (congrArg some (by kernel_rfl))
  f298 := Tryz.func110.trans (congrArg some (by kernel_rfl))
  f299 := Tryz.func111.trans (congrArg some (by kernel_rfl))
  f300 := Tryz.func113.trans (congrArg some (by kernel_rfl))
  f301 := Tryz.func114.trans (congrArg some (by kernel_rfl))
  f328 := Tryz.func128.trans (congrArg some (by kernel_rfl))
  f329 := Tryz.func123.trans (congrArg some (by kernel_rfl))
  f330 := Tryz.func124.trans (congrArg some (by kernel_rfl))
  f331 := Tryz.func129.trans (congrArg some (by kernel_rfl))
  f332 := Tryz.func130.trans (congrArg some (by kernel_rfl))
  f343 := Tryz.func136.trans (congrArg some (by kernel_rfl))
  t0 := Tryz.underlying0
  a0 := Tryz.isAgg0
  z0 := Tryz.sizeOf0
  v0 := Tryz.zeroValue0
  t3 := Tryz.underlying3
  a3 := Tryz.isAgg3
  z3 := Tryz.sizeOf3
  v3 := Tryz.zeroValue3
  t4 := Tryz.underlying4
  a4 := Tryz.isAgg4
  z4 := Tryz.sizeOf4
  v4 := Tryz.zeroValue4
  t5 := Tryz.underlying5
  a5 := Tryz.isAgg5
  z5 := Tryz.sizeOf5
  v5 := Tryz.zeroValue5
  t9 := Tryz.underlying9
  a9 := Tryz.isAgg9
  z9 := Tryz.sizeOf9
  v9 := Tryz.zeroValue9
  t28 := Tryz.underlying41
  a28 := Tryz.isAgg41
  z28 := Tryz.sizeOf41
  v28 := Tryz.zeroValue41
  t46 := Tryz.underlying115
  a46 := Tryz.isAgg115
  z46 := Tryz.sizeOf115
  v46 := Tryz.zeroValue115
  t51 := Tryz.underlying133
  a51 := Tryz.isAgg133
  z51 := Tryz.sizeOf133
  v51 := Tryz.zeroValue133
  t53 := Tryz.underlying135
  a53 := Tryz.isAgg135
  z53 := Tryz.sizeOf135
  v53 := Tryz.zeroValue135
  t131 := Tryz.underlying130
  a131 := Tryz.isAgg130
  z131 := Tryz.sizeOf130
  v131 := Tryz.zeroValue130
  t182 := Tryz.underlying124
  a182 := Tryz.isAgg124
  z182 := Tryz.sizeOf124
  v182 := Tryz.zeroValue124
  t183 := Tryz.underlying125
  a183 := Tryz.isAgg125
  z183 := Tryz.sizeOf125
  v183 := Tryz.zeroValue125
  t218 := Tryz.underlying150
  a218 := Tryz.isAgg150
  z218 := Tryz.sizeOf150
  v218 := Tryz.zeroValue150
  t222 := Tryz.underlying154
  a222 := Tryz.isAgg154
  z222 := Tryz.sizeOf154
  v222 := Tryz.zeroValue154
  t228 := Tryz.underlying160
  a228 := Tryz.isAgg160
  z228 := Tryz.sizeOf160
  v228 := Tryz.zeroValue160
  t229 := Tryz.underlying161
  a229 := Tryz.isAgg161
  z229 := Tryz.sizeOf161
  v229 := Tryz.zeroValue161 }
def Tryz.lays190_ren : Go.Shelf.Ren := ⟨fun | 190 => 69 | 125 => 85 | 258 => 84 | 128 => 104 | 129 => 105 | 302 => 95 | 303 => 96 | 304 => 97 | 305 => 98 | 306 => 99 | 307 => 100 | 308 => 101 | 309 => 102 | 310 => 103 | 333 => 122 | 329 => 123 | 330 => 124 | 334 => 125 | 335 => 126 | 336 => 127 | 344 => 135 | n => n, fun | 31 => 32 | 9 => 9 | 3 => 3 | 46 => 115 | 0 => 0 | 51 => 133 | 53 => 135 | 4 => 4 | 183 => 125 | 182 => 124 | 131 => 130 | 5 => 5 | 218 => 150 | 222 => 154 | 228 => 160 | 229 => 161 | n => n, fun | n => n⟩
theorem Tryz.lays190 : Go.Proofs.Lays.n190 Tryz.prog Tryz.lays190_ren := {
  mixed := by kernel_rfl
  f125 := Tryz.func85.trans (congrArg some (by kernel_rfl))
  f128 := Tryz.func104.trans (congrArg some (by kernel_rfl))
  f129 := Tryz.func105.trans (congrArg some (by kernel_rfl))
  f190 := Tryz.func69.trans (congrArg some (by kernel_rfl))
  f258 := Tryz.func84.trans (congrArg some (by kernel_rfl))
  f302 := Tryz.func95.trans (congrArg some (by kernel_rfl))
  f303 := Tryz.func96.trans (congrArg some (by kernel_rfl))
  f304 := Tryz.func97.trans (congrArg some (by kernel_rfl))
  f305 := Tryz.func98.trans (congrArg some (by kernel_rfl))
  f306 := Tryz.func99.trans (congrArg some (by kernel_rfl))
  f307 := Tryz.func100.trans (congrArg some (by kernel_rfl))
  f308 := Tryz.func101.trans (congrArg some (by kernel_rfl))
  f309 := Tryz.func102.trans (congrArg some (by kernel_rfl))
  f310 := Tryz.func103.trans (congrArg some (by kernel_rfl))
  f329 := Tryz.func123.trans (congrArg some (by kernel_rfl))
  f330 := Tryz.func124.trans (congrArg some (by kernel_rfl))
  f333 := Tryz.func122.trans (congrArg some (by kernel_rfl))
  f334 := Tryz.func125.trans (congrArg some (by kernel_rfl))
  f335 := Tryz.func126.trans (congrArg some (by kernel_rfl))
  f336 := Tryz.func127.trans (congrArg some (by kernel_rfl))
  f344 := Tryz.func135.trans (congrArg some (by kernel_rfl))
  t0 := Tryz.underlying0
  a0 := Tryz.isAgg0
  z0 := Tryz.sizeOf0
  v0 := Tryz.zeroValue0
  t3 := Tryz.underlying3
  a3 := Tryz.isAgg3
  z3 := Tryz.sizeOf3
  v3 := Tryz.zeroValue3
  t4 := Tryz.underlying4
  a4 := Tryz.isAgg4
  z4 := Tryz.sizeOf4
  v4 := Tryz.zeroValue4
  t5 := Tryz.underlying5
  a5 := Tryz.isAgg5
  z5 := Tryz.sizeOf5
  v5 := Tryz.zeroValue5
  t9 := Tryz.underlying9
  a9 := Tryz.isAgg9
  z9 := Tryz.sizeOf9
  v9 := Tryz.zeroValue9
  t31 := Tryz.underlying32
  a31 := Tryz.isAgg32
  z31 := Tryz.sizeOf32
  v31 := Tryz.zeroValue32
  t46 := Tryz.underlying115
  a46 := Tryz.isAgg115
  z46 := Tryz.sizeOf115
  v46 := Tryz.zeroValue115
  t51 := Tryz.underlying133
  a51 := Tryz.isAgg133
  z51 := Tryz.sizeOf133
  v51 := Tryz.zeroValue133
  t53 := Tryz.underlying135
  a53 := Tryz.isAgg135
  z53 := Tryz.sizeOf135
  v53 := Tryz.zeroValue135
  t131 := Tryz.underlying130
  a131 := Tryz.isAgg130
  z131 := Tryz.sizeOf130
  v131 := Tryz.zeroValue130
  t182 := Tryz.underlying124
  a182 := Tryz.isAgg124
  z182 := Tryz.sizeOf124
  v182 := Tryz.zeroValue124
  t183 := Tryz.underlying125
  a183 := Tryz.isAgg125
  z183 := Tryz.sizeOf125
  v183 := Tryz.zeroValue125
  t218 := Tryz.underlying150
  a218 := Tryz.isAgg150
  z218 := Tryz.sizeOf150
  v218 := Tryz.zeroValue150
  t222 := Tryz.underlying154
  a222 := Tryz.isAgg154
  z222 := Tryz.sizeOf154
  v222 := Tryz.zeroValue154
  t228 := Tryz.underlying160
  a228 := Tryz.isAgg160
  z228 := Tryz.sizeOf160
  v228 := Tryz.zeroValue160
  t229 := Tryz.underlying161
  a229 := Tryz.isAgg161
  z229 := Tryz.sizeOf161
  v229 := Tryz.zeroValue161 }
def Tryz.lays194_ren : Go.Shelf.Ren := ⟨fun | 194 => 70 | n => n, fun | 31 => 32 | 9 => 9 | 3 => 3 | 4 => 4 | 0 => 0 | n => n, fun | n => n⟩
theorem Tryz.lays194 : Go.Proofs.Lays.n194 Tryz.prog Tryz.lays194_ren := {
  mixed := by kernel_rfl
  f194 := Tryz.func70.trans (congrArg some (by kernel_rfl))
  t0 := Tryz.underlying0
  a0 := Tryz.isAgg0
  z0 := Tryz.sizeOf0
  v0 := Tryz.zeroValue0
  t3 := Tryz.underlying3
  a3 := Tryz.isAgg3
  z3 := Tryz.sizeOf3
  v3 := Tryz.zeroValue3
  t4 := Tryz.underlying4
  a4 := Tryz.isAgg4
  z4 := Tryz.sizeOf4
  v4 := Tryz.zeroValue4
  t9 := Tryz.underlying9
  a9 := Tryz.isAgg9
  z9 := Tryz.sizeOf9
  v9 := Tryz.zeroValue9
  t31 := Tryz.underlying32
  a31 := Tryz.isAgg32
  z31 := Tryz.sizeOf32
  v31 := Tryz.zeroValue32 }
end Go.Proofs
namespace Go.Proofs.SL
open Go
set_option maxHeartbeats 2000000
theorem sl_Sort_intint_walk (w : World) (a0 : TL Int) (r : List Int) (hp : sortIP (GT.dat a0) = some r) : Spec Tryz.prog 74 [(TL.hdr a0)].toArray w [treeH a0] (fun v M => ∃ (y0 : TL Int), v = .tuple #[] ∧ GT.dat y0 = r ∧ M = [treeH y0] ∧ y0.hdr = a0.hdr) := Spec.sortI w a0 r hp (Any.slices_Sort_int Tryz.lays189) (Any.slices_Sort_int_none Tryz.lays189)
theorem sl_Sort_stringstring_walk (w : World) (a0 : TL ByteArray) (r : List ByteArray) (hp : sortSP (GT.dat a0) = some r) : Spec Tryz.prog 69 [(TL.hdr a0)].toArray w [treeH a0] (fun v M => ∃ (y0 : TL ByteArray), v = .tuple #[] ∧ GT.dat y0 = r ∧ M = [treeH y0] ∧ y0.hdr = a0.hdr) := Spec.sortS w a0 r hp (Any.slices_Sort_string Tryz.lays190) (Any.slices_Sort_string_none Tryz.lays190)
theorem sl_Compact_stringstring_walk (w : World) (a0 : TL ByteArray) (r : List ByteArray) (hp : compactSP (GT.dat a0) = some r) : Spec Tryz.prog 70 [(TL.hdr a0)].toArray w [treeH a0] (fun v M => ∃ (x0 : TL ByteArray), v = (TL.hdr x0) ∧ GT.dat x0 = r ∧ M = [treeH x0]) := Spec.compactS w a0 r hp (Any.slices_Compact_string Tryz.lays194) (Any.slices_Compact_string_empty Tryz.lays194)
end Go.Proofs.SL
namespace Go.Proofs.SL
open Go
set_option maxHeartbeats 2000000
abbrev T_l1Cur := (TL UInt8) × Int × Int
abbrev D_l1Cur := (List UInt8) × Int × Int
instance el22 : ElF Tryz.prog 22 5 1 1 [.int .u8 0] := ⟨by kernel_rfl⟩
instance one5 : OneF Tryz.prog 5 := ⟨by kernel_rfl⟩
instance und3 : UndF Tryz.prog 3 (.int .i64) := ⟨by kernel_rfl⟩
instance und5 : UndF Tryz.prog 5 (.int .u8) := ⟨by kernel_rfl⟩
instance bld87 : BldF Tryz.prog 87 [(0, 1), (1, 1), (2, 1)] [.slice none 0 0, .int .i64 0, .int .i64 0] := ⟨by kernel_rfl⟩
instance fld87_2 : FldF Tryz.prog 87 2 2 := ⟨by kernel_rfl⟩
instance one3 : OneF Tryz.prog 3 := ⟨by kernel_rfl⟩
instance fld87_1 : FldF Tryz.prog 87 1 1 := ⟨by kernel_rfl⟩
instance fld87_0 : FldF Tryz.prog 87 0 0 := ⟨by kernel_rfl⟩
instance one22 : OneF Tryz.prog 22 := ⟨by kernel_rfl⟩
instance fn77 : FnF Tryz.prog 77 := ⟨⟨_, Tryz.func77, by kernel_rfl, rfl⟩⟩
instance fn56 : FnF Tryz.prog 56 := ⟨⟨_, Tryz.func56, by kernel_rfl, rfl⟩⟩
instance el41 : ElF Tryz.prog 41 3 1 8 [.int .i64 0] := ⟨by kernel_rfl⟩
instance el32 : ElF Tryz.prog 32 9 1 16 [.string ByteArray.empty] := ⟨by kernel_rfl⟩
instance one9 : OneF Tryz.prog 9 := ⟨by kernel_rfl⟩
instance und22 : UndF Tryz.prog 22 (.slice 5) := ⟨by kernel_rfl⟩
instance und9 : UndF Tryz.prog 9 (.string) := ⟨by kernel_rfl⟩
noncomputable def w_big (a0 : List UInt8) : Option Bool :=
  some (decide (1048576 < (a0.length : Int)))
theorem w_big_walk (w : World) (a0 : TL UInt8) (h0 : GT.rd w [] a0) (r : Bool) (hp : w_big (GT.dat a0) = some r) : Spec Tryz.prog 5 [(TL.hdr a0)].toArray w [] (IsV (.bool r)) := by
  refine Spec.intro Tryz.func5 rfl Tryz.ntmps5 rfl ?_
  unfold w_big at hp
  replace hp := dd hp
  refine s11 ?_
  obtain rfl := Option.some.inj hp
  refine s1 ?_
  refine res1 rfl (ResOK.tmp rfl) ⟨rfl, rfl⟩ ms
noncomputable def s_l1New (a0 : List UInt8) : Option D_l1Cur :=
  whileP (fun s1 : Int × Int => cond ((decide (s1.2 < (a0.length : Int))) && (decide (s1.2 < 4000))) (Option.bind (idx a0 s1.2) (fun y3 => some (.inl ((bits .and .i64 (IntKind.wrap .i64 (IntKind.wrap .i64 (IntKind.wrap .i64 (s1.1 * 131) + IntKind.wrap .i64 (y3.toNat : Int)) + 7)) 1073741823, IntKind.wrap .i64 (s1.2 + 1)))))) (Option.map .inr (some (a0, 0, s1.1)))) (IntKind.wrap .i64 (10101 + (a0.length : Int)), 0)
theorem s_l1New_walk (w : World) (a0 : TL UInt8) (h0 : GT.rd w [] a0) (r : D_l1Cur) (hp : s_l1New (GT.dat a0) = some r) : Spec Tryz.prog 26 [(TL.hdr a0)].toArray w [] (fun v M => ∃ (b : Nat) (x0 : T_l1Cur), v = .pointer (some ⟨b, 0, none⟩) ∧ GT.dat x0 = r ∧ M = [blk b (GT.cells x0) 87] ∧ x0.1 = a0) := by
  refine Spec.intro Tryz.func26 rfl Tryz.ntmps26 rfl ?_
  unfold s_l1New at hp
  replace hp := dd hp
  refine s17 ?_
  refine W_while (σ := Int × Int) GT.dat (fun ((v1_0, v1_1) : Int × Int) => [(3, .int .i64 v1_0), (4, .int .i64 v1_1)]) (fun ((v1_0, v1_1) : Int × Int) => []) [(0, _)] [] (IntKind.wrap .i64 (10101 + ((GT.dat a0).length : Int)), 0) hp sb ms ?_
  clear hp
  rintro ⟨v1_0, v1_1⟩ x1 hp hx1
  replace hp := dd hp
  refine kq [0, 3, 4] ?_
  refine s2 ?_
  refine W_D0 [15] mix (by kernel_rfl) rfl ?_
  refine s2 ?_
  refine D_lenP (X := a0) GC.none (OpV.t rfl) el22.h ?_
  refine s15 ?_
  refine kp [0, 3, 4, 15] ?_
  refine W_cond rfl (fun hc2 => ?_) (fun hc2 => ?_)
  · replace hp := cond_t hc2 hp
    refine s8 ?_
    replace hp := idx_bind hp; obtain ⟨u3, hy3, hp⟩ := hp
    refine L_idxA (X := a0) rfl rfl rfl el22.h (RdT.old h0) hy3 ?_
    refine L_load0 rfl rfl (RdT.at (RdT.old h0) (hy3).2) one5.h rfl ?_
    refine L_convInt rfl rfl und3.h (by rw [und5.h]; rfl) ?_
    refine s10 ?_
    exact ⟨(bits .and .i64 (IntKind.wrap .i64 (IntKind.wrap .i64 (IntKind.wrap .i64 (v1_0 * 131) + IntKind.wrap .i64 (u3.toNat : Int)) + 7)) 1073741823, IntKind.wrap .i64 (v1_1 + 1)), sb, (.sub ms), some_eq hp⟩
  · replace hp := cond_f hc2 hp
    refine W_exit ?_
    replace hp := map_any hp; obtain ⟨a4, hp, hx_a4⟩ := hp
    obtain rfl := hx1 _ hx_a4
    refine s4 ?_
    refine L_build (xs := [(0, .tmp 28), (2, .tmp 29)]) (cs := [(TL.hdr a0), .int .i64 0, .int .i64 v1_0]) rfl rfl bld87.h rfl ?_
    refine bx fun bk31 => ?_
    refine s2 ?_
    obtain rfl := Option.some.inj hp
    refine s1 ?_
    refine res1 rfl (ResOK.tmp rfl) ⟨bk31, (a0, 0, v1_0), rfl, rfl, rfl, rfl⟩ ms
noncomputable def s_l1Byte (a0 : D_l1Cur) : Option (Int × D_l1Cur) :=
  cond (decide (a0.2.1 < (a0.1.length : Int))) (Option.bind (idx a0.1 a0.2.1) (fun y2 => some (bits .and .i64 (IntKind.wrap .i64 (bits .and .i64 (bits .xor .i64 (IntKind.wrap .i64 (IntKind.wrap .i64 (a0.2.2 * 6364136223846793005) + 1442695040888963407) / 2 ^ (33 : Int).toNat) (IntKind.wrap .i64 (IntKind.wrap .i64 (a0.2.2 * 6364136223846793005) + 1442695040888963407) / 2 ^ (45 : Int).toNat)) 255 + IntKind.wrap .i64 (y2.toNat : Int))) 255, (a0.1, IntKind.wrap .i64 (a0.2.1 + 1), IntKind.wrap .i64 (IntKind.wrap .i64 (a0.2.2 * 6364136223846793005) + 1442695040888963407))))) (some (bits .and .i64 (bits .xor .i64 (IntKind.wrap .i64 (IntKind.wrap .i64 (a0.2.2 * 6364136223846793005) + 1442695040888963407) / 2 ^ (33 : Int).toNat) (IntKind.wrap .i64 (IntKind.wrap .i64 (a0.2.2 * 6364136223846793005) + 1442695040888963407) / 2 ^ (45 : Int).toNat)) 255, (a0.1, a0.2.1, IntKind.wrap .i64 (IntKind.wrap .i64 (a0.2.2 * 6364136223846793005) + 1442695040888963407))))
theorem s_l1Byte_walk (w : World) (b0_ : Nat) (a0 : T_l1Cur) (h0_0 : GT.rd w (fps [blk b0_ (GT.cells a0) 87]) a0.1) (r : Int × D_l1Cur) (hp : s_l1Byte (GT.dat a0) = some r) : Spec Tryz.prog 77 [Value.pointer (some ⟨b0_, 0, none⟩)].toArray w [blk b0_ (GT.cells a0) 87] (fun v M => ∃ (x0 : Int) (y0 : T_l1Cur), v = .int .i64 x0 ∧ (GT.dat x0, GT.dat y0) = r ∧ M = [blk b0_ (GT.cells y0) 87] ∧ y0.1 = a0.1) := by
  obtain ⟨a0_1, a0_2, a0_3⟩ := a0
  change Spec _ _ ([Value.pointer (some ⟨b0_, 0, none⟩)] : List Value).toArray w _ _
  refine Spec.intro Tryz.func77 rfl Tryz.ntmps77 rfl ?_
  unfold s_l1Byte at hp
  replace hp := dd hp
  refine s18 ?_
  refine W_D0 [3] mix (by kernel_rfl) rfl ?_
  refine s20 ?_
  refine s10 ?_
  refine W_D0 [34] mix (by kernel_rfl) rfl ?_
  refine s8 ?_
  refine D_lenP (X := a0_1) GC.none (OpV.t rfl) el22.h ?_
  refine s13 ?_
  refine kp [0, 3, 34] ?_
  refine W_cond rfl (fun hc1 => ?_) (fun hc1 => ?_)
  · replace hp := cond_t hc1 hp
    refine s1 ?_
    replace hp := idx_bind hp; obtain ⟨u2, hy2, hp⟩ := hp
    refine W_D0 [3] mix (by kernel_rfl) rfl ?_
    refine s9 ?_
    refine D_idxA (X := a0_1) GC.none (OpV.t rfl) (OpV.t rfl) el22.h (RdT.old h0_0) (fun _ => hy2) ?_
    refine D_load0 GC.none (OpV.t rfl) (fun hg => RdT.at (RdT.old h0_0) (hy2).2) one5.h rfl ?_
    refine D_convInt GC.none (OpV.t rfl) und3.h (by rw [und5.h]; rfl) ?_
    refine s20 ?_
    refine s16 ?_
    obtain rfl := Option.some.inj hp
    refine s1 ?_
    refine res1 rfl (ResOK.tmp rfl) ⟨bits .and .i64 (IntKind.wrap .i64 (bits .and .i64 (bits .xor .i64 (IntKind.wrap .i64 (IntKind.wrap .i64 (a0_3 * 6364136223846793005) + 1442695040888963407) / 2 ^ (33 : Int).toNat) (IntKind.wrap .i64 (IntKind.wrap .i64 (a0_3 * 6364136223846793005) + 1442695040888963407) / 2 ^ (45 : Int).toNat)) 255 + IntKind.wrap .i64 (u2.toNat : Int))) 255, (a0_1, IntKind.wrap .i64 (a0_2 + 1), IntKind.wrap .i64 (IntKind.wrap .i64 (a0_3 * 6364136223846793005) + 1442695040888963407)), rfl, rfl, rfl, rfl⟩ ms
  · replace hp := cond_f hc1 hp
    refine s6 ?_
    obtain rfl := Option.some.inj hp
    refine s1 ?_
    refine res1 rfl (ResOK.tmp rfl) ⟨bits .and .i64 (bits .xor .i64 (IntKind.wrap .i64 (IntKind.wrap .i64 (a0_3 * 6364136223846793005) + 1442695040888963407) / 2 ^ (33 : Int).toNat) (IntKind.wrap .i64 (IntKind.wrap .i64 (a0_3 * 6364136223846793005) + 1442695040888963407) / 2 ^ (45 : Int).toNat)) 255, (a0_1, a0_2, IntKind.wrap .i64 (IntKind.wrap .i64 (a0_3 * 6364136223846793005) + 1442695040888963407)), rfl, rfl, rfl, rfl⟩ ms
noncomputable def s_l1Below (a0 : D_l1Cur) (a1 : Int) : Option (Int × D_l1Cur) :=
  cond (decide (a1 ≤ 0)) (some (0, (a0.1, a0.2.1, a0.2.2))) (cond (decide (a1 ≤ 256)) (Option.bind (s_l1Byte (a0.1, a0.2.1, a0.2.2)) (fun y3 => Option.bind (remP y3.1 a1) (fun y4 => some (y4, (y3.2.1, y3.2.2.1, y3.2.2.2))))) (Option.bind (s_l1Byte (a0.1, a0.2.1, a0.2.2)) (fun y5 => Option.bind (s_l1Byte (y5.2.1, y5.2.2.1, y5.2.2.2)) (fun y6 => Option.bind (s_l1Byte (y6.2.1, y6.2.2.1, y6.2.2.2)) (fun y7 => Option.bind (s_l1Byte (y7.2.1, y7.2.2.1, y7.2.2.2)) (fun y8 => Option.bind (remP (IntKind.wrap .i64 (IntKind.wrap .i64 (IntKind.wrap .i64 (IntKind.wrap .i64 (y5.1 * 16777216) + IntKind.wrap .i64 (y6.1 * 65536)) + IntKind.wrap .i64 (y7.1 * 256)) + y8.1)) a1) (fun y9 => some (y9, (y8.2.1, y8.2.2.1, y8.2.2.2)))))))))
theorem s_l1Below_walk (w : World) (b0_ : Nat) (a0 : T_l1Cur) (a1 : Int) (h0_0 : GT.rd w (fps [blk b0_ (GT.cells a0) 87]) a0.1) (r : Int × D_l1Cur) (hp : s_l1Below (GT.dat a0) a1 = some r) : Spec Tryz.prog 56 [Value.pointer (some ⟨b0_, 0, none⟩), .int .i64 a1].toArray w [blk b0_ (GT.cells a0) 87] (fun v M => ∃ (x0 : Int) (y0 : T_l1Cur), v = .int .i64 x0 ∧ (GT.dat x0, GT.dat y0) = r ∧ M = [blk b0_ (GT.cells y0) 87] ∧ y0.1 = a0.1) := by
  obtain ⟨a0_1, a0_2, a0_3⟩ := a0
  change Spec _ _ ([Value.pointer (some ⟨b0_, 0, none⟩), .int .i64 a1] : List Value).toArray w _ _
  refine Spec.intro Tryz.func56 rfl Tryz.ntmps56 rfl ?_
  unfold s_l1Below at hp
  replace hp := dd hp
  refine s10 ?_
  refine kp [0, 1, 10] ?_
  refine W_cond rfl (fun hc1 => ?_) (fun hc1 => ?_)
  · replace hp := cond_t hc1 hp
    refine s4 ?_
    obtain rfl := Option.some.inj hp
    refine s1 ?_
    refine res1 rfl (ResOK.tmp rfl) ⟨0, (a0_1, a0_2, a0_3), rfl, rfl, rfl, rfl⟩ ms
  · replace hp := cond_f hc1 hp
    refine s7 ?_
    refine kp [0, 1, 12] ?_
    refine W_cond rfl (fun hc2 => ?_) (fun hc2 => ?_)
    · replace hp := cond_t hc2 hp
      refine s3 ?_
      replace hp := ba hp; obtain ⟨y3, hy3, hp⟩ := hp
      refine L_callM [blk b0_ _ _] _ rfl fn77.h rfl pc (by exact fun w hw => s_l1Byte_walk w b0_ (a0_1, a0_2, a0_3) ((RdX.old h0_0) w hw) _ hy3) ?_
      rintro _ _ ⟨y3x0, ⟨y3y0_1, y3y0_2, y3y0_3⟩, rfl, rfl, rfl, hey3_0⟩
      obtain rfl : a0_1 = y3y0_1 := hey3_0.symm
      refine sc ?_
      replace hp := dd hp
      refine s1 ?_
      replace hp := ba hp; obtain ⟨y4, hy4, hp⟩ := hp
      refine L_binV rfl rfl rfl (bv_remP hy4) ?_
      refine s2 ?_
      obtain rfl := Option.some.inj hp
      refine s1 ?_
      refine res1 rfl (ResOK.tmp rfl) ⟨y4, (a0_1, y3y0_2, y3y0_3), rfl, rfl, rfl, rfl⟩ ms
    · replace hp := cond_f hc2 hp
      refine s4 ?_
      replace hp := ba hp; obtain ⟨y5, hy5, hp⟩ := hp
      refine L_callM [blk b0_ _ _] _ rfl fn77.h rfl pc (by exact fun w hw => s_l1Byte_walk w b0_ (a0_1, a0_2, a0_3) ((RdX.old h0_0) w hw) _ hy5) ?_
      rintro _ _ ⟨y5x0, ⟨y5y0_1, y5y0_2, y5y0_3⟩, rfl, rfl, rfl, hey5_0⟩
      obtain rfl : a0_1 = y5y0_1 := hey5_0.symm
      refine sc ?_
      replace hp := dd hp
      refine s5 ?_
      replace hp := ba hp; obtain ⟨y6, hy6, hp⟩ := hp
      refine L_callM [blk b0_ _ _] _ rfl fn77.h rfl pc (by exact fun w hw => s_l1Byte_walk w b0_ (a0_1, y5y0_2, y5y0_3) ((RdX.old h0_0) w hw) _ hy6) ?_
      rintro _ _ ⟨y6x0, ⟨y6y0_1, y6y0_2, y6y0_3⟩, rfl, rfl, rfl, hey6_0⟩
      obtain rfl : a0_1 = y6y0_1 := hey6_0.symm
      refine sc ?_
      replace hp := dd hp
      refine s5 ?_
      replace hp := ba hp; obtain ⟨y7, hy7, hp⟩ := hp
      refine L_callM [blk b0_ _ _] _ rfl fn77.h rfl pc (by exact fun w hw => s_l1Byte_walk w b0_ (a0_1, y6y0_2, y6y0_3) ((RdX.old h0_0) w hw) _ hy7) ?_
      rintro _ _ ⟨y7x0, ⟨y7y0_1, y7y0_2, y7y0_3⟩, rfl, rfl, rfl, hey7_0⟩
      obtain rfl : a0_1 = y7y0_1 := hey7_0.symm
      refine sc ?_
      replace hp := dd hp
      refine s5 ?_
      replace hp := ba hp; obtain ⟨y8, hy8, hp⟩ := hp
      refine L_callM [blk b0_ _ _] _ rfl fn77.h rfl pc (by exact fun w hw => s_l1Byte_walk w b0_ (a0_1, y7y0_2, y7y0_3) ((RdX.old h0_0) w hw) _ hy8) ?_
      rintro _ _ ⟨y8x0, ⟨y8y0_1, y8y0_2, y8y0_3⟩, rfl, rfl, rfl, hey8_0⟩
      obtain rfl : a0_1 = y8y0_1 := hey8_0.symm
      refine sc ?_
      replace hp := dd hp
      refine s15 ?_
      replace hp := ba hp; obtain ⟨y9, hy9, hp⟩ := hp
      refine L_binV rfl rfl rfl (bv_remP hy9) ?_
      refine s2 ?_
      obtain rfl := Option.some.inj hp
      refine s1 ?_
      refine res1 rfl (ResOK.tmp rfl) ⟨y9, (a0_1, y8y0_2, y8y0_3), rfl, rfl, rfl, rfl⟩ ms
noncomputable def s_l1Once (a0 : D_l1Cur) (a1 : Int) : Option (Bool × D_l1Cur) :=
  Option.bind (s_l1Below (a0.1, a0.2.1, a0.2.2) a1) (fun y1 => some (decide (y1.1 = 0), (y1.2.1, y1.2.2.1, y1.2.2.2)))
theorem s_l1Once_walk (w : World) (b0_ : Nat) (a0 : T_l1Cur) (a1 : Int) (h0_0 : GT.rd w (fps [blk b0_ (GT.cells a0) 87]) a0.1) (r : Bool × D_l1Cur) (hp : s_l1Once (GT.dat a0) a1 = some r) : Spec Tryz.prog 29 [Value.pointer (some ⟨b0_, 0, none⟩), .int .i64 a1].toArray w [blk b0_ (GT.cells a0) 87] (fun v M => ∃ (x0 : Bool) (y0 : T_l1Cur), v = .bool x0 ∧ (GT.dat x0, GT.dat y0) = r ∧ M = [blk b0_ (GT.cells y0) 87] ∧ y0.1 = a0.1) := by
  obtain ⟨a0_1, a0_2, a0_3⟩ := a0
  change Spec _ _ ([Value.pointer (some ⟨b0_, 0, none⟩), .int .i64 a1] : List Value).toArray w _ _
  refine Spec.intro Tryz.func29 rfl Tryz.ntmps29 rfl ?_
  unfold s_l1Once at hp
  replace hp := dd hp
  refine s8 ?_
  replace hp := ba hp; obtain ⟨y1, hy1, hp⟩ := hp
  refine L_callM [blk b0_ _ _] _ rfl fn56.h rfl pc (by exact fun w hw => s_l1Below_walk w b0_ (a0_1, a0_2, a0_3) a1 ((RdX.old h0_0) w hw) _ hy1) ?_
  rintro _ _ ⟨y1x0, ⟨y1y0_1, y1y0_2, y1y0_3⟩, rfl, rfl, rfl, hey1_0⟩
  obtain rfl : a0_1 = y1y0_1 := hey1_0.symm
  refine sc ?_
  replace hp := dd hp
  refine s3 ?_
  obtain rfl := Option.some.inj hp
  refine s1 ?_
  refine res1 rfl (ResOK.tmp rfl) ⟨decide (y1x0 = 0), (a0_1, y1y0_2, y1y0_3), rfl, rfl, rfl, rfl⟩ ms
noncomputable def s_l1PickInt (a0 : D_l1Cur) (a1 : List Int) : Option (Int × D_l1Cur) :=
  Option.bind (s_l1Below (a0.1, a0.2.1, a0.2.2) (a1.length : Int)) (fun y1 => Option.bind (idx a1 y1.1) (fun y2 => some (y2, (y1.2.1, y1.2.2.1, y1.2.2.2))))
theorem s_l1PickInt_walk (w : World) (b0_ : Nat) (a0 : T_l1Cur) (a1 : TL Int) (h1 : GT.rd w (fps [blk b0_ (GT.cells a0) 87]) a1) (h0_0 : GT.rd w (fps [blk b0_ (GT.cells a0) 87]) a0.1) (r : Int × D_l1Cur) (hp : s_l1PickInt (GT.dat a0) (GT.dat a1) = some r) : Spec Tryz.prog 64 [Value.pointer (some ⟨b0_, 0, none⟩), (TL.hdr a1)].toArray w [blk b0_ (GT.cells a0) 87] (fun v M => ∃ (x0 : Int) (y0 : T_l1Cur), v = .int .i64 x0 ∧ (GT.dat x0, GT.dat y0) = r ∧ M = [blk b0_ (GT.cells y0) 87] ∧ y0.1 = a0.1) := by
  obtain ⟨a0_1, a0_2, a0_3⟩ := a0
  change Spec _ _ ([Value.pointer (some ⟨b0_, 0, none⟩), (TL.hdr a1)] : List Value).toArray w _ _
  refine Spec.intro Tryz.func64 rfl Tryz.ntmps64 rfl ?_
  unfold s_l1PickInt at hp
  replace hp := dd hp
  refine s10 ?_
  replace hp := ba hp; obtain ⟨y1, hy1, hp⟩ := hp
  refine L_callM [blk b0_ _ _] _ rfl fn56.h rfl pc (by exact fun w hw => s_l1Below_walk w b0_ (a0_1, a0_2, a0_3) ((GT.dat a1).length : Int) ((RdX.old h0_0) w hw) _ hy1) ?_
  rintro _ _ ⟨y1x0, ⟨y1y0_1, y1y0_2, y1y0_3⟩, rfl, rfl, rfl, hey1_0⟩
  obtain rfl : a0_1 = y1y0_1 := hey1_0.symm
  refine sc ?_
  replace hp := dd hp
  replace hp := idx_bind hp; obtain ⟨u2, hy2, hp⟩ := hp
  refine L_idxA (X := a1) rfl rfl rfl el41.h (RdT.old h1) hy2 ?_
  refine L_load0 rfl rfl (RdT.at (RdT.old h1) (hy2).2) one3.h rfl ?_
  refine s2 ?_
  obtain rfl := Option.some.inj hp
  refine s1 ?_
  refine res1 rfl (ResOK.tmp rfl) ⟨u2, (a0_1, y1y0_2, y1y0_3), rfl, rfl, rfl, rfl⟩ ms
noncomputable def s_l1Pick (a0 : D_l1Cur) (a1 : List ByteArray) : Option (ByteArray × D_l1Cur) :=
  Option.bind (s_l1Below (a0.1, a0.2.1, a0.2.2) (a1.length : Int)) (fun y1 => Option.bind (idx a1 y1.1) (fun y2 => some (y2, (y1.2.1, y1.2.2.1, y1.2.2.2))))
theorem s_l1Pick_walk (w : World) (b0_ : Nat) (a0 : T_l1Cur) (a1 : TL ByteArray) (h1 : GT.rd w (fps [blk b0_ (GT.cells a0) 87]) a1) (h0_0 : GT.rd w (fps [blk b0_ (GT.cells a0) 87]) a0.1) (r : ByteArray × D_l1Cur) (hp : s_l1Pick (GT.dat a0) (GT.dat a1) = some r) : Spec Tryz.prog 61 [Value.pointer (some ⟨b0_, 0, none⟩), (TL.hdr a1)].toArray w [blk b0_ (GT.cells a0) 87] (fun v M => ∃ (x0 : ByteArray) (y0 : T_l1Cur), v = .string x0 ∧ (GT.dat x0, GT.dat y0) = r ∧ M = [blk b0_ (GT.cells y0) 87] ∧ y0.1 = a0.1) := by
  obtain ⟨a0_1, a0_2, a0_3⟩ := a0
  change Spec _ _ ([Value.pointer (some ⟨b0_, 0, none⟩), (TL.hdr a1)] : List Value).toArray w _ _
  refine Spec.intro Tryz.func61 rfl Tryz.ntmps61 rfl ?_
  unfold s_l1Pick at hp
  replace hp := dd hp
  refine s10 ?_
  replace hp := ba hp; obtain ⟨y1, hy1, hp⟩ := hp
  refine L_callM [blk b0_ _ _] _ rfl fn56.h rfl pc (by exact fun w hw => s_l1Below_walk w b0_ (a0_1, a0_2, a0_3) ((GT.dat a1).length : Int) ((RdX.old h0_0) w hw) _ hy1) ?_
  rintro _ _ ⟨y1x0, ⟨y1y0_1, y1y0_2, y1y0_3⟩, rfl, rfl, rfl, hey1_0⟩
  obtain rfl : a0_1 = y1y0_1 := hey1_0.symm
  refine sc ?_
  replace hp := dd hp
  replace hp := idx_bind hp; obtain ⟨u2, hy2, hp⟩ := hp
  refine L_idxA (X := a1) rfl rfl rfl el32.h (RdT.old h1) hy2 ?_
  refine L_load0 rfl rfl (RdT.at (RdT.old h1) (hy2).2) one9.h rfl ?_
  refine s2 ?_
  obtain rfl := Option.some.inj hp
  refine s1 ?_
  refine res1 rfl (ResOK.tmp rfl) ⟨u2, (a0_1, y1y0_2, y1y0_3), rfl, rfl, rfl, rfl⟩ ms
noncomputable def s_l1Text (a0 : D_l1Cur) (a1 : Int) : Option (ByteArray × D_l1Cur) :=
  Option.bind (some ([] : List UInt8)) (fun y2 => Option.bind (s_l1Below (a0.1, a0.2.1, a0.2.2) 4) (fun y3 => Option.bind (s_l1Below (y3.2.1, y3.2.2.1, y3.2.2.2) (IntKind.wrap .i64 (a1 + 1))) (fun y4 => whileP (fun s5 : (List UInt8) × Int × Int × Int => cond (decide (0 < s5.2.1)) (Option.bind (s_l1Byte (y4.2.1, s5.2.2.1, s5.2.2.2)) (fun y7 => cond (decide (y3.1 = 1)) (cond (decide (y3.1 = 2)) (Option.bind (u8P (IntKind.wrap .u8 (IntKind.wrap .i64 (97 + ((y7.1).tmod 2).tmod 4)))) (fun y10 => Option.bind (appP s5.1 [y10]) (fun y12 => some (.inl ((y12, IntKind.wrap .i64 (s5.2.1 - 1), y7.2.2.1, y7.2.2.2)))))) (Option.bind (u8P (IntKind.wrap .u8 ((y7.1).tmod 2))) (fun y13 => Option.bind (appP s5.1 [y13]) (fun y15 => some (.inl ((y15, IntKind.wrap .i64 (s5.2.1 - 1), y7.2.2.1, y7.2.2.2))))))) (cond (decide (y3.1 = 2)) (Option.bind (u8P (IntKind.wrap .u8 (IntKind.wrap .i64 (97 + (y7.1).tmod 4)))) (fun y17 => Option.bind (appP s5.1 [y17]) (fun y19 => some (.inl ((y19, IntKind.wrap .i64 (s5.2.1 - 1), y7.2.2.1, y7.2.2.2)))))) (Option.bind (u8P (IntKind.wrap .u8 y7.1)) (fun y20 => Option.bind (appP s5.1 [y20]) (fun y22 => some (.inl ((y22, IntKind.wrap .i64 (s5.2.1 - 1), y7.2.2.1, y7.2.2.2))))))))) (Option.map .inr (some ((strP s5.1), (y4.2.1, s5.2.2.1, s5.2.2.2))))) (y2, y4.1, y4.2.2.1, y4.2.2.2))))
theorem s_l1Text_walk (w : World) (b0_ : Nat) (a0 : T_l1Cur) (a1 : Int) (h0_0 : GT.rd w (fps [blk b0_ (GT.cells a0) 87]) a0.1) (r : ByteArray × D_l1Cur) (hp : s_l1Text (GT.dat a0) a1 = some r) : Spec Tryz.prog 75 [Value.pointer (some ⟨b0_, 0, none⟩), .int .i64 a1].toArray w [blk b0_ (GT.cells a0) 87] (fun v M => ∃ (x0 : ByteArray) (y0 : T_l1Cur), v = .string x0 ∧ (GT.dat x0, GT.dat y0) = r ∧ M = [blk b0_ (GT.cells y0) 87] ∧ y0.1 = a0.1) := by
  obtain ⟨a0_1, a0_2, a0_3⟩ := a0
  change Spec _ _ ([Value.pointer (some ⟨b0_, 0, none⟩), .int .i64 a1] : List Value).toArray w _ _
  refine Spec.intro Tryz.func75 rfl Tryz.ntmps75 rfl ?_
  unfold s_l1Text at hp
  replace hp := dd hp
  refine s6 ?_
  replace hp := ba hp; obtain ⟨y2, hy2, hp⟩ := hp
  refine L_mk0 UInt8 rfl el22.h (fun X1 hdX1 => ?_)
  obtain rfl : GT.dat X1 = y2 := hdX1.trans (Option.some.inj hy2)
  clear hy2 hdX1
  refine s5 ?_
  replace hp := ba hp; obtain ⟨y3, hy3, hp⟩ := hp
  refine L_callM [blk b0_ _ _] _ rfl fn56.h rfl pc (by exact fun w hw => s_l1Below_walk w b0_ (a0_1, a0_2, a0_3) 4 ((RdX.old h0_0) w hw) _ hy3) ?_
  rintro _ _ ⟨y3x0, ⟨y3y0_1, y3y0_2, y3y0_3⟩, rfl, rfl, rfl, hey3_0⟩
  obtain rfl : a0_1 = y3y0_1 := hey3_0.symm
  refine sc ?_
  replace hp := dd hp
  refine s8 ?_
  replace hp := ba hp; obtain ⟨y4, hy4, hp⟩ := hp
  refine L_callM [blk b0_ _ _] _ rfl fn56.h rfl pc (by exact fun w hw => s_l1Below_walk w b0_ (a0_1, y3y0_2, y3y0_3) (IntKind.wrap .i64 (a1 + 1)) ((RdX.old h0_0) w hw) _ hy4) ?_
  rintro _ _ ⟨y4x0, ⟨y4y0_1, y4y0_2, y4y0_3⟩, rfl, rfl, rfl, hey4_0⟩
  obtain rfl : a0_1 = y4y0_1 := hey4_0.symm
  refine sc ?_
  replace hp := dd hp
  refine s3 ?_
  refine W_while (σ := (TL UInt8) × Int × Int × Int) GT.dat (fun ((v5_0, v5_1, v5_2, v5_3) : (TL UInt8) × Int × Int × Int) => [(5, (TL.hdr v5_0)), (7, .int .i64 v5_1)]) (fun ((v5_0, v5_1, v5_2, v5_3) : (TL UInt8) × Int × Int × Int) => [blk b0_ [(TL.hdr a0_1), .int .i64 v5_2, .int .i64 v5_3] 87, treeH v5_0]) [(0, _), (6, _)] [] (X1, y4x0, y4y0_2, y4y0_3) hp sb ms ?_
  clear hp
  rintro ⟨v5_0, v5_1, v5_2, v5_3⟩ x5 hp hx5
  replace hp := dd hp
  refine kq [0, 5, 6, 7] ?_
  refine s6 ?_
  refine kp [0, 5, 6, 7, 17] ?_
  refine W_cond rfl (fun hc6 => ?_) (fun hc6 => ?_)
  · replace hp := cond_t hc6 hp
    refine s6 ?_
    replace hp := ba hp; obtain ⟨y7, hy7, hp⟩ := hp
    refine L_callM [blk b0_ _ _] _ rfl fn77.h rfl pc (by exact fun w hw => s_l1Byte_walk w b0_ (a0_1, v5_2, v5_3) ((RdX.old h0_0) w hw) _ hy7) ?_
    rintro _ _ ⟨y7x0, ⟨y7y0_1, y7y0_2, y7y0_3⟩, rfl, rfl, rfl, hey7_0⟩
    obtain rfl : a0_1 = y7y0_1 := hey7_0.symm
    refine sc ?_
    replace hp := dd hp
    refine s8 ?_
    refine kp [0, 5, 6, 7, 8, 23] ?_
    refine W_cond rfl (fun hc8 => ?_) (fun hc8 => ?_)
    · replace hp := cond_t hc8 hp
      refine s11 ?_
      refine kp [0, 5, 6, 7, 8, 27] ?_
      refine W_cond rfl (fun hc9 => ?_) (fun hc9 => ?_)
      · replace hp := cond_t hc9 hp
        refine s9 ?_
        refine L_convInt rfl rfl und5.h (by rw [und3.h]; rfl) ?_
        replace hp := ba hp; obtain ⟨y10, hy10, hp⟩ := hp
        have ey10 := u8P_some hy10
        try simp only [dat_u8] at ey10
        try simp only [ey10]
        refine L_buildSlice1 rfl rfl el22.h rfl (by decide) (by decide) rfl (fun bb34 => ?_)
        replace hp := ba hp; obtain ⟨y12, hy12, hp⟩ := hp
        refine L_app1F (X := v5_0) (y10 : UInt8) rfl rfl rfl el22.h rfl rfl pk mm  hy12 (by decide) (fun X11 hdX11 => ?_)
        subst hdX11
        refine s7 ?_
        exact ⟨(X11, IntKind.wrap .i64 (v5_1 - 1), y7y0_2, y7y0_3), sb, (.sub ms), some_eq hp⟩
      · replace hp := cond_f hc9 hp
        refine s4 ?_
        refine L_convInt rfl rfl und5.h (by rw [und3.h]; rfl) ?_
        replace hp := ba hp; obtain ⟨y13, hy13, hp⟩ := hp
        have ey13 := u8P_some hy13
        try simp only [dat_u8] at ey13
        try simp only [ey13]
        refine L_buildSlice1 rfl rfl el22.h rfl (by decide) (by decide) rfl (fun bb34 => ?_)
        replace hp := ba hp; obtain ⟨y15, hy15, hp⟩ := hp
        refine L_app1F (X := v5_0) (y13 : UInt8) rfl rfl rfl el22.h rfl rfl pk mm  hy15 (by decide) (fun X14 hdX14 => ?_)
        subst hdX14
        refine s7 ?_
        exact ⟨(X14, IntKind.wrap .i64 (v5_1 - 1), y7y0_2, y7y0_3), sb, (.sub ms), some_eq hp⟩
    · replace hp := cond_f hc8 hp
      refine s7 ?_
      refine kp [0, 5, 6, 7, 8, 27] ?_
      refine W_cond rfl (fun hc16 => ?_) (fun hc16 => ?_)
      · replace hp := cond_t hc16 hp
        refine s9 ?_
        refine L_convInt rfl rfl und5.h (by rw [und3.h]; rfl) ?_
        replace hp := ba hp; obtain ⟨y17, hy17, hp⟩ := hp
        have ey17 := u8P_some hy17
        try simp only [dat_u8] at ey17
        try simp only [ey17]
        refine L_buildSlice1 rfl rfl el22.h rfl (by decide) (by decide) rfl (fun bb34 => ?_)
        replace hp := ba hp; obtain ⟨y19, hy19, hp⟩ := hp
        refine L_app1F (X := v5_0) (y17 : UInt8) rfl rfl rfl el22.h rfl rfl pk mm  hy19 (by decide) (fun X18 hdX18 => ?_)
        subst hdX18
        refine s7 ?_
        exact ⟨(X18, IntKind.wrap .i64 (v5_1 - 1), y7y0_2, y7y0_3), sb, (.sub ms), some_eq hp⟩
      · replace hp := cond_f hc16 hp
        refine s4 ?_
        refine L_convInt rfl rfl und5.h (by rw [und3.h]; rfl) ?_
        replace hp := ba hp; obtain ⟨y20, hy20, hp⟩ := hp
        have ey20 := u8P_some hy20
        try simp only [dat_u8] at ey20
        try simp only [ey20]
        refine L_buildSlice1 rfl rfl el22.h rfl (by decide) (by decide) rfl (fun bb34 => ?_)
        replace hp := ba hp; obtain ⟨y22, hy22, hp⟩ := hp
        refine L_app1F (X := v5_0) (y20 : UInt8) rfl rfl rfl el22.h rfl rfl pk mm  hy22 (by decide) (fun X21 hdX21 => ?_)
        subst hdX21
        refine s7 ?_
        exact ⟨(X21, IntKind.wrap .i64 (v5_1 - 1), y7y0_2, y7y0_3), sb, (.sub ms), some_eq hp⟩
  · replace hp := cond_f hc6 hp
    refine W_exit ?_
    replace hp := map_any hp; obtain ⟨a23, hp, hx_a23⟩ := hp
    obtain rfl := hx5 _ hx_a23
    refine s3 ?_
    refine L_toStr (X := v5_0) rfl rfl und22.h und5.h und9.h (RdT.tree mm) ?_
    refine s2 ?_
    obtain rfl := Option.some.inj hp
    refine s1 ?_
    refine res1 rfl (ResOK.tmp rfl) ⟨(strP (GT.dat v5_0)), (a0_1, v5_2, v5_3), rfl, rfl, rfl, rfl⟩ ms
end Go.Proofs.SL
namespace Go.Proofs.SL
open Go
def gA0 : List Int := [1116352408, 1899447441, 3049323471, 3921009573, 961987163, 1508970993, 2453635748, 2870763221, 3624381080, 310598401, 607225278, 1426881987, 1925078388, 2162078206, 2614888103, 3248222580, 3835390401, 4022224774, 264347078, 604807628, 770255983, 1249150122, 1555081692, 1996064986, 2554220882, 2821834349, 2952996808, 3210313671, 3336571891, 3584528711, 113926993, 338241895, 666307205, 773529912, 1294757372, 1396182291, 1695183700, 1986661051, 2177026350, 2456956037, 2730485921, 2820302411, 3259730800, 3345764771, 3516065817, 3600352804, 4094571909, 275423344, 430227734, 506948616, 659060556, 883997877, 958139571, 1322822218, 1537002063, 1747873779, 1955562222, 2024104815, 2227730452, 2361852424, 2428436474, 2756734187, 3204031479, 3329325298]
end Go.Proofs.SL
namespace Go.Proofs.SL
open Go
set_option maxHeartbeats 2000000
instance fn133 : FnF Tryz.prog 133 := ⟨⟨_, Tryz.func133, by kernel_rfl, rfl⟩⟩
instance str9 : StrF Tryz.prog 9 := ⟨by kernel_rfl⟩
instance fn132 : FnF Tryz.prog 132 := ⟨⟨_, Tryz.func132, by kernel_rfl, rfl⟩⟩
instance und115 : UndF Tryz.prog 115 (.int .u64) := ⟨by kernel_rfl⟩
instance fn115 : FnF Tryz.prog 115 := ⟨⟨_, Tryz.func115, by kernel_rfl, rfl⟩⟩
instance fn116 : FnF Tryz.prog 116 := ⟨⟨_, Tryz.func116, by kernel_rfl, rfl⟩⟩
instance fn87 : FnF Tryz.prog 87 := ⟨⟨_, Tryz.func87, by kernel_rfl, rfl⟩⟩
def s_l3Keys_c : List Int := [1116352408, 1899447441, 3049323471, 3921009573, 961987163, 1508970993, 2453635748, 2870763221, 3624381080, 310598401, 607225278, 1426881987, 1925078388, 2162078206, 2614888103, 3248222580, 3835390401, 4022224774, 264347078, 604807628, 770255983, 1249150122, 1555081692, 1996064986, 2554220882, 2821834349, 2952996808, 3210313671, 3336571891, 3584528711, 113926993, 338241895, 666307205, 773529912, 1294757372, 1396182291, 1695183700, 1986661051, 2177026350, 2456956037, 2730485921, 2820302411, 3259730800, 3345764771, 3516065817, 3600352804, 4094571909, 275423344, 430227734, 506948616, 659060556, 883997877, 958139571, 1322822218, 1537002063, 1747873779, 1955562222, 2024104815, 2227730452, 2361852424, 2428436474, 2756734187, 3204031479, 3329325298]
noncomputable def s_l3Keys  : Option (List Int) :=
  Option.bind (some s_l3Keys_c) (fun y1 => some y1)
set_option maxHeartbeats 1000000 in
set_option maxRecDepth 20000 in
theorem s_l3Keys_walk (w : World)   (r : (List Int)) (hp : s_l3Keys  = some r) : Spec Tryz.prog 115 [].toArray w [] (fun v M => ∃ (x0 : TL Int), v = (TL.hdr x0) ∧ GT.dat x0 = r ∧ M = [treeH x0]) := by
  refine Spec.intro Tryz.func115 rfl Tryz.ntmps115 rfl ?_
  unfold s_l3Keys at hp
  replace hp := dd hp
  refine s2 ?_
  refine L_assign (v := (TL.hdr (TL.nil Int 0))) rfl rfl ?_
  refine s3 ?_
  replace hp := ba hp; obtain ⟨y1, hy1, hp⟩ := hp
  refine L_bsNC s_l3Keys_c rfl (by kernel_rfl) (by kernel_rfl) el41.h rfl rfl rfl rfl (by kernel_rfl) (fun X2 hdX2 => ?_)
  obtain rfl : GT.dat X2 = y1 := hdX2.trans (Option.some.inj hy1)
  clear hy1 hdX2
  refine s2 ?_
  obtain rfl := Option.some.inj hp
  refine s1 ?_
  refine res1 rfl (ResOK.tmp rfl) ⟨X2, rfl, rfl, rfl⟩ ms
noncomputable def s_l3Word (a0 : Int) : Option Int :=
  some (bits .and .i64 a0 4294967295)
theorem s_l3Word_walk (w : World) (a0 : Int)  (r : Int) (hp : s_l3Word a0 = some r) : Spec Tryz.prog 133 [.int .i64 a0].toArray w [] (IsV (.int .i64 r)) := by
  refine Spec.intro Tryz.func133 rfl Tryz.ntmps133 rfl ?_
  unfold s_l3Word at hp
  replace hp := dd hp
  refine s10 ?_
  obtain rfl := Option.some.inj hp
  refine s1 ?_
  refine res1 rfl (ResOK.tmp rfl) ⟨rfl, rfl⟩ ms
noncomputable def s_l3Right (a0 : Int) (a1 : Int) : Option Int :=
  Option.bind (shrP .i64 a0 a1) (fun y1 => Option.bind (shlP .i64 a0 (IntKind.wrap .u64 (32 - a1))) (fun y2 => Option.bind (s_l3Word (bits .or .i64 y1 y2)) (fun y3 => some y3)))
theorem s_l3Right_walk (w : World) (a0 : Int) (a1 : Int)  (r : Int) (hp : s_l3Right a0 a1 = some r) : Spec Tryz.prog 132 [.int .i64 a0, .int .u64 a1].toArray w [] (IsV (.int .i64 r)) := by
  refine Spec.intro Tryz.func132 rfl Tryz.ntmps132 rfl ?_
  unfold s_l3Right at hp
  replace hp := dd hp
  refine s8 ?_
  replace hp := ba hp; obtain ⟨y1, hy1, hp⟩ := hp
  refine L_binV rfl rfl rfl (bv_shrP hy1) ?_
  refine s3 ?_
  replace hp := ba hp; obtain ⟨y2, hy2, hp⟩ := hp
  refine L_binV rfl rfl rfl (bv_shlP hy2) ?_
  refine s1 ?_
  replace hp := ba hp; obtain ⟨y3, hy3, hp⟩ := hp
  refine L_callX rfl fn133.h rfl (by exact fun w hw => s_l3Word_walk w (bits .or .i64 y1 y2)  _ hy3) ?_
  refine s2 ?_
  obtain rfl := Option.some.inj hp
  refine s1 ?_
  refine res1 rfl (ResOK.tmp rfl) ⟨rfl, rfl⟩ ms
noncomputable def s_l3Block (a0 : List Int) (a1 : ByteArray) (a2 : List Int) : Option (List Int) :=
  Option.bind (mkP 8 64 (0 : Int)) (fun y1 => whileP (fun s3 : (List Int) × Int => cond (decide (s3.2 < 16)) (Option.bind (sidx a1 (IntKind.wrap .i64 (4 * s3.2))) (fun y5 => Option.bind (sidx a1 (IntKind.wrap .i64 (IntKind.wrap .i64 (4 * s3.2) + 1))) (fun y6 => Option.bind (sidx a1 (IntKind.wrap .i64 (IntKind.wrap .i64 (4 * s3.2) + 2))) (fun y7 => Option.bind (sidx a1 (IntKind.wrap .i64 (IntKind.wrap .i64 (4 * s3.2) + 3))) (fun y8 => Option.bind (idx s3.1 s3.2) (fun y9 => Option.bind (some (s3.1.set (s3.2.toNat) (bits .or .i64 (bits .or .i64 (bits .or .i64 (IntKind.wrap .i64 (IntKind.wrap .i64 y5 * 2 ^ (24 : Int).toNat)) (IntKind.wrap .i64 (IntKind.wrap .i64 y6 * 2 ^ (16 : Int).toNat))) (IntKind.wrap .i64 (IntKind.wrap .i64 y7 * 2 ^ (8 : Int).toNat))) (IntKind.wrap .i64 y8)))) (fun y10 => some (.inl ((y10, IntKind.wrap .i64 (s3.2 + 1))))))))))) (Option.map .inr (whileP (fun s13 : (List Int) × Int => cond (decide (s13.2 < 64)) (Option.bind (idx s13.1 (IntKind.wrap .i64 (s13.2 - 15))) (fun y15 => Option.bind (s_l3Right y15 7) (fun y16 => Option.bind (idx s13.1 (IntKind.wrap .i64 (s13.2 - 15))) (fun y17 => Option.bind (s_l3Right y17 18) (fun y18 => Option.bind (idx s13.1 (IntKind.wrap .i64 (s13.2 - 15))) (fun y19 => Option.bind (idx s13.1 (IntKind.wrap .i64 (s13.2 - 2))) (fun y20 => Option.bind (s_l3Right y20 17) (fun y21 => Option.bind (idx s13.1 (IntKind.wrap .i64 (s13.2 - 2))) (fun y22 => Option.bind (s_l3Right y22 19) (fun y23 => Option.bind (idx s13.1 (IntKind.wrap .i64 (s13.2 - 2))) (fun y24 => Option.bind (idx s13.1 (IntKind.wrap .i64 (s13.2 - 16))) (fun y25 => Option.bind (idx s13.1 (IntKind.wrap .i64 (s13.2 - 7))) (fun y26 => Option.bind (s_l3Word (IntKind.wrap .i64 (IntKind.wrap .i64 (IntKind.wrap .i64 (y25 + bits .xor .i64 (bits .xor .i64 y16 y18) (y19 / 2 ^ (3 : Int).toNat)) + y26) + bits .xor .i64 (bits .xor .i64 y21 y23) (y24 / 2 ^ (10 : Int).toNat)))) (fun y27 => Option.bind (idx s13.1 s13.2) (fun y28 => Option.bind (some (s13.1.set (s13.2.toNat) y27)) (fun y29 => some (.inl ((y29, IntKind.wrap .i64 (s13.2 + 1)))))))))))))))))))) (Option.map .inr (Option.bind (some ([] : List Int)) (fun y33 => Option.bind (appP y33 a0) (fun y35 => whileP (fun s36 : (List Int) × Int => cond (decide (s36.2 < 64)) (Option.bind (idx s36.1 4) (fun y38 => Option.bind (idx s36.1 0) (fun y39 => Option.bind (idx s36.1 7) (fun y40 => Option.bind (s_l3Right y38 6) (fun y41 => Option.bind (s_l3Right y38 11) (fun y42 => Option.bind (s_l3Right y38 25) (fun y43 => Option.bind (idx s36.1 5) (fun y44 => Option.bind (s_l3Word (bits .xor .i64 (if IntKind.signed .i64 then -1 else IntKind.max .i64) y38)) (fun y45 => Option.bind (idx s36.1 6) (fun y46 => Option.bind (idx a2 s36.2) (fun y47 => Option.bind (idx s13.1 s36.2) (fun y48 => Option.bind (s_l3Right y39 2) (fun y49 => Option.bind (s_l3Right y39 13) (fun y50 => Option.bind (s_l3Right y39 22) (fun y51 => Option.bind (idx s36.1 1) (fun y52 => Option.bind (idx s36.1 2) (fun y53 => Option.bind (idx s36.1 1) (fun y54 => Option.bind (idx s36.1 2) (fun y55 => Option.bind (s_l3Word (IntKind.wrap .i64 (IntKind.wrap .i64 (IntKind.wrap .i64 (IntKind.wrap .i64 (IntKind.wrap .i64 (y40 + bits .xor .i64 (bits .xor .i64 y41 y42) y43) + bits .xor .i64 (bits .and .i64 y38 y44) (bits .and .i64 y45 y46)) + y47) + y48) + IntKind.wrap .i64 (bits .xor .i64 (bits .xor .i64 y49 y50) y51 + bits .xor .i64 (bits .xor .i64 (bits .and .i64 y39 y52) (bits .and .i64 y39 y53)) (bits .and .i64 y54 y55))))) (fun y56 => Option.bind (idx s36.1 0) (fun y57 => Option.bind (idx s36.1 1) (fun y58 => Option.bind (idx s36.1 2) (fun y59 => Option.bind (idx s36.1 3) (fun y60 => Option.bind (s_l3Word (IntKind.wrap .i64 (y60 + IntKind.wrap .i64 (IntKind.wrap .i64 (IntKind.wrap .i64 (IntKind.wrap .i64 (y40 + bits .xor .i64 (bits .xor .i64 y41 y42) y43) + bits .xor .i64 (bits .and .i64 y38 y44) (bits .and .i64 y45 y46)) + y47) + y48)))) (fun y61 => Option.bind (idx s36.1 4) (fun y62 => Option.bind (idx s36.1 5) (fun y63 => Option.bind (idx s36.1 6) (fun y64 => Option.bind (some ([y56, y57, y58, y59, y61, y62, y63, y64] : List Int)) (fun y65 => some (.inl ((y65, IntKind.wrap .i64 (s36.2 + 1))))))))))))))))))))))))))))))))) (Option.map .inr (Option.bind (some ([] : List Int)) (fun y69 => whileP (fun s70 : (List Int) × Int => cond (decide (s70.2 < 8)) (Option.bind (idx a0 s70.2) (fun y72 => Option.bind (idx s36.1 s70.2) (fun y73 => Option.bind (s_l3Word (IntKind.wrap .i64 (y72 + y73))) (fun y74 => Option.bind (appP s70.1 [y74]) (fun y76 => some (.inl ((y76, IntKind.wrap .i64 (s70.2 + 1))))))))) (Option.map .inr (some s70.1))) (y69, 0))))) (y35, 0)))))) (s3.1, 16)))) (y1, 0))
set_option maxHeartbeats 8000000 in
theorem s_l3Block_walk (w : World) (a0 : TL Int) (a1 : ByteArray) (a2 : TL Int) (h0 : GT.rd w [] a0) (h2 : GT.rd w [] a2) (r : (List Int)) (hp : s_l3Block (GT.dat a0) a1 (GT.dat a2) = some r) : Spec Tryz.prog 116 [(TL.hdr a0), .string a1, (TL.hdr a2)].toArray w [] (fun v M => ∃ (x0 : TL Int), v = (TL.hdr x0) ∧ GT.dat x0 = r ∧ M = [treeH x0]) := by
  refine Spec.intro Tryz.func116 rfl Tryz.ntmps116 rfl ?_
  unfold s_l3Block at hp
  replace hp := dd hp
  refine s2 ?_
  refine L_assign (v := (TL.hdr (TL.nil Int 0))) rfl rfl ?_
  refine s3 ?_
  replace hp := ba hp; obtain ⟨y1, hy1, hp⟩ := hp
  refine L_mkP (0 : Int) rfl rfl rfl el41.h rfl rfl (FlatT.flat _) hy1 (fun X2 hdX2 => ?_)
  subst hdX2
  refine s8 ?_
  refine W_while (σ := (TL Int) × Int) GT.dat (fun ((v3_0, v3_1) : (TL Int) × Int) => [(7, (TL.hdr v3_0)), (8, .int .i64 v3_1)]) (fun ((v3_0, v3_1) : (TL Int) × Int) => [treeH v3_0]) [(0, _), (1, _), (2, _)] [] (X2, 0) hp sb ms ?_
  clear hp
  rintro ⟨v3_0, v3_1⟩ x3 hp hx3
  replace hp := dd hp
  refine kq [0, 1, 2, 7, 8] ?_
  refine s6 ?_
  refine kp [0, 1, 2, 7, 8, 22] ?_
  refine W_cond rfl (fun hc4 => ?_) (fun hc4 => ?_)
  · replace hp := cond_t hc4 hp
    refine s3 ?_
    replace hp := ba hp; obtain ⟨y5, hy5, hp⟩ := hp
    replace hp := ba hp; obtain ⟨y6, hy6, hp⟩ := hp
    replace hp := ba hp; obtain ⟨y7, hy7, hp⟩ := hp
    replace hp := ba hp; obtain ⟨y8, hy8, hp⟩ := hp
    refine W_DS (pre := [_, _, _, _, _, _, _, _, _, _, _, _, _, _, _, _, _, _, _, _, _, _, _, _, _, _, _, _, _, _, _]) (suf := [_, _]) [25, 26, 55] [] _ pc mix (by kernel_rfl) (by kernel_rfl) rfl ?_
    refine s5 ?_
    refine D_idxS GC.none (OpV.t rfl) (OpV.t rfl) str9.h (fun hg => hy5) ?_
    refine D_convInt GC.none (OpV.t rfl) und3.h (by rw [und5.h]; rfl) ?_
    refine s5 ?_
    refine D_idxS GC.none (OpV.t rfl) (OpV.t rfl) str9.h (fun hg => hy6) ?_
    refine D_convInt GC.none (OpV.t rfl) und3.h (by rw [und5.h]; rfl) ?_
    refine s6 ?_
    refine D_idxS GC.none (OpV.t rfl) (OpV.t rfl) str9.h (fun hg => hy7) ?_
    refine D_convInt GC.none (OpV.t rfl) und3.h (by rw [und5.h]; rfl) ?_
    refine s6 ?_
    refine D_idxS GC.none (OpV.t rfl) (OpV.t rfl) str9.h (fun hg => hy8) ?_
    refine D_convInt GC.none (OpV.t rfl) und3.h (by rw [und5.h]; rfl) ?_
    refine s20 ?_
    refine s14 ?_
    replace hp := idx_bind hp; obtain ⟨u9, hy9, hp⟩ := hp
    refine L_idxA (X := v3_0) rfl rfl rfl el41.h (RdT.tree mm) hy9 ?_
    refine L_conv (M' := treeH u9 :: holeH v3_0 (v3_1.toNat) (GT.cells u9) :: _) (fun w h => hole_open hy9.2 pk h) ?_
    refine L_stH (X := v3_0) (i := v3_1.toNat) (sz := 1) (fo := 0) (n := 1) rfl rfl pk rfl (.inr ⟨one3.h, rfl⟩) rfl (allOne rfl) (Nat.le_of_ble_eq_true rfl) ?_
    refine L_conv (M' := treeH (bits .or .i64 (bits .or .i64 (bits .or .i64 (IntKind.wrap .i64 (IntKind.wrap .i64 y5 * 2 ^ (24 : Int).toNat)) (IntKind.wrap .i64 (IntKind.wrap .i64 y6 * 2 ^ (16 : Int).toNat))) (IntKind.wrap .i64 (IntKind.wrap .i64 y7 * 2 ^ (8 : Int).toNat))) (IntKind.wrap .i64 y8) : Int) :: _) (fun w h => addF (bits .or .i64 (bits .or .i64 (bits .or .i64 (IntKind.wrap .i64 (IntKind.wrap .i64 y5 * 2 ^ (24 : Int).toNat)) (IntKind.wrap .i64 (IntKind.wrap .i64 y6 * 2 ^ (16 : Int).toNat))) (IntKind.wrap .i64 (IntKind.wrap .i64 y7 * 2 ^ (8 : Int).toNat))) (IntKind.wrap .i64 y8) : Int) h) ?_
    replace hp := ba hp; obtain ⟨y10, hy10, hp⟩ := hp
    refine L_close (X := v3_0) (bits .or .i64 (bits .or .i64 (bits .or .i64 (IntKind.wrap .i64 (IntKind.wrap .i64 y5 * 2 ^ (24 : Int).toNat)) (IntKind.wrap .i64 (IntKind.wrap .i64 y6 * 2 ^ (16 : Int).toNat))) (IntKind.wrap .i64 (IntKind.wrap .i64 y7 * 2 ^ (8 : Int).toNat))) (IntKind.wrap .i64 y8) : Int) rfl pk pk hy10 (fun X11 hdX11 hhX11 => ?_)
    subst hdX11
    try rw [← hhX11]
    try rw [← g_of_hdr hhX11]
    try rw [← o_of_hdr hhX11]
    refine s6 ?_
    exact ⟨(X11, IntKind.wrap .i64 (v3_1 + 1)), sb, (.sub ms), some_eq hp⟩
  · replace hp := cond_f hc4 hp
    refine W_exit ?_
    replace hp := map_any hp; obtain ⟨a12, hp, hx_a12⟩ := hp
    obtain rfl := hx3 _ hx_a12
    refine s6 ?_
    refine W_while (σ := (TL Int) × Int) GT.dat (fun ((v13_0, v13_1) : (TL Int) × Int) => [(7, (TL.hdr v13_0)), (9, .int .i64 v13_1)]) (fun ((v13_0, v13_1) : (TL Int) × Int) => [treeH v13_0]) [(0, _), (2, _)] [] (v3_0, 16) hp sb ms ?_
    clear hp
    rintro ⟨v13_0, v13_1⟩ x13 hp hx13
    replace hp := dd hp
    refine kq [0, 2, 7, 9] ?_
    refine s6 ?_
    refine kp [0, 2, 7, 9, 58] ?_
    refine W_cond rfl (fun hc14 => ?_) (fun hc14 => ?_)
    · replace hp := cond_t hc14 hp
      refine s4 ?_
      replace hp := idx_bind hp; obtain ⟨u15, hy15, hp⟩ := hp
      replace hp := ba hp; obtain ⟨y16, hy16, hp⟩ := hp
      replace hp := idx_bind hp; obtain ⟨u17, hy17, hp⟩ := hp
      obtain rfl : u15 = u17 := Option.some.inj (hy15.2.symm.trans hy17.2)
      replace hp := ba hp; obtain ⟨y18, hy18, hp⟩ := hp
      replace hp := idx_bind hp; obtain ⟨u19, hy19, hp⟩ := hp
      obtain rfl : u15 = u19 := Option.some.inj (hy15.2.symm.trans hy19.2)
      refine W_D0 [10] mix (by kernel_rfl) rfl ?_
      refine s3 ?_
      refine D_idxA (X := v13_0) GC.none (OpV.t rfl) (OpV.t rfl) el41.h (RdT.tree mm) (fun _ => hy15) ?_
      refine D_load0 GC.none (OpV.t rfl) (fun hg => RdT.at (RdT.tree mm) (hy15).2) one3.h rfl ?_
      refine D_callX GC.none fn132.h (OpVs.cons (OpV.t rfl) (OpVs.cons OpV.c (OpVs.nil))) (by exact fun hg w F hF hM => s_l3Right_walk w u15 7  _ hy16) ?_
      refine s3 ?_
      refine D_idxA (X := v13_0) GC.none (OpV.t rfl) (OpV.t rfl) el41.h (RdT.tree mm) (fun _ => hy15) ?_
      refine D_load0 GC.none (OpV.t rfl) (fun hg => RdT.at (RdT.tree mm) (hy15).2) one3.h rfl ?_
      refine D_callX GC.none fn132.h (OpVs.cons (OpV.t rfl) (OpVs.cons OpV.c (OpVs.nil))) (by exact fun hg w F hF hM => s_l3Right_walk w u15 18  _ hy18) ?_
      refine s4 ?_
      refine D_idxA (X := v13_0) GC.none (OpV.t rfl) (OpV.t rfl) el41.h (RdT.tree mm) (fun _ => hy15) ?_
      refine D_load0 GC.none (OpV.t rfl) (fun hg => RdT.at (RdT.tree mm) (hy15).2) one3.h rfl ?_
      refine s20 ?_
      refine s7 ?_
      replace hp := idx_bind hp; obtain ⟨u20, hy20, hp⟩ := hp
      replace hp := ba hp; obtain ⟨y21, hy21, hp⟩ := hp
      replace hp := idx_bind hp; obtain ⟨u22, hy22, hp⟩ := hp
      obtain rfl : u20 = u22 := Option.some.inj (hy20.2.symm.trans hy22.2)
      replace hp := ba hp; obtain ⟨y23, hy23, hp⟩ := hp
      replace hp := idx_bind hp; obtain ⟨u24, hy24, hp⟩ := hp
      obtain rfl : u20 = u24 := Option.some.inj (hy20.2.symm.trans hy24.2)
      refine W_D0 [11] mix (by kernel_rfl) rfl ?_
      refine s3 ?_
      refine D_idxA (X := v13_0) GC.none (OpV.t rfl) (OpV.t rfl) el41.h (RdT.tree mm) (fun _ => hy20) ?_
      refine D_load0 GC.none (OpV.t rfl) (fun hg => RdT.at (RdT.tree mm) (hy20).2) one3.h rfl ?_
      refine D_callX GC.none fn132.h (OpVs.cons (OpV.t rfl) (OpVs.cons OpV.c (OpVs.nil))) (by exact fun hg w F hF hM => s_l3Right_walk w u20 17  _ hy21) ?_
      refine s3 ?_
      refine D_idxA (X := v13_0) GC.none (OpV.t rfl) (OpV.t rfl) el41.h (RdT.tree mm) (fun _ => hy20) ?_
      refine D_load0 GC.none (OpV.t rfl) (fun hg => RdT.at (RdT.tree mm) (hy20).2) one3.h rfl ?_
      refine D_callX GC.none fn132.h (OpVs.cons (OpV.t rfl) (OpVs.cons OpV.c (OpVs.nil))) (by exact fun hg w F hF hM => s_l3Right_walk w u20 19  _ hy23) ?_
      refine s4 ?_
      refine D_idxA (X := v13_0) GC.none (OpV.t rfl) (OpV.t rfl) el41.h (RdT.tree mm) (fun _ => hy20) ?_
      refine D_load0 GC.none (OpV.t rfl) (fun hg => RdT.at (RdT.tree mm) (hy20).2) one3.h rfl ?_
      refine s20 ?_
      refine s6 ?_
      replace hp := idx_bind hp; obtain ⟨u25, hy25, hp⟩ := hp
      replace hp := idx_bind hp; obtain ⟨u26, hy26, hp⟩ := hp
      replace hp := ba hp; obtain ⟨y27, hy27, hp⟩ := hp
      refine W_DS (pre := [_, _, _, _, _, _, _, _, _, _, _, _, _, _, _, _, _, _]) (suf := [_, _]) [101, 102, 118] [] _ pc mix (by kernel_rfl) (by kernel_rfl) rfl ?_
      refine s5 ?_
      refine D_idxA (X := v13_0) GC.none (OpV.t rfl) (OpV.t rfl) el41.h (RdT.tree mm) (fun _ => hy25) ?_
      refine D_load0 GC.none (OpV.t rfl) (fun hg => RdT.at (RdT.tree mm) (hy25).2) one3.h rfl ?_
      refine s5 ?_
      refine D_idxA (X := v13_0) GC.none (OpV.t rfl) (OpV.t rfl) el41.h (RdT.tree mm) (fun _ => hy26) ?_
      refine D_load0 GC.none (OpV.t rfl) (fun hg => RdT.at (RdT.tree mm) (hy26).2) one3.h rfl ?_
      refine s3 ?_
      refine D_callX GC.none fn133.h (OpVs.cons (OpV.t rfl) (OpVs.nil)) (by exact fun hg w F hF hM => s_l3Word_walk w (IntKind.wrap .i64 (IntKind.wrap .i64 (IntKind.wrap .i64 (u25 + bits .xor .i64 (bits .xor .i64 y16 y18) (u15 / 2 ^ (3 : Int).toNat)) + u26) + bits .xor .i64 (bits .xor .i64 y21 y23) (u20 / 2 ^ (10 : Int).toNat)))  _ hy27) ?_
      refine s20 ?_
      replace hp := idx_bind hp; obtain ⟨u28, hy28, hp⟩ := hp
      refine L_idxA (X := v13_0) rfl rfl rfl el41.h (RdT.tree mm) hy28 ?_
      refine L_conv (M' := treeH u28 :: holeH v13_0 (v13_1.toNat) (GT.cells u28) :: _) (fun w h => hole_open hy28.2 pk h) ?_
      refine L_stH (X := v13_0) (i := v13_1.toNat) (sz := 1) (fo := 0) (n := 1) rfl rfl pk rfl (.inr ⟨one3.h, rfl⟩) rfl (allOne rfl) (Nat.le_of_ble_eq_true rfl) ?_
      refine L_conv (M' := treeH (y27 : Int) :: _) (fun w h => addF (y27 : Int) h) ?_
      replace hp := ba hp; obtain ⟨y29, hy29, hp⟩ := hp
      refine L_close (X := v13_0) (y27 : Int) rfl pk pk hy29 (fun X30 hdX30 hhX30 => ?_)
      subst hdX30
      try rw [← hhX30]
      try rw [← g_of_hdr hhX30]
      try rw [← o_of_hdr hhX30]
      refine s6 ?_
      exact ⟨(X30, IntKind.wrap .i64 (v13_1 + 1)), sb, (.sub ms), some_eq hp⟩
    · replace hp := cond_f hc14 hp
      refine W_exit ?_
      replace hp := map_any hp; obtain ⟨a31, hp, hx_a31⟩ := hp
      obtain rfl := hx13 _ hx_a31
      refine s2 ?_
      replace hp := ba hp; obtain ⟨y33, hy33, hp⟩ := hp
      refine L_mk0 Int rfl el41.h (fun X32 hdX32 => ?_)
      obtain rfl : GT.dat X32 = y33 := hdX32.trans (Option.some.inj hy33)
      clear hy33 hdX32
      refine s1 ?_
      replace hp := ba hp; obtain ⟨y35, hy35, hp⟩ := hp
      refine L_appT (X := X32) (Y := a0) rfl rfl rfl el41.h rfl rfl pk (RdT.old h0) hy35 (by decide) (fun X34 hdX34 => ?_)
      subst hdX34
      refine s8 ?_
      refine W_while (σ := (TL Int) × Int) GT.dat (fun ((v36_0, v36_1) : (TL Int) × Int) => [(12, (TL.hdr v36_0)), (13, .int .i64 v36_1)]) (fun ((v36_0, v36_1) : (TL Int) × Int) => [treeH v36_0]) [(0, _), (2, _), (7, _)] [treeH v13_0] (X34, 0) hp sb ms ?_
      clear hp
      rintro ⟨v36_0, v36_1⟩ x36 hp hx36
      replace hp := dd hp
      refine kq [0, 2, 7, 12, 13] ?_
      refine s6 ?_
      refine kp [0, 2, 7, 12, 13, 124] ?_
      refine W_cond rfl (fun hc37 => ?_) (fun hc37 => ?_)
      · replace hp := cond_t hc37 hp
        refine s6 ?_
        replace hp := idx_bind hp; obtain ⟨u38, hy38, hp⟩ := hp
        refine L_idxA (X := v36_0) rfl rfl rfl el41.h (RdT.tree mm) hy38 ?_
        refine L_load0 rfl rfl (RdT.at (RdT.tree mm) (hy38).2) one3.h rfl ?_
        refine s5 ?_
        replace hp := idx_bind hp; obtain ⟨u39, hy39, hp⟩ := hp
        refine L_idxA (X := v36_0) rfl rfl rfl el41.h (RdT.tree mm) hy39 ?_
        refine L_load0 rfl rfl (RdT.at (RdT.tree mm) (hy39).2) one3.h rfl ?_
        refine s3 ?_
        replace hp := idx_bind hp; obtain ⟨u40, hy40, hp⟩ := hp
        replace hp := ba hp; obtain ⟨y41, hy41, hp⟩ := hp
        replace hp := ba hp; obtain ⟨y42, hy42, hp⟩ := hp
        replace hp := ba hp; obtain ⟨y43, hy43, hp⟩ := hp
        replace hp := idx_bind hp; obtain ⟨u44, hy44, hp⟩ := hp
        replace hp := ba hp; obtain ⟨y45, hy45, hp⟩ := hp
        replace hp := idx_bind hp; obtain ⟨u46, hy46, hp⟩ := hp
        replace hp := idx_bind hp; obtain ⟨u47, hy47, hp⟩ := hp
        replace hp := idx_bind hp; obtain ⟨u48, hy48, hp⟩ := hp
        refine W_D0 [16] mix (by kernel_rfl) rfl ?_
        refine s1 ?_
        refine D_idxA (X := v36_0) GC.none (OpV.t rfl) OpV.c el41.h (RdT.tree mm) (fun _ => hy40) ?_
        refine D_load0 GC.none (OpV.t rfl) (fun hg => RdT.at (RdT.tree mm) (hy40).2) one3.h rfl ?_
        refine s1 ?_
        refine D_callX GC.none fn132.h (OpVs.cons (OpV.t rfl) (OpVs.cons OpV.c (OpVs.nil))) (by exact fun hg w F hF hM => s_l3Right_walk w u38 6  _ hy41) ?_
        refine s1 ?_
        refine D_callX GC.none fn132.h (OpVs.cons (OpV.t rfl) (OpVs.cons OpV.c (OpVs.nil))) (by exact fun hg w F hF hM => s_l3Right_walk w u38 11  _ hy42) ?_
        refine s2 ?_
        refine D_callX GC.none fn132.h (OpVs.cons (OpV.t rfl) (OpVs.cons OpV.c (OpVs.nil))) (by exact fun hg w F hF hM => s_l3Right_walk w u38 25  _ hy43) ?_
        refine s4 ?_
        refine D_idxA (X := v36_0) GC.none (OpV.t rfl) OpV.c el41.h (RdT.tree mm) (fun _ => hy44) ?_
        refine D_load0 GC.none (OpV.t rfl) (fun hg => RdT.at (RdT.tree mm) (hy44).2) one3.h rfl ?_
        refine s2 ?_
        refine D_xorU GC.none (OpV.t rfl) ?_
        refine D_callX GC.none fn133.h (OpVs.cons (OpV.t rfl) (OpVs.nil)) (by exact fun hg w F hF hM => s_l3Word_walk w (bits .xor .i64 (if IntKind.signed .i64 then -1 else IntKind.max .i64) u38)  _ hy45) ?_
        refine s1 ?_
        refine D_idxA (X := v36_0) GC.none (OpV.t rfl) OpV.c el41.h (RdT.tree mm) (fun _ => hy46) ?_
        refine D_load0 GC.none (OpV.t rfl) (fun hg => RdT.at (RdT.tree mm) (hy46).2) one3.h rfl ?_
        refine s5 ?_
        refine D_idxA (X := a2) GC.none (OpV.t rfl) (OpV.t rfl) el41.h (RdT.old h2) (fun _ => hy47) ?_
        refine D_load0 GC.none (OpV.t rfl) (fun hg => RdT.at (RdT.old h2) (hy47).2) one3.h rfl ?_
        refine s3 ?_
        refine D_idxA (X := v13_0) GC.none (OpV.t rfl) (OpV.t rfl) el41.h (RdT.tree mm) (fun _ => hy48) ?_
        refine D_load0 GC.none (OpV.t rfl) (fun hg => RdT.at (RdT.tree mm) (hy48).2) one3.h rfl ?_
        refine s20 ?_
        refine s20 ?_
        refine s2 ?_
        replace hp := ba hp; obtain ⟨y49, hy49, hp⟩ := hp
        replace hp := ba hp; obtain ⟨y50, hy50, hp⟩ := hp
        replace hp := ba hp; obtain ⟨y51, hy51, hp⟩ := hp
        replace hp := idx_bind hp; obtain ⟨u52, hy52, hp⟩ := hp
        replace hp := idx_bind hp; obtain ⟨u53, hy53, hp⟩ := hp
        replace hp := idx_bind hp; obtain ⟨u54, hy54, hp⟩ := hp
        obtain rfl : u52 = u54 := Option.some.inj (hy52.2.symm.trans hy54.2)
        replace hp := idx_bind hp; obtain ⟨u55, hy55, hp⟩ := hp
        obtain rfl : u53 = u55 := Option.some.inj (hy53.2.symm.trans hy55.2)
        refine W_D0 [17] mix (by kernel_rfl) rfl ?_
        refine s1 ?_
        refine D_callX GC.none fn132.h (OpVs.cons (OpV.t rfl) (OpVs.cons OpV.c (OpVs.nil))) (by exact fun hg w F hF hM => s_l3Right_walk w u39 2  _ hy49) ?_
        refine s1 ?_
        refine D_callX GC.none fn132.h (OpVs.cons (OpV.t rfl) (OpVs.cons OpV.c (OpVs.nil))) (by exact fun hg w F hF hM => s_l3Right_walk w u39 13  _ hy50) ?_
        refine s2 ?_
        refine D_callX GC.none fn132.h (OpVs.cons (OpV.t rfl) (OpVs.cons OpV.c (OpVs.nil))) (by exact fun hg w F hF hM => s_l3Right_walk w u39 22  _ hy51) ?_
        refine s3 ?_
        refine D_idxA (X := v36_0) GC.none (OpV.t rfl) OpV.c el41.h (RdT.tree mm) (fun _ => hy52) ?_
        refine D_load0 GC.none (OpV.t rfl) (fun hg => RdT.at (RdT.tree mm) (hy52).2) one3.h rfl ?_
        refine s3 ?_
        refine D_idxA (X := v36_0) GC.none (OpV.t rfl) OpV.c el41.h (RdT.tree mm) (fun _ => hy53) ?_
        refine D_load0 GC.none (OpV.t rfl) (fun hg => RdT.at (RdT.tree mm) (hy53).2) one3.h rfl ?_
        refine s3 ?_
        refine D_idxA (X := v36_0) GC.none (OpV.t rfl) OpV.c el41.h (RdT.tree mm) (fun _ => hy52) ?_
        refine D_load0 GC.none (OpV.t rfl) (fun hg => RdT.at (RdT.tree mm) (hy52).2) one3.h rfl ?_
        refine s1 ?_
        refine D_idxA (X := v36_0) GC.none (OpV.t rfl) OpV.c el41.h (RdT.tree mm) (fun _ => hy53) ?_
        refine D_load0 GC.none (OpV.t rfl) (fun hg => RdT.at (RdT.tree mm) (hy53).2) one3.h rfl ?_
        refine s20 ?_
        refine s15 ?_
        replace hp := ba hp; obtain ⟨y56, hy56, hp⟩ := hp
        replace hp := idx_bind hp; obtain ⟨u57, hy57, hp⟩ := hp
        obtain rfl : u39 = u57 := Option.some.inj (hy39.2.symm.trans hy57.2)
        replace hp := idx_bind hp; obtain ⟨u58, hy58, hp⟩ := hp
        obtain rfl : u52 = u58 := Option.some.inj (hy52.2.symm.trans hy58.2)
        replace hp := idx_bind hp; obtain ⟨u59, hy59, hp⟩ := hp
        obtain rfl : u53 = u59 := Option.some.inj (hy53.2.symm.trans hy59.2)
        replace hp := idx_bind hp; obtain ⟨u60, hy60, hp⟩ := hp
        replace hp := ba hp; obtain ⟨y61, hy61, hp⟩ := hp
        replace hp := idx_bind hp; obtain ⟨u62, hy62, hp⟩ := hp
        obtain rfl : u38 = u62 := Option.some.inj (hy38.2.symm.trans hy62.2)
        replace hp := idx_bind hp; obtain ⟨u63, hy63, hp⟩ := hp
        obtain rfl : u44 = u63 := Option.some.inj (hy44.2.symm.trans hy63.2)
        replace hp := idx_bind hp; obtain ⟨u64, hy64, hp⟩ := hp
        obtain rfl : u46 = u64 := Option.some.inj (hy46.2.symm.trans hy64.2)
        refine W_DS (pre := [_, _, _, _, _, _, _, _, _, _, _, _, _, _, _, _, _, _, _, _, _, _, _, _, _, _, _, _]) (suf := [_, _]) [200, 203, 206, 209, 215, 218, 221, 224] [] _ pc mix (by kernel_rfl) (by kernel_rfl) rfl ?_
        refine s3 ?_
        refine D_callX GC.none fn133.h (OpVs.cons (OpV.t rfl) (OpVs.nil)) (by exact fun hg w F hF hM => s_l3Word_walk w (IntKind.wrap .i64 (IntKind.wrap .i64 (IntKind.wrap .i64 (IntKind.wrap .i64 (IntKind.wrap .i64 (u40 + bits .xor .i64 (bits .xor .i64 y41 y42) y43) + bits .xor .i64 (bits .and .i64 u38 u44) (bits .and .i64 y45 u46)) + u47) + u48) + IntKind.wrap .i64 (bits .xor .i64 (bits .xor .i64 y49 y50) y51 + bits .xor .i64 (bits .xor .i64 (bits .and .i64 u39 u52) (bits .and .i64 u39 u53)) (bits .and .i64 u52 u53))))  _ hy56) ?_
        refine s1 ?_
        refine D_idxA (X := v36_0) GC.none (OpV.t rfl) OpV.c el41.h (RdT.tree mm) (fun _ => hy39) ?_
        refine D_load0 GC.none (OpV.t rfl) (fun hg => RdT.at (RdT.tree mm) (hy39).2) one3.h rfl ?_
        refine s1 ?_
        refine D_idxA (X := v36_0) GC.none (OpV.t rfl) OpV.c el41.h (RdT.tree mm) (fun _ => hy52) ?_
        refine D_load0 GC.none (OpV.t rfl) (fun hg => RdT.at (RdT.tree mm) (hy52).2) one3.h rfl ?_
        refine s1 ?_
        refine D_idxA (X := v36_0) GC.none (OpV.t rfl) OpV.c el41.h (RdT.tree mm) (fun _ => hy53) ?_
        refine D_load0 GC.none (OpV.t rfl) (fun hg => RdT.at (RdT.tree mm) (hy53).2) one3.h rfl ?_
        refine s1 ?_
        refine D_idxA (X := v36_0) GC.none (OpV.t rfl) OpV.c el41.h (RdT.tree mm) (fun _ => hy60) ?_
        refine D_load0 GC.none (OpV.t rfl) (fun hg => RdT.at (RdT.tree mm) (hy60).2) one3.h rfl ?_
        refine s2 ?_
        refine D_callX GC.none fn133.h (OpVs.cons (OpV.t rfl) (OpVs.nil)) (by exact fun hg w F hF hM => s_l3Word_walk w (IntKind.wrap .i64 (u60 + IntKind.wrap .i64 (IntKind.wrap .i64 (IntKind.wrap .i64 (IntKind.wrap .i64 (u40 + bits .xor .i64 (bits .xor .i64 y41 y42) y43) + bits .xor .i64 (bits .and .i64 u38 u44) (bits .and .i64 y45 u46)) + u47) + u48)))  _ hy61) ?_
        refine s1 ?_
        refine D_idxA (X := v36_0) GC.none (OpV.t rfl) OpV.c el41.h (RdT.tree mm) (fun _ => hy38) ?_
        refine D_load0 GC.none (OpV.t rfl) (fun hg => RdT.at (RdT.tree mm) (hy38).2) one3.h rfl ?_
        refine s1 ?_
        refine D_idxA (X := v36_0) GC.none (OpV.t rfl) OpV.c el41.h (RdT.tree mm) (fun _ => hy44) ?_
        refine D_load0 GC.none (OpV.t rfl) (fun hg => RdT.at (RdT.tree mm) (hy44).2) one3.h rfl ?_
        refine s1 ?_
        refine D_idxA (X := v36_0) GC.none (OpV.t rfl) OpV.c el41.h (RdT.tree mm) (fun _ => hy46) ?_
        refine D_load0 GC.none (OpV.t rfl) (fun hg => RdT.at (RdT.tree mm) (hy46).2) one3.h rfl ?_
        refine s20 ?_
        refine s10 ?_
        replace hp := ba hp; obtain ⟨y65, hy65, hp⟩ := hp
        refine L_bsN ([y56, u39, u52, u53, y61, u38, u44, u46] : List Int) (xs := [(0, .tmp 200), (1, .tmp 203), (2, .tmp 206), (3, .tmp 209), (4, .tmp 215), (5, .tmp 218), (6, .tmp 221), (7, .tmp 224)]) rfl rfl el41.h rfl rfl rfl rfl rfl rfl rfl hy65 (fun X66 hdX66 => ?_)
        subst hdX66
        refine s7 ?_
        exact ⟨(X66, IntKind.wrap .i64 (v36_1 + 1)), sb, (.sub ms), some_eq hp⟩
      · replace hp := cond_f hc37 hp
        refine W_exit ?_
        replace hp := map_any hp; obtain ⟨a67, hp, hx_a67⟩ := hp
        obtain rfl := hx36 _ hx_a67
        refine s2 ?_
        replace hp := ba hp; obtain ⟨y69, hy69, hp⟩ := hp
        refine L_mk0 Int rfl el41.h (fun X68 hdX68 => ?_)
        obtain rfl : GT.dat X68 = y69 := hdX68.trans (Option.some.inj hy69)
        clear hy69 hdX68
        refine s8 ?_
        refine W_while (σ := (TL Int) × Int) GT.dat (fun ((v70_0, v70_1) : (TL Int) × Int) => [(18, (TL.hdr v70_0)), (19, .int .i64 v70_1)]) (fun ((v70_0, v70_1) : (TL Int) × Int) => [treeH v70_0]) [(0, _), (12, _)] [treeH v36_0] (X68, 0) hp sb ms ?_
        clear hp
        rintro ⟨v70_0, v70_1⟩ x70 hp hx70
        replace hp := dd hp
        refine kq [0, 12, 18, 19] ?_
        refine s6 ?_
        refine kp [0, 12, 18, 19, 228] ?_
        refine W_cond rfl (fun hc71 => ?_) (fun hc71 => ?_)
        · replace hp := cond_t hc71 hp
          refine s3 ?_
          replace hp := idx_bind hp; obtain ⟨u72, hy72, hp⟩ := hp
          replace hp := idx_bind hp; obtain ⟨u73, hy73, hp⟩ := hp
          replace hp := ba hp; obtain ⟨y74, hy74, hp⟩ := hp
          refine W_DS (pre := [_, _, _, _, _, _, _, _, _, _, _, _]) (suf := [_, _]) [231, 242] [] _ pc mix (by kernel_rfl) (by kernel_rfl) rfl ?_
          refine s3 ?_
          refine D_idxA (X := a0) GC.none (OpV.t rfl) (OpV.t rfl) el41.h (RdT.old h0) (fun _ => hy72) ?_
          refine D_load0 GC.none (OpV.t rfl) (fun hg => RdT.at (RdT.old h0) (hy72).2) one3.h rfl ?_
          refine s2 ?_
          refine D_idxA (X := v36_0) GC.none (OpV.t rfl) (OpV.t rfl) el41.h (RdT.tree mm) (fun _ => hy73) ?_
          refine D_load0 GC.none (OpV.t rfl) (fun hg => RdT.at (RdT.tree mm) (hy73).2) one3.h rfl ?_
          refine s1 ?_
          refine D_callX GC.none fn133.h (OpVs.cons (OpV.t rfl) (OpVs.nil)) (by exact fun hg w F hF hM => s_l3Word_walk w (IntKind.wrap .i64 (u72 + u73))  _ hy74) ?_
          refine D_bs1 (OpV.t rfl) el41.h rfl (by decide) (by decide) rfl ?_
          refine s1 ?_
          refine Give_R rfl rfl ?_
          rintro _ _ ⟨bb242, rfl, rfl⟩
          simp only [List.cons_append, List.nil_append]
          refine s12 ?_
          replace hp := ba hp; obtain ⟨y76, hy76, hp⟩ := hp
          refine L_app1F (X := v70_0) (y74 : Int) rfl rfl rfl el41.h rfl rfl pk mm  hy76 (by decide) (fun X75 hdX75 => ?_)
          subst hdX75
          refine s7 ?_
          exact ⟨(X75, IntKind.wrap .i64 (v70_1 + 1)), sb, (.sub ms), some_eq hp⟩
        · replace hp := cond_f hc71 hp
          refine W_exit ?_
          replace hp := map_any hp; obtain ⟨a77, hp, hx_a77⟩ := hp
          obtain rfl := hx70 _ hx_a77
          refine s5 ?_
          obtain rfl := Option.some.inj hp
          refine s1 ?_
          refine res1 rfl (ResOK.tmp rfl) ⟨v70_0, rfl, rfl, rfl⟩ ms
noncomputable def s_Sha (a0 : ByteArray) : Option ByteArray :=
  Option.bind (some ([(128 : UInt8)] : List UInt8)) (fun y1 => whileP (fun s3 : (List UInt8) => cond (!decide ((IntKind.wrap .i64 ((a0.size : Int) + (s3.length : Int))).tmod 64 = 56)) (Option.bind (appP s3 [(0 : UInt8)]) (fun y6 => some (.inl (y6)))) (Option.map .inr (whileP (fun s8 : (List UInt8) × Int => cond (decide (s8.2 < 8)) (Option.bind (shrP .i64 (IntKind.wrap .i64 ((a0.size : Int) * 8)) (IntKind.wrap .u64 (IntKind.wrap .i64 (56 - IntKind.wrap .i64 (8 * s8.2))))) (fun y10 => Option.bind (u8P (IntKind.wrap .u8 (bits .and .i64 y10 255))) (fun y11 => Option.bind (appP s8.1 [y11]) (fun y13 => some (.inl ((y13, IntKind.wrap .i64 (s8.2 + 1)))))))) (Option.map .inr (Option.bind (catP a0 (strP s8.1)) (fun y15 => Option.bind (some ([1779033703, 3144134277, 1013904242, 2773480762, 1359893119, 2600822924, 528734635, 1541459225] : List Int)) (fun y16 => Option.bind (s_l3Keys ) (fun y18 => whileP (fun s19 : (List Int) × Int => cond (decide (s19.2 < (y15.size : Int))) (Option.bind (sslP y15 s19.2 (IntKind.wrap .i64 (s19.2 + 64))) (fun y21 => Option.bind (s_l3Block s19.1 y21 y18) (fun y22 => some (.inl ((y22, IntKind.wrap .i64 (s19.2 + 64))))))) (Option.map .inr (Option.bind (some ([] : List UInt8)) (fun y25 => whileP (fun s26 : (List UInt8) × Int => cond (decide (s26.2 < 8)) (Option.bind (idx s19.1 s26.2) (fun y28 => Option.bind (idx s19.1 s26.2) (fun y29 => Option.bind (idx s19.1 s26.2) (fun y30 => Option.bind (idx s19.1 s26.2) (fun y31 => Option.bind (u8P (IntKind.wrap .u8 (y28 / 2 ^ (24 : Int).toNat))) (fun y32 => Option.bind (u8P (IntKind.wrap .u8 (bits .and .i64 (y29 / 2 ^ (16 : Int).toNat) 255))) (fun y33 => Option.bind (u8P (IntKind.wrap .u8 (bits .and .i64 (y30 / 2 ^ (8 : Int).toNat) 255))) (fun y34 => Option.bind (u8P (IntKind.wrap .u8 (bits .and .i64 y31 255))) (fun y35 => Option.bind (some ([y32, y33, y34, y35] : List UInt8)) (fun y36 => Option.bind (appP s26.1 y36) (fun y39 => some (.inl ((y39, IntKind.wrap .i64 (s26.2 + 1))))))))))))))) (Option.map .inr (some (strP s26.1)))) (y25, 0))))) (y16, 0))))))) (s3, 0)))) y1)
set_option maxHeartbeats 2000000 in
theorem s_Sha_walk (w : World) (a0 : ByteArray)  (r : ByteArray) (hp : s_Sha a0 = some r) : Spec Tryz.prog 87 [.string a0].toArray w [] (IsV (.string r)) := by
  refine Spec.intro Tryz.func87 rfl Tryz.ntmps87 rfl ?_
  unfold s_Sha at hp
  replace hp := dd hp
  refine s12 ?_
  replace hp := ba hp; obtain ⟨y1, hy1, hp⟩ := hp
  refine L_bsN ([(128 : UInt8)] : List UInt8) (xs := [(0, .const (.int .u8 128))]) rfl rfl el22.h rfl rfl rfl rfl rfl rfl rfl hy1 (fun X2 hdX2 => ?_)
  subst hdX2
  refine s4 ?_
  refine W_while (σ := (TL UInt8)) GT.dat (fun (v3_0 : (TL UInt8)) => [(4, (TL.hdr v3_0))]) (fun (v3_0 : (TL UInt8)) => [treeH v3_0]) [(0, _), (3, _)] [] X2 hp sb ms ?_
  clear hp
  rintro v3_0 x3 hp hx3
  replace hp := dd hp
  refine kq [0, 3, 4] ?_
  refine s10 ?_
  refine kp [0, 3, 4, 20] ?_
  refine W_cond rfl (fun hc4 => ?_) (fun hc4 => ?_)
  · replace hp := cond_t hc4 hp
    refine s4 ?_
    refine L_buildSlice1 rfl rfl el22.h rfl (by decide) (by decide) rfl (fun bb22 => ?_)
    replace hp := ba hp; obtain ⟨y6, hy6, hp⟩ := hp
    refine L_app1F (X := v3_0) ((0 : UInt8) : UInt8) rfl rfl rfl el22.h rfl rfl pk mm  hy6 (by decide) (fun X5 hdX5 => ?_)
    subst hdX5
    refine s2 ?_
    exact ⟨X5, sb, (.sub ms), some_eq hp⟩
  · replace hp := cond_f hc4 hp
    refine W_exit ?_
    replace hp := map_any hp; obtain ⟨a7, hp, hx_a7⟩ := hp
    obtain rfl := hx3 _ hx_a7
    refine s6 ?_
    refine W_while (σ := (TL UInt8) × Int) GT.dat (fun ((v8_0, v8_1) : (TL UInt8) × Int) => [(4, (TL.hdr v8_0)), (5, .int .i64 v8_1)]) (fun ((v8_0, v8_1) : (TL UInt8) × Int) => [treeH v8_0]) [(0, _), (3, _)] [] (v3_0, 0) hp sb ms ?_
    clear hp
    rintro ⟨v8_0, v8_1⟩ x8 hp hx8
    replace hp := dd hp
    refine kq [0, 3, 4, 5] ?_
    refine s6 ?_
    refine kp [0, 3, 4, 5, 25] ?_
    refine W_cond rfl (fun hc9 => ?_) (fun hc9 => ?_)
    · replace hp := cond_t hc9 hp
      refine s10 ?_
      refine L_convInt rfl rfl und115.h (by rw [und3.h]; rfl) ?_
      replace hp := ba hp; obtain ⟨y10, hy10, hp⟩ := hp
      refine L_binV rfl rfl rfl (bv_shrP hy10) ?_
      refine s1 ?_
      refine L_convInt rfl rfl und5.h (by rw [und3.h]; rfl) ?_
      replace hp := ba hp; obtain ⟨y11, hy11, hp⟩ := hp
      have ey11 := u8P_some hy11
      try simp only [dat_u8] at ey11
      try simp only [ey11]
      refine L_buildSlice1 rfl rfl el22.h rfl (by decide) (by decide) rfl (fun bb38 => ?_)
      replace hp := ba hp; obtain ⟨y13, hy13, hp⟩ := hp
      refine L_app1F (X := v8_0) (y11 : UInt8) rfl rfl rfl el22.h rfl rfl pk mm  hy13 (by decide) (fun X12 hdX12 => ?_)
      subst hdX12
      refine s7 ?_
      exact ⟨(X12, IntKind.wrap .i64 (v8_1 + 1)), sb, (.sub ms), some_eq hp⟩
    · replace hp := cond_f hc9 hp
      refine W_exit ?_
      replace hp := map_any hp; obtain ⟨a14, hp, hx_a14⟩ := hp
      obtain rfl := hx8 _ hx_a14
      refine s4 ?_
      refine L_toStr (X := v8_0) rfl rfl und22.h und5.h und9.h (RdT.tree mm) ?_
      replace hp := ba hp; obtain ⟨y15, hy15, hp⟩ := hp
      refine L_binV rfl rfl rfl (bv_saddP hy15) ?_
      refine s4 ?_
      replace hp := ba hp; obtain ⟨y16, hy16, hp⟩ := hp
      refine L_bsN ([1779033703, 3144134277, 1013904242, 2773480762, 1359893119, 2600822924, 528734635, 1541459225] : List Int) (xs := [(0, .const (.int .i64 1779033703)), (1, .const (.int .i64 3144134277)), (2, .const (.int .i64 1013904242)), (3, .const (.int .i64 2773480762)), (4, .const (.int .i64 1359893119)), (5, .const (.int .i64 2600822924)), (6, .const (.int .i64 528734635)), (7, .const (.int .i64 1541459225))]) rfl rfl el41.h rfl rfl rfl rfl rfl rfl rfl hy16 (fun X17 hdX17 => ?_)
      subst hdX17
      refine s4 ?_
      replace hp := ba hp; obtain ⟨y18, hy18, hp⟩ := hp
      refine L_callR rfl fn115.h rfl (by exact fun w hw => s_l3Keys_walk w   _ hy18) ?_
      rintro _ _ ⟨y18x0, rfl, rfl, rfl⟩
      refine sc ?_
      replace hp := dd hp
      refine s8 ?_
      refine W_while (σ := (TL Int) × Int) GT.dat (fun ((v19_0, v19_1) : (TL Int) × Int) => [(7, (TL.hdr v19_0)), (9, .int .i64 v19_1)]) (fun ((v19_0, v19_1) : (TL Int) × Int) => [treeH v19_0]) [(6, _), (8, _)] [treeH y18x0] (X17, 0) hp sb ms ?_
      clear hp
      rintro ⟨v19_0, v19_1⟩ x19 hp hx19
      replace hp := dd hp
      refine kq [6, 7, 8, 9] ?_
      refine s8 ?_
      refine kp [6, 7, 8, 9, 49] ?_
      refine W_cond rfl (fun hc20 => ?_) (fun hc20 => ?_)
      · replace hp := cond_t hc20 hp
        refine s9 ?_
        replace hp := ba hp; obtain ⟨y21, hy21, hp⟩ := hp
        refine L_ssl rfl rfl rfl rfl str9.h hy21 ?_
        refine s1 ?_
        replace hp := ba hp; obtain ⟨y22, hy22, hp⟩ := hp
        refine L_callR rfl fn116.h rfl (by exact fun w hw => s_l3Block_walk w v19_0 y21 y18x0 (RdT.now (RdT.tree mm) hw) (RdT.now (RdT.tree mm) hw) _ hy22) ?_
        rintro _ _ ⟨y22x0, rfl, rfl, rfl⟩
        refine sc ?_
        replace hp := dd hp
        refine s7 ?_
        exact ⟨(y22x0, IntKind.wrap .i64 (v19_1 + 64)), sb, (.sub ms), some_eq hp⟩
      · replace hp := cond_f hc20 hp
        refine W_exit ?_
        replace hp := map_any hp; obtain ⟨a23, hp, hx_a23⟩ := hp
        obtain rfl := hx19 _ hx_a23
        refine s2 ?_
        replace hp := ba hp; obtain ⟨y25, hy25, hp⟩ := hp
        refine L_mk0 UInt8 rfl el22.h (fun X24 hdX24 => ?_)
        obtain rfl : GT.dat X24 = y25 := hdX24.trans (Option.some.inj hy25)
        clear hy25 hdX24
        refine s8 ?_
        refine W_while (σ := (TL UInt8) × Int) GT.dat (fun ((v26_0, v26_1) : (TL UInt8) × Int) => [(10, (TL.hdr v26_0)), (11, .int .i64 v26_1)]) (fun ((v26_0, v26_1) : (TL UInt8) × Int) => [treeH v26_0]) [(7, _)] [treeH v19_0] (X24, 0) hp sb ms ?_
        clear hp
        rintro ⟨v26_0, v26_1⟩ x26 hp hx26
        replace hp := dd hp
        refine kq [7, 10, 11] ?_
        refine s6 ?_
        refine kp [7, 10, 11, 62] ?_
        refine W_cond rfl (fun hc27 => ?_) (fun hc27 => ?_)
        · replace hp := cond_t hc27 hp
          refine s3 ?_
          replace hp := idx_bind hp; obtain ⟨u28, hy28, hp⟩ := hp
          replace hp := idx_bind hp; obtain ⟨u29, hy29, hp⟩ := hp
          obtain rfl : u28 = u29 := Option.some.inj (hy28.2.symm.trans hy29.2)
          replace hp := idx_bind hp; obtain ⟨u30, hy30, hp⟩ := hp
          obtain rfl : u28 = u30 := Option.some.inj (hy28.2.symm.trans hy30.2)
          replace hp := idx_bind hp; obtain ⟨u31, hy31, hp⟩ := hp
          obtain rfl : u28 = u31 := Option.some.inj (hy28.2.symm.trans hy31.2)
          replace hp := ba hp; obtain ⟨y32, hy32, hp⟩ := hp
          have ey32 := u8P_some hy32
          try simp only [dat_u8] at ey32
          try simp only [ey32]
          replace hp := ba hp; obtain ⟨y33, hy33, hp⟩ := hp
          have ey33 := u8P_some hy33
          try simp only [dat_u8] at ey33
          try simp only [ey33]
          replace hp := ba hp; obtain ⟨y34, hy34, hp⟩ := hp
          have ey34 := u8P_some hy34
          try simp only [dat_u8] at ey34
          try simp only [ey34]
          replace hp := ba hp; obtain ⟨y35, hy35, hp⟩ := hp
          have ey35 := u8P_some hy35
          try simp only [dat_u8] at ey35
          try simp only [ey35]
          replace hp := ba hp; obtain ⟨y36, hy36, hp⟩ := hp
          refine W_DS (pre := [_, _, _, _, _, _, _, _, _, _, _, _, _, _, _, _, _, _, _, _, _, _, _, _, _, _, _, _]) (suf := [_, _]) [65, 92] [] _ pc mix (by kernel_rfl) (by kernel_rfl) rfl ?_
          refine s3 ?_
          refine D_idxA (X := v19_0) GC.none (OpV.t rfl) (OpV.t rfl) el41.h (RdT.tree mm) (fun _ => hy28) ?_
          refine D_load0 GC.none (OpV.t rfl) (fun hg => RdT.at (RdT.tree mm) (hy28).2) one3.h rfl ?_
          refine s1 ?_
          refine D_convInt GC.none (OpV.t rfl) und5.h (by rw [und3.h]; rfl) ?_
          refine s2 ?_
          refine D_idxA (X := v19_0) GC.none (OpV.t rfl) (OpV.t rfl) el41.h (RdT.tree mm) (fun _ => hy28) ?_
          refine D_load0 GC.none (OpV.t rfl) (fun hg => RdT.at (RdT.tree mm) (hy28).2) one3.h rfl ?_
          refine s2 ?_
          refine D_convInt GC.none (OpV.t rfl) und5.h (by rw [und3.h]; rfl) ?_
          refine s2 ?_
          refine D_idxA (X := v19_0) GC.none (OpV.t rfl) (OpV.t rfl) el41.h (RdT.tree mm) (fun _ => hy28) ?_
          refine D_load0 GC.none (OpV.t rfl) (fun hg => RdT.at (RdT.tree mm) (hy28).2) one3.h rfl ?_
          refine s2 ?_
          refine D_convInt GC.none (OpV.t rfl) und5.h (by rw [und3.h]; rfl) ?_
          refine s2 ?_
          refine D_idxA (X := v19_0) GC.none (OpV.t rfl) (OpV.t rfl) el41.h (RdT.tree mm) (fun _ => hy28) ?_
          refine D_load0 GC.none (OpV.t rfl) (fun hg => RdT.at (RdT.tree mm) (hy28).2) one3.h rfl ?_
          refine s1 ?_
          refine D_convInt GC.none (OpV.t rfl) und5.h (by rw [und3.h]; rfl) ?_
          refine D_bsN ([y32, y33, y34, y35] : List UInt8) (xs := [(0, .tmp 71), (1, .tmp 78), (2, .tmp 85), (3, .tmp 91)]) (ps := [(0, .int .u8 (y32.toNat : Int)), (1, .int .u8 (y33.toNat : Int)), (2, .int .u8 (y34.toNat : Int)), (3, .int .u8 (y35.toNat : Int))]) (OpVp.cons (by rw [← ey32]; exact (OpV.t rfl)) (OpVp.cons (by rw [← ey33]; exact (OpV.t rfl)) (OpVp.cons (by rw [← ey34]; exact (OpV.t rfl)) (OpVp.cons (by rw [← ey35]; exact (OpV.t rfl)) (OpVp.nil))))) el22.h rfl rfl rfl rfl rfl rfl rfl hy36 ?_
          refine s1 ?_
          refine Give_R rfl rfl ?_
          rintro _ _ ⟨X37, rfl, rfl, rfl⟩
          simp only [List.cons_append, List.nil_append]
          refine s20 ?_
          refine s8 ?_
          replace hp := ba hp; obtain ⟨y39, hy39, hp⟩ := hp
          refine L_appT (X := v26_0) (Y := X37) rfl rfl rfl el22.h rfl rfl pk (RdT.tree mm) hy39 (by decide) (fun X38 hdX38 => ?_)
          subst hdX38
          refine s7 ?_
          exact ⟨(X38, IntKind.wrap .i64 (v26_1 + 1)), sb, (.sub ms), some_eq hp⟩
        · replace hp := cond_f hc27 hp
          refine W_exit ?_
          replace hp := map_any hp; obtain ⟨a40, hp, hx_a40⟩ := hp
          obtain rfl := hx26 _ hx_a40
          refine s3 ?_
          refine L_toStr (X := v26_0) rfl rfl und22.h und5.h und9.h (RdT.tree mm) ?_
          refine s2 ?_
          obtain rfl := Option.some.inj hp
          refine s1 ?_
          refine res1 rfl (ResOK.tmp rfl) ⟨rfl, rfl⟩ ms
noncomputable def s_Short (a0 : ByteArray) : Option ByteArray :=
  Option.bind (s_Sha a0) (fun y1 => Option.bind (sslP y1 0 8) (fun y2 => some y2))
theorem s_Short_walk (w : World) (a0 : ByteArray)  (r : ByteArray) (hp : s_Short a0 = some r) : Spec Tryz.prog 76 [.string a0].toArray w [] (IsV (.string r)) := by
  refine Spec.intro Tryz.func76 rfl Tryz.ntmps76 rfl ?_
  unfold s_Short at hp
  replace hp := dd hp
  refine s7 ?_
  replace hp := ba hp; obtain ⟨y1, hy1, hp⟩ := hp
  refine L_callX rfl fn87.h rfl (by exact fun w hw => s_Sha_walk w a0  _ hy1) ?_
  replace hp := ba hp; obtain ⟨y2, hy2, hp⟩ := hp
  refine L_ssl rfl rfl rfl rfl str9.h hy2 ?_
  refine s2 ?_
  obtain rfl := Option.some.inj hp
  refine s1 ?_
  refine res1 rfl (ResOK.tmp rfl) ⟨rfl, rfl⟩ ms
end Go.Proofs.SL
namespace Go.Proofs.SL
open Go
set_option maxHeartbeats 2000000
abbrev T_Up := ByteArray × (TL Int) × Int
abbrev T_Ups := Int × (TL T_Up)
end Go.Proofs.SL
namespace Go.Proofs.SL
open Go
set_option maxHeartbeats 2000000
abbrev T_CSnap := ByteArray × ByteArray × (TL ByteArray)
abbrev T_CSet := ByteArray × (TL T_CSnap)
abbrev T_Catalog := (TL T_CSet)
end Go.Proofs.SL
namespace Go.Proofs.SL
open Go
variable {Γ : Cx} {l : Envl} {M M' M1 M2 F : List HP} {Q : Post} {K : Kont} {w0 w : World} {S0 : List Nat} {P : Program}
variable {rest : List Oper} {d : Nat} {ty : TypeId} {pos : String} {af : Array Edge}
theorem Spec.pre {f : FuncId} {args : Array Value} {R : Value → List HP → Prop} (hc : ∀ w1 S, Holds w1 S M w → Holds w1 S M' w) (h : Spec P f args w M' R) : Spec P f args w M R := fun hw => by
  have h2 : Holds w (fps M) (M' ++ []) w := by simpa using hc _ _ hw
  exact (h (Holds.split h2)).mono fun e w'' ⟨v, M'', h3, h4, h5⟩ => ⟨v, M'', h3, h4, by simpa using Holds.frame h2 h5⟩
section
variable {ops : Array Oper} {Msh pool pool' : List HP} {E : Fl} {rs : List (Option Nat × Rel)} {cs0 : List Nat} {KD : RKont}
/-- A call that takes over what an operation of the region has made. -/
theorem D_callC {t f : Nat} {xs : List Operand} {ats : Array TypeId} (Rt R : Rel) (M1 : List HP) (vsf : Value → List Value) (hp : List.Perm pool (M1 ++ pool')) (ht : E.lookup t = some Rt)
    (hf : IsFn Γ.P f) (hx : ∀ u, OpVs ((t, FC True u) :: dropE [t] E) True xs (vsf u))
    (hc : ∀ w F v Mt, Rt v Mt → Holds Γ.w0 Γ.S0 (Mt ++ M1 ++ F) w → (∀ h, h ∈ Msh → h ∈ F) → Spec Γ.P f (vsf v).toArray w (Mt ++ M1) R)
    (hlin : linB ops { dst := some d, op := .call { callee := .value (.func f), args := xs.toArray, argTypes := ats }, type := ty, pos := pos, after := af, guard := none } [t] = true)
    (hk : DV Γ ops Msh pool' ((d, R) :: dropE [t] E) ((some d, R) :: rs) ([t] ++ cs0) rest KD) :
    DV Γ ops Msh pool E rs cs0 ({ dst := some d, op := .call { callee := .value (.func f), args := xs.toArray, argTypes := ats }, type := ty, pos := pos, after := af, guard := none } :: rest) KD := by
  refine DV.mk R M1 pool' [t] hp hlin ?_ hk
  intro a w F Mk _ _ hw hm hfa hcf
  obtain ⟨Mx, Mk', rfl, hRR, hnil⟩ := hcf
  have hnil : Mk' = [] := hnil
  subst hnil
  have h1 := hRR _ ht
  rw [if_pos (by simp [Region.wanted])]
  generalize hv : a.tmps.getD t undef = u at h1
  have hf2 : Facts ((t, FC True u) :: dropE [t] E) (Oper.looksAt ops { dst := some d, op := .call { callee := .value (.func f), args := xs.toArray, argTypes := ats }, type := ty, pos := pos, after := af, guard := none }) F a := by
    intro t' R' h1 h2
    rw [List.lookup_cons] at h2
    cases hb : t' == t with
    | true =>
      rw [hb] at h2
      cases h2
      have : t' = t := by simpa using hb
      subst this
      exact ⟨[], ⟨rfl, fun _ => hv, fun hn => (hn trivial).elim⟩, fun _ h => by cases h⟩
    | false => rw [hb] at h2; exact hfa t' R' h1 h2
  have h2 : (#[] ++ xs.toArray.map a.eval ++ #[] : Array Value) = (vsf u).toArray := by
    simp [OpVs.evals (o := { dst := some d, op := .call { callee := .value (.func f), args := xs.toArray, argTypes := ats }, type := ty, pos := pos, after := af, guard := none }) trivial hf2 xs (vsf u) (hx u) (fun x hx => by simp [Op.operands, Call.operands, hx])]
  rw [execOp_call_go, h2, hf.run]
  have hw2 : Holds Γ.w0 Γ.S0 ((Mx ++ M1) ++ F) w := hw.perm (by
    simp only [List.append_nil]
    rw [← List.append_assoc]
    exact List.perm_append_comm.append_right F)
  exact (hc w F u Mx h1 hw2 hm (Holds.split hw2)).mono fun e w'' ⟨v, M', h1, h3, h4⟩ => ⟨v, M', h1, h3, Holds.frame hw2 h4⟩
end
end Go.Proofs.SL
namespace Go.Proofs.SL
open Go
variable {Γ : Cx} {l l' : Envl} {M M' M1 M2 F A : List HP} {Qp : Post} {K : Kont} {w0 w : World} {S0 : List Nat}
variable {ops : Array Oper} {fuel : Nat} {listed : Array Bool} {i d : Nat} {o : Oper}
theorem wp_put {P : Program} {a : Act} {next : Act → World → Prop} {Q1 Q2 : Exit → Act → World → Prop} (h1 : ∀ e a w, e ≠ .normal → ¬ Q1 e a w) (hd : ∀ a w, next a w → a.defers = [])
    (h : o.wp P a w next Q1) : o.wp P a w (fun a' w' => (∃ u, a' = a.put o.dst u) ∧ next a' w') Q2 := by
  unfold Oper.wp at h ⊢
  generalize (execOp a.eval o).run P w = r at h ⊢
  cases r with
  | ok n w' =>
    cases n <;> simp only [Oper.upon] at h ⊢
    case value u => exact ⟨⟨u, rfl⟩, h⟩
    case skip => exact ⟨⟨_, rfl⟩, h⟩
    case defer df =>
      have := hd _ _ h
      cases hh : o.dst <;> simp [Act.put, hh] at this
    case enter f args =>
      refine Calls.mono h fun e w'' he => ?_
      cases e with
      | returned u => exact ⟨⟨u, rfl⟩, he⟩
      | panicked c => exact (h1 _ _ _ (by simp) he).elim
      | outgrown =>
        obtain ⟨a, w, hq⟩ := he
        exact (h1 _ _ _ (by simp) hq).elim
    case row row args => exact Rows.mono h fun u w'' he => ⟨⟨u, rfl⟩, he⟩
  | halt x w' =>
    cases x <;> simp only [Oper.upon] at h ⊢
    case panic v => exact (h1 _ _ _ (by simp) h).elim
theorem L_one (h : L Γ [o] l M K) (hg : o.guard = none) {a : Act} (ha : Env a Γ.n l) (hw : Holds Γ.w0 Γ.S0 M w) {Q2 : Exit → Act → World → Prop} :
    o.wp Γ.P a w (fun a' w' => (∃ u, a' = a.put o.dst u) ∧ ∃ l' M', Env a' Γ.n l' ∧ Holds Γ.w0 Γ.S0 M' w' ∧ K l' M') Q2 := by
  have h1 := h #[] a w (fun e a' w' => e = .normal ∧ ∃ l' M', Env a' Γ.n l' ∧ Holds Γ.w0 Γ.S0 M' w' ∧ K l' M') ha hw (fun a' w' l' M' q1 q2 q3 => ⟨rfl, l', M', q1, q2, q3⟩)
  unfold wpList at h1
  simp only [Region.wanted, hg, if_true] at h1
  rcases h1 with h1 | ⟨_, a, w, h1⟩
  · refine Oper.wp_mono (fun a' w' h2 => ⟨h2.1, h2.2.2⟩) (wp_put (fun e a w he hq => he hq.1) (fun a w hq => ?_) h1)
    obtain ⟨_, l', M', h3, _⟩ := hq
    exact h3.defers
  · cases h1.1
def AllIn : List HP → List HP → Prop
  | [], _ => True
  | h :: hs, M => h ∈ M ∧ AllIn hs M
theorem AllIn.mem : ∀ {A M : List HP}, AllIn A M → ∀ x, x ∈ A → x ∈ M
  | _ :: _, _, h, x, hx => by
    rcases List.mem_cons.1 hx with rfl | hx
    · exact h.1
    · exact AllIn.mem h.2 x hx
theorem AllIn.of_mem : ∀ {A M : List HP}, (∀ x, x ∈ A → x ∈ M) → AllIn A M
  | [], _, _ => trivial
  | _ :: _, _, h => ⟨h _ (List.mem_cons_self ..), AllIn.of_mem fun x hx => h x (List.mem_cons_of_mem _ hx)⟩
/-- An operation that yields a value, in whatever world bears the parts A, and does nothing else. -/
structure Pu (Γ : Cx) (A : List HP) (l : Envl) (o : Oper) (d : Nat) (v : Value) : Prop where
  dst : o.dst = some d
  lt : d < Γ.n
  gd : o.guard = none
  pu : ∀ a w, Env a Γ.n l → Sees Γ.w0 Γ.S0 A w → (execOp a.eval o).run Γ.P w = .ok (.value v) w
def AH (Γ : Cx) (ops : Array Oper) (A : List HP) (Qp : Post) (fuel : Nat) (listed : Array Bool) (l : Envl) (M : List HP) : Prop :=
  ∀ a w, Env a Γ.n l → Holds Γ.w0 Γ.S0 M w → wpAnyH Γ.P .any ops (liftQ Γ Qp) (Sees Γ.w0 Γ.S0 A) fuel listed a w
theorem W_AH (A : List HP) {id : Nat} (hm : Γ.P.follows .mixedOrders = true) (h : AH Γ ops A Qp ops.size (Array.replicate ops.size false) l M) : W Γ (.region id ops true) l M Qp := fun a w ha hw =>
  wp_region_held hm (h a w.drew ha hw.drew)
theorem AH_done (hr : Region.ready .any ops listed = []) (h : Qp .normal l M) : AH Γ ops A Qp fuel listed l M := fun _ _ ha hw => wpAnyH_done hr ⟨l, M, ha, hw, h⟩ fuel
theorem AH_take {v : Value} (i : Nat) (hi : ops[i]? = some o) (hp : Pu Γ A l o d v) (hs : Region.noSelect ops = true) (hf : Region.free .any ops listed i = true) (hr : (Region.ready .any ops listed).contains i = true)
    (hA : AllIn A M) (hk : AH Γ ops A Qp fuel (listed.setIfInBounds i true) ((d, v) :: l) M) : AH Γ ops A Qp (fuel + 1) listed l M := fun a w ha hw =>
  wpAnyH_take hi hs hf hr (fun _ _ _ h => h) (.inl ⟨by simp [Region.wanted, hp.gd], fun w hw => hp.pu a w ha hw⟩) (hw.seesSub hA.mem) (hk _ w (by rw [hp.dst]; exact ha.put hp.lt) hw)
theorem drop_get {α : Type} {xs : Array α} {i : Nat} {o : α} {rest : List α} (h : xs.toList.drop i = o :: rest) : xs[i]? = some o := by
  rw [← Array.getElem?_toList]
  have := congrArg (fun l => l[0]?) h
  simpa [List.getElem?_drop] using this
theorem AH_one (i : Nat) {rest' : List Oper} (hi : ops.toList.drop i = o :: rest') (hg : o.guard = none) (hr : Region.ready .any ops listed = [i])
    (h : L Γ [o] l M (fun l' M' => AllIn A M' ∧ AH Γ ops A Qp fuel (listed.setIfInBounds i true) l' M')) : AH Γ ops A Qp (fuel + 1) listed l M := fun a w ha hw =>
  wpAnyH_all hr (by simp) fun j hj => by
    rw [List.mem_singleton.1 hj]
    unfold wpOp
    rw [drop_get hi]
    simp only [Region.wanted, hg, if_true]
    refine .inl (Oper.wp_mono (fun a' w' h1 => ?_) (L_one h hg ha hw))
    obtain ⟨_, l', M', h1, h2, h3, h4⟩ := h1
    exact ⟨h2.seesSub h3.mem, h4 a' w' h1 h2⟩
def emH : HP := ⟨[], fun _ => True, fun _ _ _ h => h⟩
theorem Holds.em (h : Holds w0 S0 M w) : Holds w0 S0 (emH :: M) w := h.reFp (List.Perm.of_eq (by rw [fps_cons]; rfl)) fun x hx => by
  rcases List.mem_cons.1 hx with rfl | hx
  · trivial
  · exact h.prs x hx
/-- The same in two states: an allocation (number al) has not come yet, or it has. -/
def AP (Γ : Cx) (ops : Array Oper) (A : List HP) (Qp : Post) (al da : Nat) (z : List Value) (T : TypeId) (fuel : Nat) (listed : Array Bool) (l : Envl) (M : List HP) : Prop :=
  AH Γ ops A Qp (fuel + 1) listed l M ∧ ∀ b, AH Γ ops A Qp fuel (listed.setIfInBounds al true) ((da, .pointer (some ⟨b, 0, none⟩)) :: l) (blk b z T :: M)
theorem sub_new {da : Nat} {v : Value} (h : l.lookup da = none) : Sub l ((da, v) :: l) := fun t u ht => by
  rw [List.lookup_cons]
  cases hb : t == da with
  | true => have : t = da := by simpa using hb
            subst this; rw [h] at ht; cases ht
  | false => exact ht
variable {al da : Nat} {z : List Value} {T : TypeId}
theorem W_AP (A : List HP) (al da : Nat) (z : List Value) (T : TypeId) (n : Nat) {id : Nat} (hm : Γ.P.follows .mixedOrders = true) (hn : ops.size = n + 1) (h : AP Γ ops A Qp al da z T n (Array.replicate (n + 1) false) l M) : W Γ (.region id ops true) l M Qp :=
  W_AH A hm (by rw [hn]; exact h.1)
theorem AP_take {v : Value} (i : Nat) (hi : ops[i]? = some o) (hp : Pu Γ A l o d v) (hs : Region.noSelect ops = true) (hf : Region.free .any ops listed i = true) (hr : (Region.ready .any ops listed).contains i = true)
    (hf2 : Region.free .any ops (listed.setIfInBounds al true) i = true) (hr2 : (Region.ready .any ops (listed.setIfInBounds al true)).contains i = true) (hda : l.lookup da = none) (hne : Nat.beq d da = false) (hia : Nat.beq i al = false)
    (hA : AllIn A M) (hk : AP Γ ops A Qp al da z T fuel (listed.setIfInBounds i true) ((d, v) :: l) M) : AP Γ ops A Qp al da z T (fuel + 1) listed l M := by
  have hne' : d ≠ da := fun e => by subst e; rw [Nat.beq_refl] at hne; cases hne
  have hia' : i ≠ al := fun e => by subst e; rw [Nat.beq_refl] at hia; cases hia
  refine ⟨AH_take i hi hp hs hf hr hA hk.1, fun b => ?_⟩
  refine AH_take i hi (v := v) (d := d) ⟨hp.dst, hp.lt, hp.gd, fun a w ha hw => hp.pu a w (ha.sub (sub_new hda)) hw⟩ hs hf2 hr2 (AllIn.of_mem fun x hx => List.mem_cons_of_mem _ (hA.mem x hx)) ?_
  rw [Array.setIfInBounds_comm _ _ (Ne.symm hia')]
  intro a w ha hw
  refine hk.2 b a w (ha.sub fun t u ht => ?_) hw
  simp only [List.lookup_cons] at ht ⊢
  cases h1 : t == da with
  | true =>
    have : t = da := by simpa using h1
    subst this
    rw [h1] at ht
    cases h2 : t == d with
    | true => exact (hne' (by simpa using h2 : t = d).symm).elim
    | false => exact ht
  | false => rw [h1] at ht; exact ht
theorem AP_step (i : Nat) {rest' : List Oper} (hi0 : ops.toList.drop i = o :: rest') (hg : o.guard = none) (hr1 : Region.ready .any ops listed = [i, al] ∨ Region.ready .any ops listed = [al, i]) (hr2 : Region.ready .any ops (listed.setIfInBounds al true) = [i])
    (hia : Nat.beq i al = false) (hdst : (o.dst == some da) = false) (hda : l.lookup da = none) {oal : Oper} (hoa : ops[al]? = some oal) (hga : oal.guard = none)
    (hal : ∀ l M, L Γ [oal] l M (fun l' M' => ∃ b, l' = (da, .pointer (some ⟨b, 0, none⟩)) :: l ∧ M' = blk b z T :: M)) (hA : AllIn A M)
    (h : ∀ X, L Γ [o] l (X :: M) (fun l' M' => ∃ M1, Pick X M' M1 ∧ AllIn A M1 ∧ l'.lookup da = none ∧ AP Γ ops A Qp al da z T fuel (listed.setIfInBounds i true) l' M1)) :
    AP Γ ops A Qp al da z T (fuel + 1) listed l M := by
  have hi := drop_get hi0
  have hia' : i ≠ al := fun e => by subst e; rw [Nat.beq_refl] at hia; cases hia
  have two : ∀ b, AH Γ ops A Qp (fuel + 1) (listed.setIfInBounds al true) ((da, .pointer (some ⟨b, 0, none⟩)) :: l) (blk b z T :: M) := fun b a w ha hw =>
    wpAnyH_all hr2 (by simp) fun j hj => by
      rw [List.mem_singleton.1 hj]
      unfold wpOp
      rw [hi]
      simp only [Region.wanted, hg, if_true]
      refine .inl (Oper.wp_mono (fun a' w' h1 => ?_) (L_one (h (blk b z T)) hg (ha.sub (sub_new hda)) hw))
      obtain ⟨⟨u, rfl⟩, l', M', h1, h2, M1, h3, h4, h5, h6⟩ := h1
      have h7 := h2.perm h3.perm
      refine ⟨h7.seesSub fun x hx => List.mem_cons_of_mem _ (h4.mem x hx), ?_⟩
      rw [Array.setIfInBounds_comm _ _ (Ne.symm hia')]
      refine h6.2 b _ w' ⟨h1.size, h1.defers, fun t v ht => ?_⟩ h7
      rw [List.lookup_cons] at ht
      cases hb : t == da with
      | true =>
        have : t = da := by simpa using hb
        subst this
        rw [hb] at ht
        cases ht
        have h8 := ha.get t (.pointer (some ⟨b, 0, none⟩)) (by simp [List.lookup_cons])
        cases hd : o.dst with
        | none => exact h8
        | some d =>
          have hne : d ≠ t := fun e => by subst e; rw [hd] at hdst; simp at hdst
          simp only [Act.put]
          rw [Array.getElem?_setIfInBounds_ne hne]
          exact h8
      | false => rw [hb] at ht; exact h1.get t v ht
  have one : ∀ a w, Env a Γ.n l → Holds Γ.w0 Γ.S0 M w → ∀ j, j = i ∨ j = al → wpOp Γ.P ops (liftQ Γ Qp) j (fun a' w' => Sees Γ.w0 Γ.S0 A w' ∧ wpAnyH Γ.P .any ops (liftQ Γ Qp) (Sees Γ.w0 Γ.S0 A) (fuel + 1) (listed.setIfInBounds j true) a' w') a w := fun a w ha hw j hj => by
    rcases hj with rfl | rfl
    · unfold wpOp
      rw [hi]
      simp only [Region.wanted, hg, if_true]
      refine .inl (Oper.wp_mono (fun a' w' h1 => ?_) (L_one (h emH) hg ha hw.em))
      obtain ⟨_, l', M', h1, h2, M1, h3, h4, h5, h6⟩ := h1
      have h7 := (h2.perm h3.perm).sub (M' := M1) ⟨[emH], List.perm_append_comm (l₁ := [emH])⟩
      exact ⟨h7.seesSub h4.mem, h6.1 a' w' h1 h7⟩
    · unfold wpOp
      rw [hoa]
      simp only [Region.wanted, hga, if_true]
      refine .inl (Oper.wp_mono (fun a' w' h1 => ?_) (L_one (hal l M) hga ha hw))
      obtain ⟨_, l', M', h1, h2, b, rfl, rfl⟩ := h1
      exact ⟨h2.seesSub fun x hx => List.mem_cons_of_mem _ (hA.mem x hx), two b a' w' h1 h2⟩
  refine ⟨fun a w ha hw => ?_, two⟩
  rcases hr1 with hr | hr
  · exact wpAnyH_all hr (by simp) fun j hj => one a w ha hw j (by simpa using hj)
  · exact wpAnyH_all hr (by simp) fun j hj => one a w ha hw j ((by simpa using hj : j = al ∨ j = i).symm)
theorem AP_end (hr : Region.ready .any ops listed = [al]) {oal : Oper} {rest' : List Oper} (hoa : ops.toList.drop al = oal :: rest') (hga : oal.guard = none)
    (hal : ∀ l M, L Γ [oal] l M (fun l' M' => ∃ b, l' = (da, .pointer (some ⟨b, 0, none⟩)) :: l ∧ M' = blk b z T :: M)) (hA : AllIn A M)
    (h : ∀ b, AH Γ ops A Qp fuel (listed.setIfInBounds al true) ((da, .pointer (some ⟨b, 0, none⟩)) :: l) (blk b z T :: M)) : AP Γ ops A Qp al da z T fuel listed l M :=
  ⟨AH_one al hoa hga hr fun ops' a w Q ha hw hq => hal l M ops' a w Q ha hw fun a' w' l' M' h1 h2 ⟨b, h3, h4⟩ => hq a' w' l' M' h1 h2 (by
    subst h3; subst h4
    exact ⟨AllIn.of_mem fun x hx => List.mem_cons_of_mem _ (hA.mem x hx), h b⟩), h⟩
/-! Small steps that may be taken first -/
section
variable {ty : TypeId} {pos : String} {af : Array Edge} {P : Program}
theorem PU_pure {op : Op} {v : Value} (hn : Nat.blt d Γ.n = true) (he : ∀ a w, Env a Γ.n l → Sees Γ.w0 Γ.S0 A w → (execOp a.eval { dst := some d, op, type := ty, pos, after := af, guard := none }).run Γ.P w = .ok (.value v) w) :
    Pu Γ A l { dst := some d, op, type := ty, pos, after := af, guard := none } d v := ⟨rfl, Nat.le_of_ble_eq_true hn, rfl, he⟩
theorem PU_move {x : Operand} {v : Value} (hn : Nat.blt d Γ.n = true) (hx : ev l x = some v) : Pu Γ A l { dst := some d, op := .move x, type := ty, pos, after := af, guard := none } d v :=
  PU_pure hn fun a w ha _ => by simp [execOp, ha.eval hx]
theorem PU_extract {x : Operand} {i : Nat} {vs : Array Value} {v : Value} (hn : Nat.blt d Γ.n = true) (hx : ev l x = some (.tuple vs)) (hv : vs[i]? = some v) :
    Pu Γ A l { dst := some d, op := .extract x i, type := ty, pos, after := af, guard := none } d v :=
  PU_pure hn fun a w ha _ => by simp [execOp, ha.eval hx, Instr.extract, hv]
theorem PU_fieldAddr {x : Operand} {T f fo g o : Nat} (hn : Nat.blt d Γ.n = true) (hx : ev l x = some (.pointer (some ⟨g, o, none⟩))) (ht : fldOf Γ.P T f = some fo) :
    Pu Γ A l { dst := some d, op := .fieldAddr T x f, type := ty, pos := pos, after := af, guard := none } d (.pointer (some ⟨g, o + fo, none⟩)) :=
  PU_pure hn fun a w ha hw => by
    unfold fldOf at ht
    split at ht <;> (try cases ht)
    rename_i fs hfs
    split at ht <;> (try cases ht)
    rename_i x' hx'
    split at ht <;> (try cases ht)
    rename_i i hi
    split at ht <;> cases ht
    rename_i hsz
    simp [execOp, ha.eval hx, Instr.fieldAt, underlying, hfs, hx', Instr.sureAddr, fieldPlace, sizeOf, typeInfo, hi, hsz, addr_add]
theorem PU_load {x : Operand} {T g off fo : Nat} {cs : List Value} {v : Value} (hn : Nat.blt d Γ.n = true) (hx : ev l x = some (.pointer (some ⟨g, off + fo, none⟩))) (hc : RdC Γ A g off cs) (ht : oneOf Γ.P T = true)
    (hv : cs[fo]? = some v) : Pu Γ A l { dst := some d, op := .load T x, type := ty, pos := pos, after := af, guard := none } d v :=
  PU_pure hn fun a' w ha hw => by simp [execOp, ha.eval hx, Instr.loadAt, Instr.sureAddr, loadVar, run_isAgg_one ht, hc w hw fo v hv]
theorem PU_loadW {x : Operand} {T g off : Nat} {cs : List Value} (hn : Nat.blt d Γ.n = true) (hx : ev l x = some (.pointer (some ⟨g, off, none⟩))) (hc : RdC Γ A g off cs) (ht : aggOf Γ.P T = some cs.length) :
    Pu Γ A l { dst := some d, op := .load T x, type := ty, pos := pos, after := af, guard := none } d (.agg cs.toArray) :=
  PU_pure hn fun a' w ha hw => by
    have hl := run_loadCells_at (P := Γ.P) (hc w hw)
    simp [execOp, ha.eval hx, Instr.loadAt, Instr.sureAddr, loadVar, run_isAgg_agg ht, hl]
section
variable {τ δ : Type} [GT τ δ]
end
end
/-- From here on more is to be kept for the small steps. -/
theorem wpAnyH_S {P : Program} {Q : Exit → Act → World → Prop} {S S' : World → Prop} (hs : ∀ w, S' w → S w) : ∀ (fuel : Nat) (listed : Array Bool) (a : Act) (w : World), wpAnyH P .any ops Q S' fuel listed a w → wpAnyH P .any ops Q S fuel listed a w
  | 0, _, _, _, h => h
  | fuel + 1, _, _, _, h => ⟨h.1, fun i hi => wpOp_mono (fun a' w' h' => ⟨hs _ h'.1, wpAnyH_S hs fuel _ a' w' h'.2⟩) (h.2 i hi)⟩
theorem AH_A (A' : List HP) (hs : AllIn A A') (h : AH Γ ops A' Qp fuel listed l M) : AH Γ ops A Qp fuel listed l M := fun a w ha hw =>
  wpAnyH_S (fun w h => ⟨h.old, fun x hx => h.prs x (hs.mem x hx)⟩) _ _ _ _ (h a w ha hw)
theorem AP_A (A' : List HP) (hs : AllIn A A') (h : AP Γ ops A' Qp al da z T fuel listed l M) : AP Γ ops A Qp al da z T fuel listed l M := ⟨AH_A A' hs h.1, fun b => AH_A A' hs (h.2 b)⟩
end Go.Proofs.SL
namespace Go.Proofs.SL
open Go
variable {Γ : Cx} {l : Envl} {M M' M1 M2 F Mr : List HP} {Q : Post} {K : Kont} {w0 w : World} {S0 S : List Nat} {P : Program}
variable {rest : List Oper} {d : Nat} {ty : TypeId} {pos : String} {af : Array Edge}
/-- Elements that can be read, without their row. -/
structure EL (τ : Type) where
  els : List τ
instance {τ δ : Type} [GT τ δ] : GT (EL τ) Unit where
  sz := 1
  pos := by decide
  cells _ := [.bool false]
  len _ := rfl
  one _ v hv := by simp at hv; subst hv; rfl
  rd w S t := ∀ x, x ∈ t.els → GT.rd w S x
  fp _ := []
  ow _ _ := False
  dat _ := ()
  rd_mono h hm := fun x hx => GT.rd_mono (h x hx) hm
  ow_st _ h := h
  ow_rd h _ := h.elim
section
variable {τ δ : Type} [GT τ δ] {t : τ}
theorem no_fp (hw : Holds w0 S0 (M1 ++ M2) w) {h : HP} (hm : h ∈ M2) : ∀ k, k ∈ h.fp → k ∉ fps M1 := fun k hk hk1 => by
  have hnd := hw.nodup
  rw [fps_append] at hnd
  exact (List.nodup_append.1 hnd).2.2 k hk1 k (List.mem_flatMap.2 ⟨_, hm, hk⟩) rfl
theorem RdT.els {xs : List τ} (h : elsT xs ∈ M) : RdT Γ M (EL.mk xs) := fun w hw x hx => GT.ow_rd (hw.prs _ h x hx) fun _ _ h => by cases h
theorem RdT.elOf {X : TL τ} {j : Nat} {x : τ} (h : RdT Γ M (EL.mk X.els)) (hi : X.els[j]? = some x) : RdT Γ M x := fun w hw => h w hw x (List.mem_of_getElem? hi)
theorem RdX.els {xs : List τ} (h : elsT xs ∈ M2) : RdX Γ M1 M2 (EL.mk xs) := fun w hw x hx => GT.ow_rd (hw.prs _ (List.mem_append_right _ h) x hx) fun k hk => no_fp hw h k (List.mem_flatMap.2 ⟨x, hx, hk⟩)
theorem RdX.elOf {X : TL τ} {j : Nat} {x : τ} (h : RdX Γ M1 M2 (EL.mk X.els)) (hi : X.els[j]? = some x) : RdX Γ M1 M2 x := fun w hw => h w hw x (List.mem_of_getElem? hi)
end
/-! Evidence of one world, out of parts -/
structure PC (Mr : List HP) (w : World) (S : List Nat) : Prop where
  prs : ∀ h, h ∈ Mr → h.pr w
  ds : ∀ k, k ∈ fps Mr → k ∉ S
theorem PC.fp (h : PC Mr w S) {x : HP} (hm : x ∈ Mr) : ∀ k, k ∈ x.fp → k ∉ S := fun k hk => h.ds k (List.mem_flatMap.2 ⟨x, hm, hk⟩)
def RdP {τ δ : Type} [GT τ δ] (Mr : List HP) (w : World) (S : List Nat) (t : τ) : Prop := PC Mr w S → GT.rd w S t
section
variable {τ δ : Type} [GT τ δ] {t : τ}
theorem RdP.old (h : GT.rd w S t) : RdP Mr w S t := fun _ => h
theorem RdP.tree (h : treeH t ∈ Mr) : RdP Mr w S t := fun hp => GT.ow_rd (hp.prs _ h) (hp.fp h)
theorem RdP.fst {α β δ ε : Type} [GT α δ] [GT β ε] {t : α × β} (h : RdP Mr w S t) : RdP Mr w S t.1 := fun hp => (h hp).1
theorem RdP.snd {α β δ ε : Type} [GT α δ] [GT β ε] {t : α × β} (h : RdP Mr w S t) : RdP Mr w S t.2 := fun hp => (h hp).2
theorem RdP.of {X : TL τ} {j : Nat} {x : τ} (h : RdP Mr w S X) (hi : X.els[j]? = some x) : RdP Mr w S x := fun hp => (h hp).2.2.1 x (List.mem_of_getElem? hi)
theorem RdP.pair {α β δ ε : Type} [GT α δ] [GT β ε] {a : α} {b : β} (h1 : RdP Mr w S a) (h2 : RdP Mr w S b) : RdP Mr w S (a, b) := fun hp => ⟨h1 hp, h2 hp⟩
theorem RdP.int {n : Int} : RdP Mr w S n := fun _ => trivial
theorem RdP.bool {n : Bool} : RdP Mr w S n := fun _ => trivial
theorem RdP.str {n : ByteArray} : RdP Mr w S n := fun _ => trivial
theorem RdP.u8 {n : UInt8} : RdP Mr w S n := fun _ => trivial
theorem RdP.nil (e : TypeId) : RdP Mr w S (TL.nil τ e) := fun _ => nil_rd e
theorem RdP.map {α δ' : Type} [GT α δ'] {a : α} (f : ∀ w S, GT.rd w S a → GT.rd w S t) (h : RdP Mr w S a) : RdP Mr w S t := fun hp => f w _ (h hp)
theorem RdP.els {xs : List τ} (h : elsT xs ∈ Mr) : RdP Mr w S (EL.mk xs) := fun hp x hx => GT.ow_rd (hp.prs _ h x hx) fun k hk => hp.fp h k (List.mem_flatMap.2 ⟨x, hx, hk⟩)
theorem RdP.elOf {X : TL τ} {j : Nat} {x : τ} (h : RdP Mr w S (EL.mk X.els)) (hi : X.els[j]? = some x) : RdP Mr w S x := fun hp => h hp x (List.mem_of_getElem? hi)
end
/-! A flat slice that is read alone, in a block of one's own -/
section
variable {τ δ : Type} [GT τ δ] [FlatT τ]
end
section
variable {τ δ : Type} [GT τ δ]
end
section
variable {τ δ : Type} [GT τ δ] [FlatT τ]
end
section
variable {τ δ : Type} [GT τ δ]
end
theorem dat_u8 (x : UInt8) : (GT.dat x : UInt8) = x := rfl
end Go.Proofs.SL
namespace Go.Proofs.SL
open Go
variable {Γ : Cx} {l l' : Envl} {M M' M1 M2 F A : List HP} {Qp : Post} {K : Kont} {w0 w : World} {S0 : List Nat}
variable {ops : Array Oper} {fuel : Nat} {listed : Array Bool} {i d : Nat} {o : Oper}
theorem g_of_hdr {τ : Type} {X Y : TL τ} (h : Y.hdr = X.hdr) : Y.g = X.g := by
  unfold TL.hdr at h; injection h with h1 h2 h3
  unfold TL.g; rw [h1]
theorem o_of_hdr {τ : Type} {X Y : TL τ} (h : Y.hdr = X.hdr) : Y.o = X.o := by
  unfold TL.hdr at h; injection h with h1 h2 h3
  unfold TL.o; rw [h1]
/-- An operation waits for another. -/
def waits (ops : Array Oper) (k c : Nat) : Bool := match ops[k]? with
  | none => false
  | some o => o.after.toList.any fun e => e.on == c && Region.binds .any e
/-- From an operation down to one for which it waits in the end. -/
def chain (ops : Array Oper) (i : Nat) : Nat → List Nat → Bool
  | k, [] => waits ops k i
  | k, c :: cs => waits ops k c && chain ops i c cs
/-- What has come up has had all that it waits for. -/
def Closed (ops : Array Oper) (listed : Array Bool) : Prop := ∀ k o, ops[k]? = some o → listed.getD k false = true → ∀ e, e ∈ o.after → Region.binds .any e = true → listed.getD e.on false = true
def closedB (ops : Array Oper) (listed : Array Bool) : Bool := (List.range ops.size).all fun k => !listed.getD k false || match ops[k]? with
  | none => true
  | some o => o.after.toList.all fun e => !Region.binds .any e || listed.getD e.on false
theorem closed_of (h : closedB ops listed = true) : Closed ops listed := fun k o hk hl e he hb => by
  unfold closedB at h
  rw [List.all_eq_true] at h
  have h1 := h k (List.mem_range.2 (Array.getElem?_eq_some_iff.1 hk).1)
  rw [hk, hl] at h1
  simp only [Bool.not_true, Bool.false_or, List.all_eq_true] at h1
  have h2 := h1 e (by simpa using he)
  rw [hb] at h2
  simpa using h2
theorem waits_spec {k c : Nat} (h : waits ops k c = true) : ∃ o e, ops[k]? = some o ∧ e ∈ o.after ∧ e.on = c ∧ Region.binds .any e = true := by
  unfold waits at h
  split at h
  · cases h
  · rename_i o ho
    rw [List.any_eq_true] at h
    obtain ⟨e, he, h1⟩ := h
    rw [Bool.and_eq_true] at h1
    exact ⟨o, e, ho, by simpa using he, by simpa using h1.1, h1.2⟩
theorem waits_listed (hc : Closed ops listed) {k c : Nat} (h : waits ops k c = true) (hk : listed.getD k false = true ∨ k ∈ Region.ready .any ops listed) : listed.getD c false = true := by
  obtain ⟨o, e, ho, he, rfl, hb⟩ := waits_spec h
  rcases hk with hk | hk
  · exact hc k o ho hk e he hb
  · obtain ⟨_, o', ho', hall⟩ := mem_ready.1 hk
    rw [ho] at ho'; cases ho'
    exact hall e he hb
theorem chain_listed (hc : Closed ops listed) : ∀ (cs : List Nat) {k : Nat}, chain ops i k cs = true → (listed.getD k false = true ∨ k ∈ Region.ready .any ops listed) → listed.getD i false = true
  | [], _, h, hk => waits_listed hc h hk
  | c :: cs, k, h, hk => by
    have h1 := Bool.and_eq_true_iff.1 h
    exact chain_listed hc cs h1.2 (.inl (waits_listed hc h1.1 hk))
theorem Closed.set (hc : Closed ops listed) {j : Nat} (hj : j ∈ Region.ready .any ops listed) : Closed ops (listed.setIfInBounds j true) := fun k o hk hl e he hb => by
  by_cases h : j = k
  · subst h
    obtain ⟨_, o', ho', hall⟩ := mem_ready.1 hj
    rw [hk] at ho'; cases ho'
    exact getD_set_true (hall e he hb)
  · rw [getD_set_ne false h] at hl
    exact getD_set_true (hc k o hk hl e he hb)
/-- Whatever order is picked, and S holds behind every operation until number last has come. -/
def wpG (P : Program) (ops : Array Oper) (Q : Exit → Act → World → Prop) (last : Nat) (S : World → Prop) : Nat → Array Bool → Act → World → Prop
  | 0, listed, a, w => Region.ready .any ops listed = [] ∧ Q .normal a w
  | fuel + 1, listed, a, w => (Region.ready .any ops listed = [] → Q .normal a w) ∧
    ∀ i ∈ Region.ready .any ops listed, wpOp P ops Q i (fun a' w' => ((listed.setIfInBounds i true).getD last false = false → S w') ∧ wpG P ops Q last S fuel (listed.setIfInBounds i true) a' w') a w
theorem wpAny_of_G {P : Program} {Q : Exit → Act → World → Prop} {last : Nat} {S : World → Prop} : ∀ (fuel : Nat) (listed : Array Bool) (a : Act) (w : World), wpG P ops Q last S fuel listed a w → wpAny P .any ops Q fuel listed a w
  | 0, _, _, _, h => h
  | fuel + 1, _, _, _, h => ⟨h.1, fun i hi => wpOp_mono (fun a' w' h' => wpAny_of_G fuel _ a' w' h'.2) (h.2 i hi)⟩
theorem ready_un (h : i ∈ Region.ready .any ops listed) : listed.getD i false = false := by
  have h0 := (mem_ready.1 h).1
  rcases Nat.lt_or_ge i listed.size with h' | h'
  · simp [h'] at h0 ⊢; exact h0
  · simp [Array.getElem?_eq_none h'] at h0
theorem wpG_first {P : Program} {Q : Exit → Act → World → Prop} {last : Nat} {S : World → Prop} {oi : Oper} {v : Value} {cs : List Nat} (hi : ops[i]? = some oi) (hsel : ∀ (j : Nat) (o : Oper) cs b, ops[j]? = some o → o.op ≠ .select cs b)
    (hQ : ∀ c a w, Q (.panic c) (a.put oi.dst v) w → Q (.panic c) a w) (hch : chain ops i last cs = true) (hil : i ≠ last) : ∀ (fuel : Nat) (listed : Array Bool) (a : Act) (w : World), Closed ops listed →
      (∀ j oj, ops[j]? = some oj → j ≠ i → listed.getD j true = false → (∀ e ∈ oj.after, Region.binds .any e = true → e.on ≠ i) → oi.apart ops oj = true) →
      i ∈ Region.ready .any ops listed → YieldsIf P ops S oi v a → S w →
      wpG P ops Q last S fuel (listed.setIfInBounds i true) (a.put oi.dst v) w → wpG P ops Q last S (fuel + 1) listed a w := by
  intro fuel
  induction fuel with
  | zero =>
    intro listed a w hc _ hr hy hS H
    refine ⟨fun h => (by rw [h] at hr; cases hr), fun j hj => ?_⟩
    by_cases hji : j = i
    · subst hji; exact hy.wpOp hi hS ⟨fun _ => hS, H⟩
    · have := ready_mono hj hji
      rw [H.1] at this
      cases this
  | succ fuel ih =>
    intro listed a w hc hfree hr hy hS H
    refine ⟨fun h => (by rw [h] at hr; cases hr), fun j hj => ?_⟩
    by_cases hji : j = i
    · subst hji; exact hy.wpOp hi hS ⟨fun _ => hS, H⟩
    · have h1 := H.2 j (ready_mono hj hji)
      obtain ⟨hjun, oj, hoj, hall⟩ := mem_ready.1 hj
      have hun := ready_un hr
      have hnot : ∀ e ∈ oj.after, Region.binds .any e = true → e.on ≠ i := fun e he hb heq => by
        have h1 := hall e he hb
        rw [heq, hun] at h1
        cases h1
      have hjl : j ≠ last := fun e => by
        subst e
        have := chain_listed hc cs hch (.inr hj)
        rw [hun] at this; cases this
      have hll : listed.getD last false = false := by
        cases hl : listed.getD last false with
        | false => rfl
        | true =>
          have := chain_listed hc cs hch (.inl hl)
          rw [hun] at this; cases this
      have h2 := wpOp_putIf hoj (hfree j oj hoj hji hjun hnot) (fun cs b => hsel i oi cs b hi) (fun cs b => hsel j oj cs b hoj) hQ hy h1
      have hfree' : ∀ k ok, ops[k]? = some ok → k ≠ i → (listed.setIfInBounds j true).getD k true = false →
          (∀ e ∈ ok.after, Region.binds .any e = true → e.on ≠ i) → oi.apart ops ok = true := fun k ok hk hki hun hno => by
        refine hfree k ok hk hki ?_ hno
        by_cases hjk : j = k
        · subst hjk; exact hjun
        · rw [getD_set_ne true hjk] at hun; exact hun
      have hfl : ((listed.setIfInBounds i true).setIfInBounds j true).getD last false = false := by
        rw [getD_set_ne false hjl, getD_set_ne false hil]; exact hll
      refine wpOp_mono (fun a' w' h3 => ⟨fun _ => h3.2.1 hfl, ih (listed.setIfInBounds j true) a' w' (hc.set hj) hfree' (ready_mono hr (Ne.symm hji)) h3.1 (h3.2.1 hfl) ?_⟩) h2
      rw [Array.setIfInBounds_comm _ _ hji]
      exact h3.2.2
theorem wpG_done {P : Program} {Q : Exit → Act → World → Prop} {last : Nat} {S : World → Prop} {a : Act} {w : World} (hr : Region.ready .any ops listed = []) (h : Q .normal a w) : ∀ fuel, wpG P ops Q last S fuel listed a w
  | 0 => ⟨hr, h⟩
  | _ + 1 => ⟨fun _ => h, by rw [hr]; simp⟩
theorem wpG_S {P : Program} {Q : Exit → Act → World → Prop} {last : Nat} {S S' : World → Prop} (hs : ∀ w, S' w → S w) : ∀ (fuel : Nat) (listed : Array Bool) (a : Act) (w : World), wpG P ops Q last S' fuel listed a w → wpG P ops Q last S fuel listed a w
  | 0, _, _, _, h => h
  | fuel + 1, _, _, _, h => ⟨h.1, fun i hi => wpOp_mono (fun a' w' h' => ⟨fun hf => hs _ (h'.1 hf), wpG_S hs fuel _ a' w' h'.2⟩) (h.2 i hi)⟩
/-- Behind number last S no longer counts. -/
theorem wpG_flag {P : Program} {Q : Exit → Act → World → Prop} {last : Nat} {S S' : World → Prop} : ∀ (fuel : Nat) (listed : Array Bool) (a : Act) (w : World), listed.getD last false = true → wpG P ops Q last S' fuel listed a w → wpG P ops Q last S fuel listed a w
  | 0, _, _, _, _, h => h
  | fuel + 1, _, _, _, hl, h => ⟨h.1, fun i hi => wpOp_mono (fun a' w' h' => ⟨fun hf => (by rw [getD_set_true hl] at hf; cases hf), wpG_flag fuel _ a' w' (getD_set_true hl) h'.2⟩) (h.2 i hi)⟩
def AG (Γ : Cx) (ops : Array Oper) (A : List HP) (Qp : Post) (last fuel : Nat) (listed : Array Bool) (l : Envl) (M : List HP) : Prop :=
  ∀ a w, Env a Γ.n l → Holds Γ.w0 Γ.S0 M w → wpG Γ.P ops (liftQ Γ Qp) last (Sees Γ.w0 Γ.S0 A) fuel listed a w
variable {last : Nat}
theorem W_AG (A : List HP) (last : Nat) {id : Nat} (hm : Γ.P.follows .mixedOrders = true) (h : AG Γ ops A Qp last ops.size (Array.replicate ops.size false) l M) : W Γ (.region id ops true) l M Qp := fun a w ha hw =>
  wp_region_any hm (wpAny_of_G _ _ _ _ (h a w.drew ha hw.drew))
theorem AG_done (hr : Region.ready .any ops listed = []) (h : Qp .normal l M) : AG Γ ops A Qp last fuel listed l M := fun _ _ ha hw => wpG_done hr ⟨l, M, ha, hw, h⟩ fuel
theorem AG_take {v : Value} (i : Nat) (cs : List Nat) (hi : ops[i]? = some o) (hp : Pu Γ A l o d v) (hs : Region.noSelect ops = true) (hf : Region.free .any ops listed i = true) (hr : (Region.ready .any ops listed).contains i = true)
    (hch : chain ops i last cs = true) (hil : Nat.beq i last = false) (hcl : closedB ops listed = true)
    (hA : AllIn A M) (hk : AG Γ ops A Qp last fuel (listed.setIfInBounds i true) ((d, v) :: l) M) : AG Γ ops A Qp last (fuel + 1) listed l M := fun a w ha hw =>
  wpG_first hi (Region.noSelect_spec hs) (fun _ _ _ h => h) hch (fun e => by subst e; rw [Nat.beq_refl] at hil; cases hil) fuel listed a w (closed_of hcl) (Region.free_spec hi hf) (by simpa using hr)
    (.inl ⟨by simp [Region.wanted, hp.gd], fun w hw => hp.pu a w ha hw⟩) (hw.seesSub hA.mem) (hk _ w (by rw [hp.dst]; exact ha.put hp.lt) hw)
theorem AG_one (i : Nat) {rest : List Oper} (hi : ops.toList.drop i = o :: rest) (hg : o.guard = none) (hr : Region.ready .any ops listed = [i])
    (h : L Γ [o] l M (fun l' M' => AllIn A M' ∧ AG Γ ops A Qp last fuel (listed.setIfInBounds i true) l' M')) : AG Γ ops A Qp last (fuel + 1) listed l M := fun a w ha hw => by
  refine ⟨fun h0 => (by rw [hr] at h0; cases h0), fun j hj => ?_⟩
  rw [hr] at hj
  rw [List.mem_singleton.1 hj]
  unfold wpOp
  rw [drop_get hi]
  simp only [Region.wanted, hg, if_true]
  refine .inl (Oper.wp_mono (fun a' w' h1 => ?_) (L_one h hg ha hw))
  obtain ⟨_, l', M', h1, h2, h3, h4⟩ := h1
  exact ⟨fun _ => h2.seesSub h3.mem, h4 a' w' h1 h2⟩
/-- The one that writes: nothing need be kept from here on. -/
theorem AG_last (i : Nat) {rest : List Oper} (hi : ops.toList.drop i = o :: rest) (hg : o.guard = none) (hr : Region.ready .any ops listed = [i]) (hil : (listed.setIfInBounds i true).getD last false = true)
    (h : L Γ [o] l M (fun l' M' => AG Γ ops [] Qp last fuel (listed.setIfInBounds i true) l' M')) : AG Γ ops A Qp last (fuel + 1) listed l M := fun a w ha hw => by
  refine ⟨fun h0 => (by rw [hr] at h0; cases h0), fun j hj => ?_⟩
  rw [hr] at hj
  rw [List.mem_singleton.1 hj]
  unfold wpOp
  rw [drop_get hi]
  simp only [Region.wanted, hg, if_true]
  refine .inl (Oper.wp_mono (fun a' w' h1 => ?_) (L_one h hg ha hw))
  obtain ⟨_, l', M', h1, h2, h4⟩ := h1
  refine ⟨fun hf => (by rw [hil] at hf; cases hf), ?_⟩
  exact wpG_flag fuel _ a' w' hil (h4 a' w' h1 h2)
theorem AG_A (A' : List HP) (hs : AllIn A A') (h : AG Γ ops A' Qp last fuel listed l M) : AG Γ ops A Qp last fuel listed l M := fun a w ha hw =>
  wpG_S (fun w h => ⟨h.old, fun x hx => h.prs x (hs.mem x hx)⟩) _ _ _ _ (h a w ha hw)
section
variable {ty : TypeId} {pos : String} {af : Array Edge}
end
end Go.Proofs.SL
