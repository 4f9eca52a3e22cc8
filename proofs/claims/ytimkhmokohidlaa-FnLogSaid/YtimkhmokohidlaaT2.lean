/- The texts of the proof, part 2: the base, walks of functions, plain Lean. -/
import Derived.Test.YtimkhmokohidlaaT1
import Derived.Sort.Grow
import Derived.Sort.EncStr
import Derived.Lib.SlicesCompact
import Derived.Laws.StructEq
import Derived.Test.YtimkhmokohidlaaRows
import Derived.Lib.Overlaps
import Derived.Lib.AppendZerosOnto
import Derived.Laws.Externs
namespace Go.Proofs.SL
open Go
variable {Γ : Cx} {l : Envl} {M M' M1 M2 F : List HP} {Q : Post} {K : Kont} {w0 w : World} {S0 : List Nat}
variable {rest : List Oper} {d : Nat} {ty : TypeId} {pos : String} {af : Array Edge}
variable {ops : Array Oper} {Msh pool : List HP} {E : Fl} {rs : List (Option Nat × Rel)} {cs0 : List Nat} {KD : List (Option Nat × Rel) → List Nat → List HP → Prop} {gd : Option (Nat × Bool)}
theorem run_sslO {P : Program} {T : TypeId} {s r : ByteArray} {vlo vhi : Option Value} {a b : Int} (ht : isStr P T = true) (hlo : (vlo = none ∧ a = 0) ∨ ∃ k, vlo = some (.int k a)) (hhi : (vhi = none ∧ b = (s.size : Int)) ∨ ∃ k, vhi = some (.int k b))
    (hr : sslP s a b = some r) (w : World) : (Instr.sliceAt T (.string s) vlo vhi none).run P w = .ok (.string r) w := by
  have h2 : P.underlying T = some .string := by unfold isStr at ht; split at ht <;> simp_all
  unfold sslP at hr
  split at hr
  · rename_i hb
    cases hr
    have e1 := fun k w => run_sliceBound (P := P) (k := k) (code := .sliceAlen) (show 0 ≤ b by omega) (show b ≤ ((s.size : Nat) : Int) by omega) w
    have e2 := fun k w => run_sliceBound (P := P) (k := k) (code := .sliceB) hb.1 (show a ≤ ((b.toNat : Nat) : Int) by omega) w
    have e3 := fun k w => run_sliceBound (P := P) (k := k) (code := .sliceB) hb.1 (show a ≤ ((s.size : Nat) : Int) by omega) w
    rcases hlo with ⟨rfl, rfl⟩ | ⟨k1, rfl⟩ <;> rcases hhi with ⟨rfl, rfl⟩ | ⟨k2, rfl⟩
    · simp [Instr.sliceAt, Instr.slice, underlying, h2, Instr.sliceBounds]
    · simp [Instr.sliceAt, Instr.slice, underlying, h2, Instr.sliceBounds, e1]
    · simp [Instr.sliceAt, Instr.slice, underlying, h2, Instr.sliceBounds, e3]
    · simp [Instr.sliceAt, Instr.slice, underlying, h2, Instr.sliceBounds, e1, e2]
  · cases hr
theorem L_ssl {x : Operand} {lo hi : Option Operand} {T : TypeId} {s r : ByteArray} {a b : Int} (hn : Nat.blt d Γ.n = true) (hx : ev l x = some (.string s)) (hlo : optI l lo 0 = some a) (hhi : optI l hi (s.size : Int) = some b)
    (ht : isStr Γ.P T = true) (hr : sslP s a b = some r) (hk : L Γ rest ((d, .string r) :: l) M K) :
    L Γ ({ dst := some d, op := .slice T x lo hi none, type := ty, pos := pos, after := af, guard := none } :: rest) l M K :=
  L_pure hn (fun a' w ha hw => by
    have e0 := ha.eval hx
    have h1 := run_sslO (P := Γ.P) (T := T) (s := s) (r := r) (vlo := lo.map a'.eval) (vhi := hi.map a'.eval) (a := a) (b := b) ht (by
      cases lo with
      | none => cases hlo; exact .inl ⟨rfl, rfl⟩
      | some o => obtain ⟨k, h⟩ := optI_some hlo; exact .inr ⟨k, by simp [ha.eval h]⟩) (by
      cases hi with
      | none => cases hhi; exact .inl ⟨rfl, rfl⟩
      | some o => obtain ⟨k, h⟩ := optI_some hhi; exact .inr ⟨k, by simp [ha.eval h]⟩) hr w
    simp [execOp, e0, h1]) hk
def optD (E : Fl) (x : Option Operand) (c : Prop) (n i : Int) : Prop := match x with
  | none => n = i
  | some o => ∃ k, OpV E o c (.int k i)
theorem optD.none {c : Prop} {n : Int} : optD E Option.none c n n := rfl
theorem optD.some {o : Operand} {c : Prop} {n i : Int} {k : IntKind} (h : OpV E o c (.int k i)) : optD E (Option.some o) c n i := ⟨k, h⟩
theorem D_ssl {x : Operand} {lo hi : Option Operand} {T : TypeId} {s r : ByteArray} {a b : Int} {c : Prop} (hg : GC ops E { dst := some d, op := .slice T x lo hi none, type := ty, pos := pos, after := af, guard := gd } c)
    (hx : OpV E x c (.string s)) (hlo : optD E lo c 0 a) (hhi : optD E hi c (s.size : Int) b) (ht : isStr Γ.P T = true) (hr : c → sslP s a b = some r)
    (hk : DV Γ ops Msh pool ((d, FC c (.string r)) :: E) ((some d, FC c (.string r)) :: rs) cs0 rest KD) :
    DV Γ ops Msh pool E rs cs0 ({ dst := some d, op := .slice T x lo hi none, type := ty, pos := pos, after := af, guard := gd } :: rest) KD :=
  DV_pure c _ hg (fun a' w F hc hf hs => by
    have e0 := hx.eval hf (by simp [Op.operands]) hc
    have h1 := run_sslO (P := Γ.P) (T := T) (s := s) (r := r) (vlo := lo.map a'.eval) (vhi := hi.map a'.eval) (a := a) (b := b) ht (by
      cases lo with
      | none => cases hlo; exact .inl ⟨rfl, rfl⟩
      | some o => obtain ⟨k, h⟩ := hlo; exact .inr ⟨k, by simp [OpV.eval h hf (by simp [Op.operands]) hc]⟩) (by
      cases hi with
      | none => cases hhi; exact .inl ⟨rfl, rfl⟩
      | some o => obtain ⟨k, h⟩ := hhi; exact .inr ⟨k, by simp [OpV.eval h hf (by simp [Op.operands]) hc]⟩) (hr hc) w
    simp [execOp, e0, h1]) hk
section
variable {τ δ : Type} [GT τ δ]
/-- A slice of one's own, its element i opened: the element's cells stand as they are named, what it owned is elsewhere. -/
def holeH (X : TL τ) (i : Nat) (cs : List Value) : HP := ⟨[X.g] ++ (X.els.eraseIdx i).flatMap GT.fp,
  fun w => cs.length = GT.sz τ ∧ i < X.els.length ∧ X.els.length ≤ X.cap ∧ X.cap ≤ maxLen ∧ X.a = some ⟨X.g, 0, none⟩ ∧ (∀ x, x ∈ X.els.eraseIdx i → GT.ow w x) ∧
    w.heap[X.g]? = some (.cells (rowCells (X.els.take i) ++ (cs ++ (rowCells (X.els.drop (i + 1)) ++ X.tail))).toArray X.e (0, 0)) ∧ X.els.length * GT.sz τ + X.tail.length = X.cap * GT.sz τ,
  fun w w' h hp => ⟨hp.1, hp.2.1, hp.2.2.1, hp.2.2.2.1, hp.2.2.2.2.1, fun x hx => GT.ow_st (fun k hk => h k (List.mem_append_right _ (List.mem_flatMap.2 ⟨x, hx, hk⟩))) (hp.2.2.2.2.2.1 x hx), by
    rw [h X.g (by simp)]; exact hp.2.2.2.2.2.2.1, hp.2.2.2.2.2.2.2⟩⟩
theorem row_parts (xs : List τ) {i : Nat} {x : τ} (hi : xs[i]? = some x) : rowCells xs = rowCells (xs.take i) ++ (GT.cells x ++ rowCells (xs.drop (i + 1))) := by
  obtain ⟨hlt, hx⟩ := List.getElem?_eq_some_iff.1 hi
  have h1 : xs = xs.take i ++ xs[i] :: xs.drop (i + 1) := by rw [← List.drop_eq_getElem_cons hlt, List.take_append_drop]
  conv => lhs; rw [h1]
  rw [rowCells_append, rowCells_cons, hx]
theorem perm_el (xs : List τ) {i : Nat} {x : τ} (hi : xs[i]? = some x) : List.Perm xs (x :: xs.eraseIdx i) := by
  obtain ⟨hlt, hx⟩ := List.getElem?_eq_some_iff.1 hi
  rw [List.eraseIdx_eq_take_drop_succ]
  have : xs = xs.take i ++ x :: xs.drop (i + 1) := by rw [← hx, ← List.drop_eq_getElem_cons hlt, List.take_append_drop]
  conv => lhs; rw [this]
  exact List.perm_middle
theorem hole_open {X : TL τ} {i : Nat} {x : τ} (hi : X.els[i]? = some x) (p : Pick (treeH X) M M1) (h : Holds w0 S0 M w) : Holds w0 S0 (treeH x :: holeH X i (GT.cells x) :: M1) w := by
  have h := h.perm p.perm
  have ht : GT.ow w X := h.prs _ (List.mem_cons_self ..)
  have hlt := (List.getElem?_eq_some_iff.1 hi).1
  obtain ⟨r1, r2, r3, r4, r5⟩ := ht
  obtain ⟨g, ha⟩ := (ow_facts (w := w) (L := X) ⟨r1, r2, r3, r4, r5⟩).2 (by omega)
  have hg : X.g = g := by unfold TL.g; rw [ha]; rfl
  subst hg
  obtain ⟨h1, h2, h3, h4⟩ := r5 _ ha
  refine h.reFp ?_ fun y hy => ?_
  · simp only [fps_cons]
    show List.Perm (((match X.a with | none => [] | some a => [a.block]) ++ X.els.flatMap GT.fp) ++ fps M1) (GT.fp x ++ (([X.g] ++ (X.els.eraseIdx i).flatMap GT.fp) ++ fps M1))
    rw [ha]
    have hp := (perm_el X.els hi).flatMap_right GT.fp
    rw [List.flatMap_cons] at hp
    show List.Perm (([X.g] ++ X.els.flatMap GT.fp) ++ fps M1) _
    rw [← List.append_assoc, ← List.append_assoc]
    refine List.Perm.append_right _ ?_
    refine (hp.append_left [X.g]).trans ?_
    rw [← List.append_assoc]
    exact List.perm_append_comm.append_right _
  · rcases List.mem_cons.1 hy with rfl | hy
    · exact r3 x (List.mem_of_getElem? hi)
    rcases List.mem_cons.1 hy with rfl | hy
    · refine ⟨GT.len x, hlt, r1, r2, ha, fun z hz => r3 z ((perm_el X.els hi).mem_iff.2 (List.mem_cons_of_mem _ hz)), ?_, h4⟩
      rw [row_parts X.els hi] at h3
      simpa [List.append_assoc] using h3
    · exact h.prs _ (List.mem_cons_of_mem _ hy)
theorem hole_close {X : TL τ} {i : Nat} {x' : τ} {cs : List Value} (hc : cs = GT.cells x') (p : Pick (holeH X i cs) M M1) (q : Pick (treeH x') M1 M2) (h : Holds w0 S0 M w) :
    Holds w0 S0 (treeH ({ X with els := X.els.set i x' } : TL τ) :: M2) w := by
  subst hc
  have h := h.perm (p.perm.trans (q.perm.cons _))
  obtain ⟨r1, r2, r3, r4, r5, r6, r7, r8⟩ := h.prs (holeH X i (GT.cells x')) (List.mem_cons_self ..)
  have hx := h.prs (treeH x') (List.mem_cons_of_mem _ (List.mem_cons_self ..))
  have hi : (X.els.set i x')[i]? = some x' := by rw [List.getElem?_set_self]; exact r2
  have he : (X.els.set i x').eraseIdx i = X.els.eraseIdx i := by
    rw [List.eraseIdx_eq_take_drop_succ, List.eraseIdx_eq_take_drop_succ, List.take_set_of_le (Nat.le_refl _), List.drop_set_of_lt (Nat.lt_succ_self _)]
  refine h.reFp ?_ fun y hy => ?_
  · simp only [fps_cons]
    show List.Perm (([X.g] ++ (X.els.eraseIdx i).flatMap GT.fp) ++ (GT.fp x' ++ fps M2)) (((match X.a with | none => [] | some a => [a.block]) ++ (X.els.set i x').flatMap GT.fp) ++ fps M2)
    rw [r5]
    have hp := (perm_el _ hi).flatMap_right GT.fp
    rw [List.flatMap_cons, he] at hp
    show List.Perm _ (([X.g] ++ (X.els.set i x').flatMap GT.fp) ++ fps M2)
    rw [← List.append_assoc]
    refine List.Perm.append_right _ ?_
    rw [List.append_assoc]
    exact ((List.perm_append_comm).trans hp.symm).append_left [X.g]
  · rcases List.mem_cons.1 hy with rfl | hy
    · refine ⟨by simpa using r3, r4, fun z hz => ?_, fun ha => ?_, fun a ha => ?_⟩
      · rcases List.mem_cons.1 ((perm_el _ hi).mem_iff.1 hz) with rfl | hz
        · exact hx
        · rw [he] at hz; exact r6 z hz
      · have ha' : X.a = none := ha
        rw [r5] at ha'; cases ha'
      · have ha' : X.a = some a := ha
        rw [r5] at ha'; cases ha'
        refine ⟨rfl, rfl, ?_, by simpa using r8⟩
        rw [row_parts _ hi, List.take_set_of_le (Nat.le_refl _), List.drop_set_of_lt (Nat.lt_succ_self _)]
        simpa [List.append_assoc] using r7
    · exact h.prs _ (List.mem_cons_of_mem _ (List.mem_cons_of_mem _ hy))
theorem dat_set (X : TL τ) (i : Nat) (x' : τ) : GT.dat ({ X with els := X.els.set i x' } : TL τ) = (GT.dat X).set i (GT.dat x') := by
  rw [dat_els, dat_els, List.map_set]
/-- A store into the opened element. -/
theorem L_stH {x y : Operand} {T sz fo n : Nat} {v : Value} {X : TL τ} {i : Nat} {cs : List Value} (hx : ev l x = some (.pointer (some ⟨X.g, X.o + i * sz + fo, none⟩))) (hy : ev l y = some v)
    (hp : Pick (holeH X i cs) M M1) (hsz : GT.sz τ = sz) (hT : aggOf Γ.P T = some n ∨ (oneOf Γ.P T = true ∧ n = 1)) (hv : v.cells.toList.length = n) (h1 : ∀ u, u ∈ v.cells.toList → u.oneCell' = true) (hfit : fo + n ≤ cs.length)
    (hk : L Γ rest l (holeH X i (cs.take fo ++ v.cells.toList ++ cs.drop (fo + n)) :: M1) K) :
    L Γ ({ dst := none, op := .store T x y, type := ty, pos, after := af, guard := none } :: rest) l M K :=
  L_skip rfl rfl (fun a w ha hw => by
    subst hsz; subst hv
    have hw1 := hw.perm hp.perm
    obtain ⟨r1, r2, r3, r4, r5, r6, r7, r8⟩ := hw1.prs (holeH X i cs) (List.mem_cons_self ..)
    have ho : X.o = 0 := by unfold TL.o; rw [r5]; rfl
    have hl : (rowCells (X.els.take i)).length = i * GT.sz τ := by rw [length_rowCells, List.length_take, Nat.min_eq_left (by omega)]
    have hs := run_store_blk (P := Γ.P) (fo := i * GT.sz τ + fo) (vs := v.cells.toList) (ty := 0) r7 (by
      simp only [List.length_append, hl]; omega) h1
    have e : (rowCells (X.els.take i) ++ (cs ++ (rowCells (X.els.drop (i + 1)) ++ X.tail))).take (i * GT.sz τ + fo) ++ v.cells.toList ++ (rowCells (X.els.take i) ++ (cs ++ (rowCells (X.els.drop (i + 1)) ++ X.tail))).drop (i * GT.sz τ + fo + v.cells.toList.length)
        = rowCells (X.els.take i) ++ ((cs.take fo ++ v.cells.toList ++ cs.drop (fo + v.cells.toList.length)) ++ (rowCells (X.els.drop (i + 1)) ++ X.tail)) := by
      generalize rowCells (X.els.take i) = A at *
      generalize (rowCells (X.els.drop (i + 1)) ++ X.tail) = B at *
      rw [← hl]
      rw [List.take_append, List.take_of_length_le (by omega), Nat.add_sub_cancel_left, List.take_append_of_le_length (by omega)]
      rw [show A.length + fo + v.cells.toList.length = A.length + (fo + v.cells.toList.length) by omega, List.drop_append, List.drop_of_length_le (by omega), List.nil_append, Nat.add_sub_cancel_left, List.drop_append_of_le_length (by omega)]
      simp only [List.append_assoc]
    rw [e] at hs
    refine ⟨w.setRow X.g (rowCells (X.els.take i) ++ ((cs.take fo ++ v.cells.toList ++ cs.drop (fo + v.cells.toList.length)) ++ (rowCells (X.els.drop (i + 1)) ++ X.tail))).toArray, ?_, ?_⟩
    · have hx' := ha.eval hx
      rw [ho, Nat.zero_add] at hx'
      rcases hT with hT | ⟨hT, hn1⟩
      · have hcs : v.cells.size = v.cells.toList.length := by simp
        simp [execOp, hx', ha.eval hy, Instr.storeAt, Instr.sureAddr, storeVar, run_isAgg_agg hT, hs]
      · have hcs : v.cells.size = 1 := by rw [← hn1]; simp
        simp [execOp, hx', ha.eval hy, Instr.storeAt, Instr.sureAddr, storeVar, run_isAgg_one hT, hcs, hs]
    · refine Holds.swap hw1 rfl rfl rfl (by simp) (fun k hk hn => ?_) (fun k hk => ?_) ?_ ?_
      · exact setRow_other _ _ _ _ (fun e => hn (by simp [holeH, e]))
      · have hk' : k ∈ (holeH X i cs).fp := hk
        refine ⟨.inl hk', ?_⟩
        rw [size_setRow]
        exact (hw1.rng k (by rw [fps_cons]; exact List.mem_append_left _ hk')).2
      · have := hw1.nodup
        rw [fps_cons] at this
        exact (List.nodup_append.1 this).1
      · have hdis : ∀ k, k ∈ (X.els.eraseIdx i).flatMap GT.fp → k ≠ X.g := fun k hk e => by
          have := hw1.nodup
          rw [fps_cons] at this
          have h2 := (List.nodup_append.1 this).1
          have h3 : (X.g :: (X.els.eraseIdx i).flatMap GT.fp).Nodup := h2
          rw [List.nodup_cons] at h3
          exact h3.1 (e ▸ hk)
        refine ⟨?_, r2, r3, r4, r5, fun z hz => GT.ow_st (fun k hk => setRow_other _ _ _ _ (fun e => hdis k (List.mem_flatMap.2 ⟨z, hz, hk⟩) e)) (r6 z hz), setRow_heap _ _ _ _ _ _ r7, r8⟩
        simp only [List.length_append, List.length_take, List.length_drop]; omega) hk
end
end Go.Proofs.SL
namespace Go.Proofs.SL
open Go
theorem cells_int (n : Int) : GT.cells n = [.int .i64 n] := rfl
theorem cells_bool (b : Bool) : GT.cells b = [.bool b] := rfl
theorem cells_str (s : ByteArray) : GT.cells s = [.string s] := rfl
theorem cells_TL {τ δ : Type} [GT τ δ] (X : TL τ) : GT.cells X = [X.hdr] := rfl
theorem gnot {b : Bool} (h : b = false) : (!b) = true := by rw [h]; rfl
theorem allOne {cs : List Value} (h : cs.all Value.oneCell' = true) : ∀ v, v ∈ cs → v.oneCell' = true := List.all_eq_true.1 h
variable {Γ : Cx} {l : Envl} {M M' M1 M2 F : List HP} {Q : Post} {K : Kont} {w0 w : World} {S0 : List Nat}
variable {rest : List Oper} {d : Nat} {ty : TypeId} {pos : String} {af : Array Edge}
theorem RdT.now {τ δ : Type} [GT τ δ] {t : τ} (h : RdT Γ M t) (hw : Holds Γ.w0 Γ.S0 M w) : GT.rd w [] t := h w hw.sees
theorem RdT.nowS {τ δ : Type} [GT τ δ] {t : τ} (h : RdT Γ M t) (hw : Holds Γ.w0 Γ.S0 F w) (hs : ∀ x, x ∈ M → x ∈ F) : GT.rd w [] t := h w (hw.seesSub hs)
theorem addNilT {τ δ : Type} [GT τ δ] (e : TypeId) (h : Holds w0 S0 M w) : Holds w0 S0 (treeH (TL.nil τ e) :: M) w := h.addFlat (flat_nil e)
theorem L_mk0 (τ : Type) {δ : Type} [GT τ δ] {T e sz by_ : Nat} {z : List Value} (hn : Nat.blt d Γ.n = true) (ht : elOf Γ.P T = some (e, sz, by_, z))
    (hk : ∀ X : TL τ, GT.dat X = [] → L Γ rest ((d, X.hdr) :: l) (treeH X :: M) K) :
    L Γ ({ dst := some d, op := .buildSlice T 0 #[], type := ty, pos, after := af, guard := none } :: rest) l M K :=
  L_buildSlice0 τ hn ht (fun b => hk ⟨some ⟨b, 0, none⟩, 0, e, [], []⟩ rfl)
end Go.Proofs.SL
namespace Go.Proofs.SL
open Go
variable {Γ : Cx} {l : Envl} {M M' M1 M2 F : List HP} {Q : Post} {K : Kont} {w0 w : World} {S0 : List Nat}
variable {rest : List Oper} {d : Nat} {ty : TypeId} {pos : String} {af : Array Edge}
variable {ops : Array Oper} {Msh pool pool' : List HP} {E : Fl} {rs : List (Option Nat × Rel)} {cs0 : List Nat} {KD : List (Option Nat × Rel) → List Nat → List HP → Prop}
section
variable {τ δ : Type} [GT τ δ]
def OwnV (r : List δ) : Rel := fun v M => ∃ X : TL τ, v = X.hdr ∧ GT.dat X = r ∧ M = [treeH X]
/-! A row whose elements are handed on -/
theorem RdC.row {X : TL τ} {j : Nat} {x : τ} (h : rowH X ∈ M) (hi : X.els[j]? = some x) : RdC Γ M X.g (X.o + j * GT.sz τ) (GT.cells x) := fun w hw k v hv => by
  obtain ⟨r1, r2, r3, r4⟩ := hw.prs _ h
  have hlt := (List.getElem?_eq_some_iff.1 hi).1
  have hk : k < GT.sz τ := by rw [← GT.len x]; exact (List.getElem?_eq_some_iff.1 hv).1
  cases ha : X.a with
  | none => have := (r3 ha).1; rw [this] at hlt; simp at hlt
  | some a =>
    obtain ⟨h1, h2, h3, h4⟩ := r4 a ha
    have hg : X.g = a.block := by unfold TL.g; rw [ha]; rfl
    have ho : X.o = 0 := by unfold TL.o; rw [ha]; exact h2
    rw [hg, ho, Nat.zero_add, cell_of_row _ _ _ _ _ _ h3]
    simp only [List.getElem?_toArray]
    have hc := rowCells_get X.els j k x hi hk
    rw [List.getElem?_append_left (by rw [hv] at hc; exact (List.getElem?_eq_some_iff.1 hc).1), hc]
    exact hv
end
end Go.Proofs.SL
namespace Go.Proofs.SL
open Go
variable {Γ : Cx} {l : Envl} {M M' M1 M2 F : List HP} {Q : Post} {K : Kont} {rest : List Oper}
section
variable {τ δ : Type} [GT τ δ]
theorem L_close {X : TL τ} {i : Nat} {cs : List Value} (x' : τ) {r : List δ} (hc : cs = GT.cells x') (p : Pick (holeH X i cs) M M1) (q : Pick (treeH x') M1 M2) (hr : some ((GT.dat X).set i (GT.dat x')) = some r)
    (hk : ∀ X2 : TL τ, GT.dat X2 = r → X2.hdr = X.hdr → L Γ rest l (treeH X2 :: M2) K) : L Γ rest l M K :=
  L_conv (fun w h => hole_close hc p q h) (hk _ (by rw [dat_set]; exact Option.some.inj hr) (by show Value.slice X.a (X.els.set i x').length X.cap = Value.slice X.a X.els.length X.cap; rw [List.length_set]))
end
end Go.Proofs.SL
namespace Go.Proofs.SL
open Go
variable {Γ : Cx} {rest : List Oper} {d : Nat} {ty : TypeId} {pos : String} {af : Array Edge} {gd : Option (Nat × Bool)}
variable {ops : Array Oper} {Msh pool : List HP} {E : Fl} {rs : List (Option Nat × Rel)} {cs0 : List Nat} {KD : List (Option Nat × Rel) → List Nat → List HP → Prop}
end Go.Proofs.SL
namespace Go.Proofs.SL
open Go
variable {Γ : Cx} {rest : List Oper} {d : Nat} {ty : TypeId} {pos : String} {af : Array Edge} {gd : Option (Nat × Bool)}
variable {ops : Array Oper} {Msh pool : List HP} {E : Fl} {rs : List (Option Nat × Rel)} {cs0 : List Nat} {KD : List (Option Nat × Rel) → List Nat → List HP → Prop}
end Go.Proofs.SL
namespace Go.Proofs.SL
open Go
section
variable {α β σ τ : Type}
theorem wrap_succ {k : Nat} (h : k < 9223372036854775807) : IntKind.wrap .i64 ((k : Int) + 1) = ((k + 1 : Nat) : Int) := by rw [wrap64_in (by unfold inR; omega)]; omega
theorem gb_true [Inhabited α] {o : Option α} {k : α → Option β} : gb true o k = o.bind k := rfl
theorem gb_false [Inhabited α] {o : Option α} {k : α → Option β} : gb false o k = k default := rfl
theorem appP_ok {δ : Type} {a b : List δ} (h : a.length + b.length ≤ 4294967296) : appP a b = some (a ++ b) := if_pos h
theorem catP_ok {a b : ByteArray} (h : a.size + b.size ≤ 9223372036854775807) : catP a b = some (a ++ b) := if_pos h
theorem lt_dec {k n : Nat} (h : k < n) : decide ((k : Int) < (n : Int)) = true := decide_eq_true (by omega)
theorem ge_dec {n : Nat} : decide ((n : Int) < (n : Int)) = false := decide_eq_false (by omega)
/-- A check of all places. -/
theorem whileP_all {f : Int → Option (Int ⊕ α)} {n : Nat} (b : Nat → Bool) (no yes : Option α)
    (h : ∀ k, k < n → f (k : Int) = if b k then some (.inl ((k + 1 : Nat) : Int)) else no.map .inr) (hn : f (n : Int) = yes.map .inr) : whileP f 0 = if (List.range n).all b then yes else no := by
  have key : ∀ m k, n - k = m → k ≤ n → whileP f (k : Int) = if (List.range' k (n - k)).all b then yes else no := by
    intro m
    induction m with
    | zero =>
      intro k hm hk
      have : k = n := by omega
      subst this
      rw [whileP_eq, hn, Nat.sub_self]
      cases yes <;> rfl
    | succ m ih =>
      intro k hm hk
      rw [whileP_eq, h k (by omega), show n - k = (n - (k + 1)) + 1 by omega, List.range'_succ, List.all_cons]
      cases hb : b k with
      | true =>
        simp only [if_true, Bool.true_and]
        exact ih (k + 1) (by omega) (by omega)
      | false =>
        simp only [Bool.false_and, Bool.false_eq_true, if_false]
        cases no <;> rfl
  have := key n 0 (by omega) (by omega)
  rw [Nat.sub_zero, ← List.range_eq_range'] at this
  exact this
end
end Go.Proofs.SL
namespace Go.Proofs.SL
open Go
variable {Γ : Cx} {l : Envl} {M M' M1 M2 F : List HP} {Q : Post} {K : Kont} {w0 w : World} {S0 : List Nat} {P : Program}
variable {rest : List Oper} {d : Nat} {ty : TypeId} {pos : String} {af : Array Edge}
variable {ops : Array Oper} {Msh pool : List HP} {E : Fl} {rs : List (Option Nat × Rel)} {cs0 : List Nat} {KD : List (Option Nat × Rel) → List Nat → List HP → Prop} {gd : Option (Nat × Bool)}
section
variable {τ δ : Type} [GT τ δ]
end
/-! Headers -/
def slA (o c lo sz : Nat) : Nat := if c = lo then o else o + lo * sz
section
variable {τ δ : Type} [GT τ δ]
theorem sl0 (c sz : Nat) : slA 0 c 0 sz = 0 := by unfold slA; split <;> simp
end
end Go.Proofs.SL
namespace Go.Proofs.SL
open Go
theorem RdT.w0 {Γ : Cx} {τ δ : Type} [GT τ δ] {t : τ} (h : RdT Γ [] t) : GT.rd Γ.w0 [] t := h Γ.w0 ⟨fun _ _ _ => rfl, fun _ h => by cases h⟩
end Go.Proofs.SL
namespace Go.Proofs.SL
open Go
variable {Γ : Cx} {l : Envl} {M M' M1 M2 F : List HP} {Q : Post} {K : Kont} {w0 w : World} {S0 : List Nat} {P : Program}
variable {rest : List Oper} {d : Nat} {ty : TypeId} {pos : String} {af : Array Edge}
/-- What can be read by a callee that is given M1, while M2 stays behind. -/
def RdX {τ δ : Type} [GT τ δ] (Γ : Cx) (M1 M2 : List HP) (t : τ) : Prop := ∀ w, Holds Γ.w0 Γ.S0 (M1 ++ M2) w → GT.rd w (fps M1) t
section
variable {τ δ : Type} [GT τ δ] {t : τ}
theorem RdX.old (h : GT.rd Γ.w0 Γ.S0 t) : RdX Γ M1 M2 t := fun _ hw => GT.rd_mono h fun _ _ ho => ho.carry hw
theorem RdX.tree (h : treeH t ∈ M2) : RdX Γ M1 M2 t := fun w hw => by
  have ho : GT.ow w t := hw.prs (treeH t) (List.mem_append_right _ h)
  refine GT.ow_rd ho fun k hk hk1 => ?_
  have hnd := hw.nodup
  rw [fps_append] at hnd
  exact (List.nodup_append.1 hnd).2.2 k hk1 k (List.mem_flatMap.2 ⟨_, h, hk⟩) rfl
theorem RdX.of {X : TL τ} {j : Nat} {x : τ} (h : RdX Γ M1 M2 X) (hi : X.els[j]? = some x) : RdX Γ M1 M2 x := fun w hw => (h w hw).2.2.1 x (List.mem_of_getElem? hi)
theorem RdX.pair {α β δ ε : Type} [GT α δ] [GT β ε] {a : α} {b : β} (h1 : RdX Γ M1 M2 a) (h2 : RdX Γ M1 M2 b) : RdX Γ M1 M2 (a, b) := fun w hw => ⟨h1 w hw, h2 w hw⟩
theorem RdX.int {n : Int} : RdX Γ M1 M2 n := fun _ _ => trivial
theorem RdX.bool {n : Bool} : RdX Γ M1 M2 n := fun _ _ => trivial
theorem RdX.str {n : ByteArray} : RdX Γ M1 M2 n := fun _ _ => trivial
theorem RdX.u8 {n : UInt8} : RdX Γ M1 M2 n := fun _ _ => trivial
theorem nil_rd {w : World} {S : List Nat} (e : TypeId) : GT.rd w S (TL.nil τ e) := ⟨Nat.le_refl _, by simp [TL.nil, maxLen], fun x hx => by simp [TL.nil] at hx, fun _ => rfl, fun a ha => by simp [TL.nil] at ha⟩
theorem RdX.nil (e : TypeId) : RdX Γ M1 M2 (TL.nil τ e) := fun _ _ => nil_rd e
theorem RdX.map {α δ' : Type} [GT α δ'] {a : α} (f : ∀ w S, GT.rd w S a → GT.rd w S t) (h : RdX Γ M1 M2 a) : RdX Γ M1 M2 t := fun w hw => f w _ (h w hw)
theorem RdT.map {α δ' : Type} [GT α δ'] {a : α} (f : ∀ w S, GT.rd w S a → GT.rd w S t) (h : RdT Γ M a) : RdT Γ M t := fun w hw => f w _ (h w hw)
end
/-- The same, of one world. -/
def RdO {τ δ : Type} [GT τ δ] (w : World) (S : List Nat) (t : τ) : Prop := GT.rd w S t
section
variable {τ δ : Type} [GT τ δ] {t : τ} {S : List Nat}
theorem RdO.old (h : GT.rd w S t) : RdO w S t := h
theorem RdO.of {X : TL τ} {j : Nat} {x : τ} (h : RdO w S X) (hi : X.els[j]? = some x) : RdO w S x := h.2.2.1 x (List.mem_of_getElem? hi)
theorem RdO.pair {α β δ ε : Type} [GT α δ] [GT β ε] {a : α} {b : β} (h1 : RdO w S a) (h2 : RdO w S b) : RdO w S (a, b) := ⟨h1, h2⟩
theorem RdO.int {n : Int} : RdO w S n := trivial
theorem RdO.bool {n : Bool} : RdO w S n := trivial
theorem RdO.str {n : ByteArray} : RdO w S n := trivial
theorem RdO.u8 {n : UInt8} : RdO w S n := trivial
theorem RdO.nil (e : TypeId) : RdO w S (TL.nil τ e) := nil_rd e
theorem RdO.map {α δ' : Type} [GT α δ'] {a : α} (f : ∀ w S, GT.rd w S a → GT.rd w S t) (h : RdO w S a) : RdO w S t := f w _ h
end
/-- A call that is given some parts. -/
theorem L_callM {f : Nat} {xs : List Operand} {ats : Array TypeId} {vs : List Value} {R : Value → List HP → Prop} (M1 M2 : List HP)
    (hn : Nat.blt d Γ.n = true) (hf : IsFn Γ.P f) (hx : evs l xs = some vs) (hp : List.Perm M (M1 ++ M2)) (hc : ∀ w, Holds Γ.w0 Γ.S0 (M1 ++ M2) w → Spec Γ.P f vs.toArray w M1 R)
    (hk : ∀ v M', R v M' → L Γ rest ((d, v) :: l) (M' ++ M2) K) : L Γ ({ dst := some d, op := .call { callee := .value (.func f), args := xs.toArray, argTypes := ats }, type := ty, pos := pos, after := af, guard := none } :: rest) l M K :=
  L_call (M1 := M1) (M2 := M2) (R := R) rfl rfl rfl (Nat.le_of_ble_eq_true hn) hf hx hp hc hk
theorem res0n {P : Program} {fn : Func} {R : Value → List HP → Prop} {M' : List HP} (hr : fn.results = #[]) (hR : R (.tuple #[]) M') (hm : MSub M' M) : retQ P fn w0 S0 R .normal l M :=
  ⟨.tuple #[], M', fun a w ha hw => by
    rw [results_eq, hr]
    simp, hR, hm⟩
end Go.Proofs.SL
namespace Go.Proofs.SL
open Go
variable {Γ : Cx} {l : Envl} {M M' M1 M2 F : List HP} {Q : Post} {K : Kont} {w0 w : World} {S0 : List Nat} {P : Program}
variable {rest : List Oper} {d : Nat} {ty : TypeId} {pos : String} {af : Array Edge}
section
variable {τ δ : Type} [GT τ δ]
theorem slcP_some {α : Type} {l r : List α} {a b : Int} (h : slcP l a b = some r) : 0 ≤ a ∧ a ≤ b ∧ b ≤ l.length ∧ r = (l.drop a.toNat).take (b.toNat - a.toNat) := by
  unfold slcP at h; split at h
  · rename_i hb; cases h; exact ⟨hb.1, hb.2.1, hb.2.2, rfl⟩
  · cases h
end
end Go.Proofs.SL
namespace Go.Proofs.SL
open Go
variable {Γ : Cx} {l : Envl} {M M' M1 M2 F : List HP} {Q : Post} {K : Kont} {w0 w : World} {S0 : List Nat}
variable {rest : List Oper} {d : Nat} {ty : TypeId} {pos : String} {af : Array Edge}
variable {ops : Array Oper} {Msh pool pool' : List HP} {E : Fl} {rs : List (Option Nat × Rel)} {cs0 : List Nat} {KD : List (Option Nat × Rel) → List Nat → List HP → Prop}
section
variable {τ δ : Type} [GT τ δ]
theorem D_appT [FlatT τ] {s x : Operand} {T e sz by_ : Nat} {z : List Value} {X Y : TL τ} {r : List δ}
    (hs : OpV E s True X.hdr) (hx : OpV E x True Y.hdr) (ht : elOf Γ.P T = some (e, sz, by_, z)) (hsz : GT.sz τ = sz) (hz : z.length = sz)
    (hp : Pick (treeH X) pool pool') (hsrc : RdT Γ Msh Y) (hr : appP (GT.dat X) (GT.dat Y) = some r) (hb : by_ ≤ 32768)
    (hk : DV Γ ops Msh pool' ((d, OwnV (τ := τ) r) :: E) ((some d, OwnV (τ := τ) r) :: rs) cs0 rest KD) :
    DV Γ ops Msh pool E rs cs0 ({ dst := some d, op := .call { callee := .builtin .append, args := #[s, x], argTypes := #[T, T] }, type := ty, pos := pos, after := af, guard := none } :: rest) KD := by
  refine DV.mk (OwnV (τ := τ) r) ([treeH X]) pool' [] hp.perm rfl ?_ (by rw [dropE_nil]; exact hk)
  intro a w F Mk _ _ hw hm hfa hcf
  have hMk : Mk = [] := hcf
  subst hMk
  rw [dropE_nil] at hfa
  rw [if_pos (by simp [Region.wanted])]
  have e1 := hs.eval hfa (by simp [Op.operands, Call.operands]) trivial
  have e2 := hx.eval hfa (by simp [Op.operands, Call.operands]) trivial
  have hw1 : Holds Γ.w0 Γ.S0 (treeH X :: F) w := by simpa using hw
  obtain ⟨hl, rfl⟩ := appP_some hr
  simp only [dat_els, List.length_map] at hl
  have hrd : GT.rd w (fps Msh ++ Γ.S0) Y → True := fun _ => trivial
  have hY := hsrc w (hw1.seesSub fun h hh => List.mem_cons_of_mem _ (hm h hh))
  cases hya : Y.a with
  | some ad =>
    have hsp : Y.els ≠ [] → ad.spot = none := fun hne => (hY.2.2.2.2 ad hya).1 hne
    have hsrc2 : ∀ j v, (rowCells Y.els)[j]? = some v → w.cell? (ad.add j) = some v := fun j v hv => by
      have hne : Y.els ≠ [] := fun e => by rw [e] at hv; simp [rowCells] at hv
      obtain ⟨b, o, sp⟩ := ad
      have h3 : sp = none := hsp hne
      subst h3
      rw [addr_add]; exact ((hY.2.2.2.2 _ hya).2 j v hv).1
    obtain ⟨a', c', e', tl, w', h1, h2⟩ := append_rowE (P := Γ.P) (c := Y.cap) ht hsz hz (tree_row hw1) hsrc2 hl hb ty
    have h1' : (Builtin.append_ #[T, T] ty #[X.hdr, Y.hdr]).run Γ.P w = .ok (TL.hdr (⟨a', c', e', X.els ++ Y.els, tl⟩ : TL τ)) w' := by
      have : Y.hdr = .slice (some ad) Y.els.length Y.cap := by show Value.slice Y.a _ _ = _; rw [hya]
      rw [this]; exact h1
    have h3 : (execOp a.eval { dst := some d, op := .call { callee := .builtin .append, args := #[s, x], argTypes := #[T, T] }, type := ty, pos := pos, after := af, guard := none }).run Γ.P w = .ok (.value (TL.hdr (⟨a', c', e', X.els ++ Y.els, tl⟩ : TL τ))) w' := by
      generalize TL.hdr (⟨a', c', e', X.els ++ Y.els, tl⟩ : TL τ) = vv at *
      generalize X.hdr = uu at *
      generalize Y.hdr = yy at *
      simp [execOp, resolve, invoke, builtin, e1, e2, h1']
    rw [h3]
    refine ⟨[treeH (⟨a', c', e', X.els ++ Y.els, tl⟩ : TL τ)], ⟨_, rfl, ?_, rfl⟩, ?_⟩
    · rw [dat_els, List.map_append, dat_els, dat_els]
    · refine row_tree ?_
      have h4 : Holds Γ.w0 Γ.S0 (elsT X.els :: elsT Y.els :: rowH (⟨a', c', e', X.els ++ Y.els, tl⟩ : TL τ) :: F) w' := by
        have h5 := elsT_flat (xs := Y.els) h2 (fun x _ => FlatT.flat x)
        exact h5.perm (((List.Perm.swap _ _ _).trans ((List.Perm.swap _ _ _).cons _)).trans (List.Perm.swap _ _ _ |>.trans ((List.Perm.refl _)))) |>.perm (by
          first
          | exact List.Perm.refl _
          | exact (List.Perm.swap _ _ _)
          | exact ((List.Perm.swap _ _ _).cons _)
          | exact (List.Perm.swap _ _ _).trans ((List.Perm.swap _ _ _).cons _)
          | exact ((List.Perm.swap _ _ _).cons _).trans (List.Perm.swap _ _ _))
      exact (elsT_app h4).perm (List.Perm.swap _ _ _)
  | none =>
    have hye : Y.els = [] := hY.2.2.2.1 hya
    have hr0 : GT.ow w X := hw1.prs _ (List.mem_cons_self ..)
    have h5 : (Builtin.append_ #[T, T] ty #[X.hdr, Y.hdr]).run Γ.P w = .ok X.hdr w := by
      have : Y.hdr = .slice none 0 Y.cap := by show Value.slice Y.a _ _ = _; rw [hya, hye]; rfl
      rw [this]; exact append_none (P := Γ.P) (w := w) (a := X.a) (n := X.els.length) (c := X.cap) (c2 := Y.cap) ht hr0.1 ty
    have h3 : (execOp a.eval { dst := some d, op := .call { callee := .builtin .append, args := #[s, x], argTypes := #[T, T] }, type := ty, pos := pos, after := af, guard := none }).run Γ.P w = .ok (.value X.hdr) w := by
      generalize X.hdr = uu at *
      generalize Y.hdr = yy at *
      simp [execOp, resolve, invoke, builtin, e1, e2, h5]
    rw [h3]
    exact ⟨[treeH X], ⟨X, rfl, by rw [dat_els Y, hye]; simp, rfl⟩, hw1⟩
def OpVp (E : Fl) : List (Nat × Operand) → List (Nat × Value) → Prop
  | [], [] => True
  | x :: xs, v :: vs => (x.1 = v.1 ∧ OpV E x.2 True v.2) ∧ OpVp E xs vs
  | _, _ => False
theorem OpVp.nil : OpVp E [] [] := trivial
theorem OpVp.cons {i : Nat} {x : Operand} {v : Value} {xs : List (Nat × Operand)} {vs : List (Nat × Value)} (h : OpV E x True v) (hs : OpVp E xs vs) : OpVp E ((i, x) :: xs) ((i, v) :: vs) := ⟨⟨rfl, h⟩, hs⟩
theorem OpVp.evals {a : Act} {F : List HP} {o : Oper} (hf : Facts E (o.looksAt ops) F a) : ∀ (xs : List (Nat × Operand)) (vs : List (Nat × Value)), OpVp E xs vs → (∀ x, x ∈ xs → x.2 ∈ o.op.operands.toList) → xs.map (fun p => (p.1, a.eval p.2)) = vs
  | [], [], _, _ => rfl
  | x :: xs, v :: vs, h, hm => by
    rw [List.map_cons, h.1.2.eval hf (hm x (by simp)) trivial, OpVp.evals hf xs vs h.2 (fun y hy => hm y (List.mem_cons_of_mem _ hy)), h.1.1]
  | [], _ :: _, h, _ => h.elim
  | _ :: _, [], h, _ => h.elim
end
end Go.Proofs.SL
namespace Go.Proofs.SL
open Go
variable {M M1 : List HP} {w0 w : World} {S0 : List Nat}
end Go.Proofs.SL
namespace Go.Proofs.SL
open Go
end Go.Proofs.SL
namespace Go.Proofs.SL
open Go
variable {Γ : Cx} {l : Envl} {M M' M1 M2 F : List HP} {Q : Post} {K : Kont} {w0 w : World} {S0 : List Nat} {P : Program}
variable {rest : List Oper} {d : Nat} {ty : TypeId} {pos : String} {af : Array Edge}
section
variable {τ δ : Type} [GT τ δ]
theorem L_slcE {x : Operand} {lo hi : Option Operand} {T e sz by_ : Nat} {z : List Value} {X : TL τ} {a b : Int} {r : List δ} (hn : Nat.blt d Γ.n = true) (hx : ev l x = some X.hdr) (hlo : optI l lo 0 = some a) (hhi : optI l hi ((GT.dat X).length : Int) = some b)
    (ht : elOf Γ.P T = some (e, sz, by_, z)) (hsz : GT.sz τ = sz) (hR : RdT Γ M X) (hr : slcP (GT.dat X) a b = some r)
    (hk : ∀ X' : TL τ, GT.dat X' = r → X' = slc X a.toNat b.toNat → L Γ rest ((d, X'.hdr) :: l) M K) :
    L Γ ({ dst := some d, op := .slice T x lo hi none, type := ty, pos := pos, after := af, guard := none } :: rest) l M K := by
  unfold slcP at hr
  split at hr
  · rename_i hb
    cases hr
    rw [dat_els, List.length_map] at hb hhi
    obtain ⟨h0, h1, h2⟩ := hb
    have h1' : a.toNat ≤ b.toNat := by omega
    have h2' : b.toNat ≤ X.els.length := by omega
    refine L_pure hn (v := (slc X a.toNat b.toNat).hdr) (fun a' w ha hw => ?_) (hk (slc X a.toNat b.toNat) (by rw [dat_els, dat_els]; simp [slc, List.map_take, List.map_drop]) rfl)
    have hcap : X.els.length ≤ X.cap := (hR w hw.sees).1
    unfold elOf at ht
    split at ht <;> (try cases ht)
    rename_i e' het
    split at ht <;> (try cases ht)
    rename_i i' hi'
    split at ht <;> cases ht
    have hlen : ((X.els.drop a.toNat).take (b.toNat - a.toNat)).length = b.toNat - a.toNat := by simp; omega
    have hv : (slc X a.toNat b.toNat).hdr = .slice (if X.cap = a.toNat then X.a else X.a.map (·.add (a.toNat * i'.size))) (b.toNat - a.toNat) (X.cap - a.toNat) := by
      show Value.slice _ ((X.els.drop a.toNat).take (b.toNat - a.toNat)).length _ = _
      rw [hlen]; simp only [slc, hsz]
    rw [hv]
    have e1 : a'.eval x = .slice X.a X.els.length X.cap := ha.eval hx
    cases lo with
    | none =>
      cases hlo
      cases hi with
      | none =>
        cases hhi
        simp only [execOp, Option.map_none, e1, Instr.sliceAt, Instr.slice, underlying, Sem.run_bind, run_program, Result.andThen_ok, het, Instr.sliceBounds, Sem.run_pure, sizeOf, typeInfo, hi']
        simp
      | some o =>
        obtain ⟨k, h5⟩ := optI_some hhi
        have e2 := ha.eval h5
        have e4 := fun w => run_sliceBound (P := Γ.P) (k := k) (code := .sliceAcap) (show 0 ≤ b by omega) (show b ≤ ((X.cap : Nat) : Int) by omega) w
        simp [execOp, e1, e2, Instr.sliceAt, Instr.slice, underlying, het, Instr.sliceBounds, sizeOf, typeInfo, hi', e4]
    | some o1 =>
      obtain ⟨k1, h6⟩ := optI_some hlo
      have e3 := ha.eval h6
      cases hi with
      | none =>
        cases hhi
        have e4 := fun w => run_sliceBound (P := Γ.P) (k := k1) (code := .sliceB) h0 (show a ≤ ((X.els.length : Nat) : Int) by omega) w
        simp [execOp, e1, e3, Instr.sliceAt, Instr.slice, underlying, het, Instr.sliceBounds, sizeOf, typeInfo, hi', e4]
      | some o =>
        obtain ⟨k, h5⟩ := optI_some hhi
        have e2 := ha.eval h5
        have e4 := fun w => run_sliceBound (P := Γ.P) (k := k) (code := .sliceAcap) (show 0 ≤ b by omega) (show b ≤ ((X.cap : Nat) : Int) by omega) w
        have e5 := fun w => run_sliceBound (P := Γ.P) (k := k1) (code := .sliceB) h0 (show a ≤ ((b.toNat : Nat) : Int) by omega) w
        simp [execOp, e1, e2, e3, Instr.sliceAt, Instr.slice, underlying, het, Instr.sliceBounds, sizeOf, typeInfo, hi', e4, e5]
  · cases hr
theorem slcE_rd {X Y : TL τ} {a b : Int} {r : List δ} (he : Y = slc X a.toNat b.toNat) (hs : slcP (GT.dat X) a b = some r) : ∀ w S, GT.rd w S X → GT.rd w S Y := by
  intro w S h
  obtain ⟨s0, s1, s2, -⟩ := slcP_some hs
  rw [dat_els, List.length_map] at s2
  subst he
  exact slc_rd h (by omega) (by omega)
end
end Go.Proofs.SL
namespace Go.Proofs.SL
open Go
variable {Γ : Cx} {ops : Array Oper} {Msh pool pool' : List HP} {E : Fl} {rs : List (Option Nat × Rel)} {rest : List Oper} {KD : RKont} {cs0 : List Nat}
variable {d : Nat} {ty : TypeId} {pos : String} {af : Array Edge}
theorem D_callM {f : Nat} {xs : List Operand} {ats : Array TypeId} {vs : List Value} (R : Rel) (M1 : List HP) (hp : List.Perm pool (M1 ++ pool'))
    (hf : IsFn Γ.P f) (hx : OpVs E True xs vs) (hc : ∀ w F, Holds Γ.w0 Γ.S0 (M1 ++ F) w → (∀ h, h ∈ Msh → h ∈ F) → Spec Γ.P f vs.toArray w M1 R)
    (hk : DV Γ ops Msh pool' ((d, R) :: E) ((some d, R) :: rs) cs0 rest KD) :
    DV Γ ops Msh pool E rs cs0 ({ dst := some d, op := .call { callee := .value (.func f), args := xs.toArray, argTypes := ats }, type := ty, pos := pos, after := af, guard := none } :: rest) KD := by
  refine DV.mk R M1 pool' [] hp rfl ?_ (by rw [dropE_nil]; exact hk)
  intro a w F Mk _ _ hw hm hfa hcf
  have hMk : Mk = [] := hcf
  subst hMk
  rw [dropE_nil] at hfa
  simp only [List.nil_append] at hw ⊢
  rw [if_pos (by simp [Region.wanted])]
  have h2 : (#[] ++ xs.toArray.map a.eval ++ #[] : Array Value) = vs.toArray := by
    simp [OpVs.evals (o := { dst := some d, op := .call { callee := .value (.func f), args := xs.toArray, argTypes := ats }, type := ty, pos := pos, after := af, guard := none }) trivial hfa xs vs hx (fun x hx => by simp [Op.operands, Call.operands, hx])]
  rw [execOp_call_go, h2, hf.run]
  exact (hc w F hw hm (Holds.split hw)).mono fun e w'' ⟨v, M', h1, h3, h4⟩ => ⟨v, M', h1, h3, Holds.frame hw h4⟩
variable {gd : Option (Nat × Bool)}
end Go.Proofs.SL
namespace Go.Proofs.SL
open Go
section
variable {τ δ κ : Type} [GT τ δ]
variable [Inhabited κ]
end
theorem map_id' {α : Type} (l : List α) : l.map (fun x => x) = l := by simp
end Go.Proofs.SL
namespace Go.Proofs.SL
open Go
inductive EqS (P : Program) (d : Nat) (xs ys : Array Value) : List (TypeId × Nat) → Bool → Prop
  | nil : EqS P d xs ys [] true
  | cons {t : TypeId} {o : Nat} {a b : Value} {r r' : Bool} {fs : List (TypeId × Nat)} (ht : oneOf P t = true) (ha : xs[o]? = some a) (hb : ys[o]? = some b) (he : ∀ w, (Op.equalIn d t a b).run P w = .ok r w) (hs : EqS P d xs ys fs r') : EqS P d xs ys ((t, o) :: fs) (r && r')
end Go.Proofs.SL
namespace Go.Proofs.SL
open Go
section
variable {Γ : Cx} {l : Envl} {M : List HP} {K : Kont} {w0 w : World} {S0 : List Nat}
variable {rest : List Oper} {d : Nat} {ty : TypeId} {pos : String} {af : Array Edge}
end
section
variable {Γ : Cx} {rest : List Oper} {d : Nat} {ty : TypeId} {pos : String} {af : Array Edge}
variable {ops : Array Oper} {Msh pool : List HP} {E : Fl} {rs : List (Option Nat × Rel)} {cs0 : List Nat} {KD : List (Option Nat × Rel) → List Nat → List HP → Prop}
/-- A pointer to a new block. -/
def PtrNew (z : List Value) (T : TypeId) : Rel := fun v M => ∃ b, v = .pointer (some ⟨b, 0, none⟩) ∧ M = [blk b z T]
theorem D_alloc {T : TypeId} {z : List Value} (hz : zeroOf Γ.P T = some z)
    (hk : DV Γ ops Msh pool ((d, PtrNew z T) :: E) ((some d, PtrNew z T) :: rs) cs0 rest KD) :
    DV Γ ops Msh pool E rs cs0 ({ dst := some d, op := .alloc T, type := ty, pos := pos, after := af, guard := none } :: rest) KD := by
  refine DV.mk (PtrNew z T) [] pool [] (by simp) rfl ?_ (by rw [dropE_nil]; exact hk)
  intro a w F Mk _ _ hw hm hfa hcf
  have hMk : Mk = [] := hcf
  subst hMk
  rw [dropE_nil] at hfa
  simp only [List.nil_append] at hw ⊢
  rw [if_pos (by simp [Region.wanted])]
  have h1 : (execOp a.eval { dst := some d, op := .alloc T, type := ty, pos := pos, after := af, guard := none }).run Γ.P w = .ok (.value (.pointer (some ⟨w.heap.size, 0, none⟩))) (w.alloc (.cells z.toArray T (0, 0))) := by
    unfold zeroOf at hz
    split at hz <;> (try cases hz)
    rename_i i hi
    split at hz <;> cases hz
    rename_i z' hz'
    simp [execOp, Instr.alloc, zeroValue, typeInfo, hi, hz', newVar, newRow]
  rw [h1]
  exact ⟨[blk w.heap.size z T], ⟨_, rfl, rfl⟩, Holds.new (show Holds Γ.w0 Γ.S0 F w by simpa using hw) rfl⟩
end
end Go.Proofs.SL
namespace Go.Proofs.SL
open Go
instance : Mk Bool := ⟨fun _ => 1, fun k _ => decide (((k : Int)).tmod 3 = 0)⟩
instance : Bm Bool := ⟨1, fun x => by show 1 ≤ 1 * (1 + 0); omega⟩
end Go.Proofs.SL
namespace Go.Proofs.SL
open Go
variable {Γ : Cx} {l : Envl} {M M1 : List HP} {K : Kont} {w0 w : World} {S0 : List Nat}
variable {rest : List Oper} {d : Nat} {ty : TypeId} {pos : String} {af : Array Edge}
section
variable {τ δ : Type} [GT τ δ]
theorem blk_own [FlatT τ] {b cap : Nat} {e : TypeId} {ts : List τ} {tail : List Value} (h1 : ts.length ≤ cap) (h2 : cap ≤ maxLen) (h3 : ts.length * GT.sz τ + tail.length = cap * GT.sz τ)
    (h : Holds w0 S0 (blk b (rowCells ts ++ tail) e :: M) w) : Holds w0 S0 (treeH (⟨some ⟨b, 0, none⟩, cap, e, ts, tail⟩ : TL τ) :: M) w := by
  have hb : w.heap[b]? = some (.cells (rowCells ts ++ tail).toArray e (0, 0)) := h.prs _ (List.mem_cons_self ..)
  have ef : fps (treeH (⟨some ⟨b, 0, none⟩, cap, e, ts, tail⟩ : TL τ) :: M) = fps (blk b (rowCells ts ++ tail) e :: M) := by
    simp only [fps_cons]
    show ([b] ++ ts.flatMap GT.fp) ++ fps M = [b] ++ fps M
    rw [fps_flat ts fun x _ => FlatT.flat x, List.append_nil]
  refine ⟨h.os, h.tape, h.output, h.size, h.old, fun x hx => ?_, by rw [ef]; exact h.nodup, fun k hk => h.rng k (by rw [← ef]; exact hk)⟩
  rcases List.mem_cons.1 hx with rfl | hx
  · exact ⟨h1, h2, fun x _ => (FlatT.flat x).ow w, fun hn => (by cases hn), fun a ha => by cases ha; exact ⟨rfl, rfl, hb, h3⟩⟩
  · exact h.prs x (List.mem_cons_of_mem _ hx)
/-- A slice of several parts of one kind. -/
theorem L_bsN [FlatT τ] (ts : List τ) {T e sz by_ n : Nat} {z : List Value} {xs : List (Nat × Operand)} {ps : List (Nat × Value)} {r : List δ} (hn : Nat.blt d Γ.n = true) (hx : evp l xs = some ps) (ht : elOf Γ.P T = some (e, sz, by_, z)) (hz : z.length = sz)
    (hsz : GT.sz τ = sz) (h0 : Nat.blt 0 sz = true) (hns : Nat.ble (n * sz) 65536 = true) (hn0 : Nat.blt 0 n = true) (hlen : ts.length = n) (hf : fillL (fun i => some (i * sz, sz)) ((List.range (n * sz)).map fun i => z.getD (i % sz) undef) ps = some (rowCells ts))
    (hr : some (ts.map GT.dat) = some r) (hk : ∀ X : TL τ, GT.dat X = r → L Γ rest ((d, X.hdr) :: l) (treeH X :: M) K) :
    L Γ ({ dst := some d, op := .buildSlice T n xs.toArray, type := ty, pos, after := af, guard := none } :: rest) l M K := by
  have h0' : 0 < sz := Nat.le_of_ble_eq_true h0
  have hns' : n * sz ≤ 65536 := Nat.le_of_ble_eq_true hns
  refine L_buildSlice hn hx ht hz h0' hns' (Nat.le_of_ble_eq_true hn0) hf fun b => ?_
  have hnl : n ≤ 65536 := Nat.le_trans (Nat.le_mul_of_pos_right n h0') hns'
  refine L_conv (M' := treeH (⟨some ⟨b, 0, none⟩, n, e, ts, []⟩ : TL τ) :: M) (fun w h => blk_own (by omega) (by simp only [maxLen]; omega) (by rw [hlen]; simp) (by rw [List.append_nil]; exact h)) ?_
  have := hk ⟨some ⟨b, 0, none⟩, n, e, ts, []⟩ (Option.some.inj hr)
  have eh : (⟨some ⟨b, 0, none⟩, n, e, ts, []⟩ : TL τ).hdr = .slice (some ⟨b, 0, none⟩) n n := by show Value.slice _ ts.length _ = _; rw [hlen]
  rw [eh] at this
  exact this
/-- A made slice, on data. -/
def mkP {δ : Type} (by_ : Nat) (n : Int) (z : δ) : Option (List δ) := if 0 ≤ n ∧ n ≤ 1048576 ∧ n.toNat * by_ ≤ 281474976710656 then some (List.replicate n.toNat z) else none
theorem L_mkP (t0 : τ) {x y : Operand} {T e sz by_ : Nat} {z : List Value} {k k' : IntKind} {n : Int} {r : List δ} (hn : Nat.blt d Γ.n = true) (hx : ev l x = some (.int k n)) (hy : ev l y = some (.int k' n)) (ht : elOf Γ.P T = some (e, sz, by_, z))
    (hz : GT.cells t0 = z) (hsz : GT.sz τ = sz) (hf : Flat t0) (hr : mkP by_ n (GT.dat t0) = some r)
    (hk : ∀ X : TL τ, GT.dat X = r → L Γ rest ((d, X.hdr) :: l) (treeH X :: M) K) :
    L Γ ({ dst := some d, op := .makeSlice T x y, type := ty, pos, after := af, guard := none } :: rest) l M K := by
  unfold mkP at hr
  split at hr
  rotate_left
  · cases hr
  rename_i hb
  obtain ⟨h1, h2, h3⟩ := hb
  obtain ⟨m, rfl⟩ := Int.eq_ofNat_of_zero_le h1
  obtain rfl := Option.some.inj hr
  simp only [Int.toNat_natCast] at *
  refine L_make (n := m) t0 hn hx hy ht hz hsz hf h3 (by simp only [maxLen]; omega) fun g => ?_
  have := hk ⟨some ⟨g, 0, none⟩, m, e, List.replicate m t0, []⟩ (by rw [dat_els]; simp)
  have eh : (⟨some ⟨g, 0, none⟩, m, e, List.replicate m t0, []⟩ : TL τ).hdr = .slice (some ⟨g, 0, none⟩) m m := by show Value.slice _ (List.replicate m t0).length _ = _; rw [List.length_replicate]
  rw [eh] at this
  exact this
end
/-- A byte out of a number. -/
def u8P (n : Int) : Option UInt8 := if 0 ≤ n ∧ n < 256 then some (UInt8.ofNat n.toNat) else none
theorem u8P_some {n : Int} {b : UInt8} (h : u8P n = some b) : n = (b.toNat : Int) := by
  unfold u8P at h
  split at h
  · rename_i hb
    obtain rfl := Option.some.inj h
    rw [UInt8.toNat_ofNat']
    omega
  · cases h
theorem strOf_bytes (xs : List UInt8) : strOf (xs.map fun b => (b.toNat : Int)) = ⟨xs.toArray⟩ := by
  have h : ∀ (xs : List UInt8) (s : ByteArray), (xs.map fun b => (b.toNat : Int)).foldl (fun r n => r.push (UInt8.ofNat n.toNat)) s = ⟨s.data ++ xs.toArray⟩ := by
    intro xs
    induction xs with
    | nil => intro s; simp
    | cons x xs ih =>
      intro s
      rw [List.map_cons, List.foldl_cons, ih]
      congr 1
      show (s.push _).data ++ _ = _
      simp [ByteArray.push]
  unfold strOf
  rw [h]
  simp
/-- The string of some bytes. -/
def strP (xs : List UInt8) : ByteArray := ⟨xs.toArray⟩
theorem run_bytesNone {P : Program} (w : World) (len cap : Nat) : (Conv.bytesToString (.slice none len cap)).run P w = .ok (.string ByteArray.empty) w := by
  simp [Conv.bytesToString]
theorem L_toStr {x : Operand} {S T e : Nat} {X : TL UInt8} (hn : Nat.blt d Γ.n = true) (hx : ev l x = some X.hdr) (hS : Γ.P.underlying S = some (.slice e)) (he : Γ.P.underlying e = some (.int .u8)) (hT : Γ.P.underlying T = some .string)
    (hR : RdT Γ M X) (hk : L Γ rest ((d, .string (strP (GT.dat X))) :: l) M K) :
    L Γ ({ dst := some d, op := .convert S T x, type := ty, pos := pos, after := af, guard := none } :: rest) l M K := by
  obtain ⟨a, cap, e', els, tail⟩ := X
  have hd : GT.dat (⟨a, cap, e', els, tail⟩ : TL UInt8) = els := map_id' els
  rw [hd] at hk
  cases a with
  | none =>
    refine L_pure hn (fun a' w ha hw => ?_) hk
    have h1 := hR w hw.sees
    have he0 : els = [] := h1.2.2.2.1 rfl
    subst he0
    have h2 := ha.eval hx
    simp only [execOp, h2, Sem.run_bind]
    show ((convert S T (.slice none _ _)).run Γ.P w).andThen _ = _
    rw [run_convert_bytes_string w S T e _ _ _ hS he hT, run_bytesNone]
    rfl
  | some ad =>
    refine L_pure hn (fun a' w ha hw => ?_) hk
    have h1 := hR w hw.sees
    have h2 := ha.eval hx
    obtain ⟨h3, h4⟩ := h1.2.2.2.2 ad rfl
    simp only [execOp, h2, Sem.run_bind]
    show ((convert S T (.slice (some ad) els.length cap)).run Γ.P w).andThen _ = _
    rw [run_convert_bytes_string w S T e _ _ _ hS he hT]
    have hrow : ∀ xs : List UInt8, rowCells xs = xs.map fun b => Value.int .u8 (b.toNat : Int) := by
      intro xs
      induction xs with
      | nil => rfl
      | cons x xs ih => rw [rowCells_cons, ih]; rfl
    have hl : (loadCells ad els.length).run Γ.P w = .ok ((els.map fun b => (b.toNat : Int)).map (Value.int .u8)).toArray w := by
      by_cases hz : els = []
      · subst hz
        simp [loadCells, loadCellsFrom]
      · have hs := h3 hz
        obtain ⟨blk, off, sp⟩ := ad
        dsimp only at hs
        subst hs
        have := run_loadCells_at (P := Γ.P) (g := blk) (off := off) (cs := rowCells els) (w := w) (fun j v hv => by
          have := h4 j v hv
          exact this.1)
        rw [length_rowCells, show GT.sz UInt8 = 1 from rfl, Nat.mul_one, hrow] at this
        rw [this, List.map_map]; rfl
    have hb := run_bytesToString (P := Γ.P) w ad els.length cap (els.map fun b => (b.toNat : Int)) hl
    have e1 := strOf_bytes els
    unfold strOf at e1
    rw [hb, e1]
    rfl
end Go.Proofs.SL
namespace Go.Proofs.SL
open Go
section
variable {Γ : Cx} {rest : List Oper} {d : Nat} {ty : TypeId} {pos : String} {af : Array Edge} {gd : Option (Nat × Bool)}
variable {ops : Array Oper} {Msh pool : List HP} {E : Fl} {rs : List (Option Nat × Rel)} {cs0 : List Nat} {KD : List (Option Nat × Rel) → List Nat → List HP → Prop}
end
end Go.Proofs.SL
namespace Go.Proofs.SL
open Go
/-- An array of ints, as loops and contracts hand it on. -/
structure AR where
  l : List Int
instance : GT AR (List Int) where
  sz := 1
  pos := by decide
  cells _ := [.int .i64 0]
  len _ := rfl
  one _ v hv := by simp at hv; subst hv; rfl
  rd _ _ _ := True
  fp _ := []
  ow _ _ := True
  dat t := t.l
  rd_mono h _ := h
  ow_st _ h := h
  ow_rd _ _ := trivial
theorem dat_ar (x : AR) : GT.dat x = x.l := rfl
def aC (k : IntKind) (l : List Int) : List Value := l.map (Value.int k)
variable {Γ : Cx} {l : Envl} {M : List HP} {K : Kont} {w0 w : World} {S0 : List Nat} {rest : List Oper} {d : Nat} {ty : TypeId} {pos : String} {af : Array Edge}
section
variable {k : IntKind} {A A' : List Int}
end
/-! A variable of the package that is only read: block g, ints. -/
structure GA (g : Nat) (k : IntKind) (A : List Int) where mk ::
instance (g : Nat) (k : IntKind) (A : List Int) : GT (GA g k A) Unit where
  sz := 1
  pos := by decide
  cells _ := [.int .i64 0]
  len _ := rfl
  one _ v hv := by simp at hv; subst hv; rfl
  rd w S _ := ∀ j v, (aC k A)[j]? = some v → Old w S ⟨g, j, none⟩ v
  fp _ := []
  ow _ _ := False
  dat _ := ()
  rd_mono h hm := fun j v hv => hm _ _ (h j v hv)
  ow_st _ h := h
  ow_rd h _ := h.elim
/-! In a drawn region -/
variable {ops : Array Oper} {Msh pool : List HP} {E : Fl} {rs : List (Option Nat × Rel)} {cs0 : List Nat} {KD : List (Option Nat × Rel) → List Nat → List HP → Prop} {gd : Option (Nat × Bool)}
section
variable {k : IntKind} {A A' : List Int} {c : Prop}
end
end Go.Proofs.SL
namespace Go.Proofs.SL
open Go
theorem run_toStr {P : Program} {S T e : Nat} {X : TL UInt8} {w : World} (hS : P.underlying S = some (.slice e)) (he : P.underlying e = some (.int .u8)) (hT : P.underlying T = some .string) (h1 : GT.rd w [] X) :
    (convert S T X.hdr).run P w = .ok (.string (strP (GT.dat X))) w := by
  obtain ⟨a, cap, e', els, tail⟩ := X
  have hd : GT.dat (⟨a, cap, e', els, tail⟩ : TL UInt8) = els := map_id' els
  rw [hd]
  cases a with
  | none =>
    have he0 : els = [] := h1.2.2.2.1 rfl
    subst he0
    show (convert S T (.slice none _ _)).run P w = _
    rw [run_convert_bytes_string w S T e _ _ _ hS he hT, run_bytesNone]
    rfl
  | some ad =>
    obtain ⟨h3, h4⟩ := h1.2.2.2.2 ad rfl
    show (convert S T (.slice (some ad) els.length cap)).run P w = _
    rw [run_convert_bytes_string w S T e _ _ _ hS he hT]
    have hrow : ∀ xs : List UInt8, rowCells xs = xs.map fun b => Value.int .u8 (b.toNat : Int) := by
      intro xs
      induction xs with
      | nil => rfl
      | cons x xs ih => rw [rowCells_cons, ih]; rfl
    have hl : (loadCells ad els.length).run P w = .ok ((els.map fun b => (b.toNat : Int)).map (Value.int .u8)).toArray w := by
      by_cases hz : els = []
      · subst hz
        simp [loadCells, loadCellsFrom]
      · have hs := h3 hz
        obtain ⟨blk, off, sp⟩ := ad
        dsimp only at hs
        subst hs
        have := run_loadCells_at (P := P) (g := blk) (off := off) (cs := rowCells els) (w := w) (fun j v hv => by
          have := h4 j v hv
          exact this.1)
        rw [length_rowCells, show GT.sz UInt8 = 1 from rfl, Nat.mul_one, hrow] at this
        rw [this, List.map_map]; rfl
    have hb := run_bytesToString (P := P) w ad els.length cap (els.map fun b => (b.toNat : Int)) hl
    have e1 := strOf_bytes els
    unfold strOf at e1
    rw [hb, e1]
    rfl
variable {Γ : Cx} {rest : List Oper} {d : Nat} {ty : TypeId} {pos : String} {af : Array Edge}
variable {ops : Array Oper} {Msh pool : List HP} {E : Fl} {rs : List (Option Nat × Rel)} {cs0 : List Nat} {KD : List (Option Nat × Rel) → List Nat → List HP → Prop}
theorem D_toStrO {t S T e : Nat} {r : List UInt8} (hR : E.lookup t = some (OwnV (τ := UInt8) r)) (hS : Γ.P.underlying S = some (.slice e)) (he : Γ.P.underlying e = some (.int .u8)) (hT : Γ.P.underlying T = some .string)
    (hlin : linB ops { dst := some d, op := .convert S T (.tmp t), type := ty, pos := pos, after := af, guard := none } [t] = true)
    (hk : DV Γ ops Msh pool ((d, FC True (.string (strP r))) :: dropE [t] E) ((some d, FC True (.string (strP r))) :: rs) ([t] ++ cs0) rest KD) :
    DV Γ ops Msh pool E rs cs0 ({ dst := some d, op := .convert S T (.tmp t), type := ty, pos := pos, after := af, guard := none } :: rest) KD := by
  refine DV.mk (FC True (.string (strP r))) [] pool ([t]) (by simp) hlin ?_ hk
  intro a w F Mk _ _ hw hm hfa hcf
  obtain ⟨Mx, Mk', rfl, hRR, hnil⟩ := hcf
  have hnil : Mk' = [] := hnil
  subst hnil
  obtain ⟨X, hv, hd, rfl⟩ := hRR _ hR
  rw [if_pos (by simp [Region.wanted])]
  have hw1 : Holds Γ.w0 Γ.S0 (treeH X :: F) w := by simpa using hw
  have h1 := run_toStr (P := Γ.P) hS he hT (rd_of_tree (List.mem_cons_self ..) hw1.sees)
  have hv' : a.eval (.tmp t) = X.hdr := hv
  have h3 : (execOp a.eval { dst := some d, op := .convert S T (.tmp t), type := ty, pos := pos, after := af, guard := none }).run Γ.P w = .ok (.value (.string (strP r))) w := by
    rw [← hd]
    generalize X.hdr = u at *
    simp [execOp, hv', h1]
  rw [h3]
  exact ⟨[], ⟨rfl, fun _ => rfl, fun hn => (hn trivial).elim⟩, by simpa using hw1.sub ⟨[treeH X], by
    show List.Perm (treeH X :: F) (F ++ [treeH X])
    exact (List.perm_append_comm (l₁ := [treeH X]) (l₂ := F))⟩⟩
end Go.Proofs.SL
namespace Go.Proofs.SL
open Go
variable {Γ : Cx} {rest : List Oper} {d : Nat} {ty : TypeId} {pos : String} {af : Array Edge}
variable {ops : Array Oper} {Msh pool pool' : List HP} {E : Fl} {rs : List (Option Nat × Rel)} {cs0 : List Nat} {KD : List (Option Nat × Rel) → List Nat → List HP → Prop}
variable {τ δ : Type} [GT τ δ]
theorem OpV.g0 {g : Nat} {c : Prop} : OpV E (.global g) c (.pointer (some ⟨g, 0, none⟩)) := rfl
theorem D_bsN [FlatT τ] (ts : List τ) {T e sz by_ n : Nat} {z : List Value} {xs : List (Nat × Operand)} {ps : List (Nat × Value)} {r : List δ} (hx : OpVp E xs ps) (ht : elOf Γ.P T = some (e, sz, by_, z)) (hz : z.length = sz)
    (hsz : GT.sz τ = sz) (h0 : Nat.blt 0 sz = true) (hns : Nat.ble (n * sz) 65536 = true) (hn0 : Nat.blt 0 n = true) (hlen : ts.length = n) (hf : fillL (fun i => some (i * sz, sz)) ((List.range (n * sz)).map fun i => z.getD (i % sz) undef) ps = some (rowCells ts))
    (hr : some (ts.map GT.dat) = some r) (hk : DV Γ ops Msh pool ((d, OwnV (τ := τ) r) :: E) ((some d, OwnV (τ := τ) r) :: rs) cs0 rest KD) :
    DV Γ ops Msh pool E rs cs0 ({ dst := some d, op := .buildSlice T n xs.toArray, type := ty, pos := pos, after := af, guard := none } :: rest) KD := by
  have h0' : 0 < sz := Nat.le_of_ble_eq_true h0
  have hns' : n * sz ≤ 65536 := Nat.le_of_ble_eq_true hns
  have hnl : n ≤ 65536 := Nat.le_trans (Nat.le_mul_of_pos_right n h0') hns'
  refine DV.mk (OwnV (τ := τ) r) [] pool [] (by simp) rfl ?_ (by rw [dropE_nil]; exact hk)
  intro a w F Mk _ _ hw hm hfa hcf
  have hMk : Mk = [] := hcf
  subst hMk
  rw [dropE_nil] at hfa
  simp only [List.nil_append] at hw ⊢
  rw [if_pos (by simp [Region.wanted])]
  have h1 : xs.toArray.map (fun (i, x) => (i, a.eval x)) = ps.toArray := by
    have := OpVp.evals (o := { dst := some d, op := .buildSlice T n xs.toArray, type := ty, pos := pos, after := af, guard := none }) hfa xs ps hx (fun x hx => by simp [Op.operands]; exact ⟨_, hx⟩)
    rw [← this]; simp
  have hrun := run_buildSlice (P := Γ.P) (w := w) ht hz h0' hns' (Nat.le_of_ble_eq_true hn0) hf
  have h3 : (execOp a.eval { dst := some d, op := .buildSlice T n xs.toArray, type := ty, pos := pos, after := af, guard := none }).run Γ.P w = .ok (.value (.slice (some ⟨w.heap.size, 0, none⟩) n n)) (w.alloc (.cells (rowCells ts).toArray e (0, 0))) := by
    simp only [execOp, h1]
    simp [hrun]
  rw [h3]
  have eh : (⟨some ⟨w.heap.size, 0, none⟩, n, e, ts, []⟩ : TL τ).hdr = .slice (some ⟨w.heap.size, 0, none⟩) n n := by show Value.slice _ ts.length _ = _; rw [hlen]
  have hw2 : Holds Γ.w0 Γ.S0 F w := by simpa using hw
  refine ⟨[treeH (⟨some ⟨w.heap.size, 0, none⟩, n, e, ts, []⟩ : TL τ)], ⟨_, eh.symm, Option.some.inj hr, rfl⟩, ?_⟩
  have h5 := hw2.new (b := w.heap.size) (cs := rowCells ts) (T := e) rfl
  exact blk_own (by omega) (by simp only [maxLen]; omega) (by rw [hlen]; simp) (by rw [List.append_nil]; exact h5)
end Go.Proofs.SL
namespace Go.Proofs.SL
open Go
variable {Γ : Cx} {rest : List Oper} {d : Nat} {ty : TypeId} {pos : String} {af : Array Edge} {l : Envl} {M : List HP} {K : Kont}
end Go.Proofs.SL
namespace Go.Proofs.SL
open Go
variable {Γ : Cx} {rest : List Oper} {d : Nat} {ty : TypeId} {pos : String} {af : Array Edge} {gd : Option (Nat × Bool)}
variable {ops : Array Oper} {Msh pool : List HP} {E : Fl} {rs : List (Option Nat × Rel)} {cs0 : List Nat} {KD : RKont}
/-- What is handed back where the guard lets the call run. -/
def GR (c : Prop) (R : Rel) : Rel := fun v M => (c → R v M) ∧ (¬ c → v = undef ∧ M = [])
theorem D_callGV {f : Nat} {xs : List Operand} {ats : Array TypeId} {vs : List Value} {c : Prop} (R : Rel)
    (hg : GC ops E { dst := some d, op := .call { callee := .value (.func f), args := xs.toArray, argTypes := ats }, type := ty, pos := pos, after := af, guard := gd } c)
    (hf : IsFn Γ.P f) (hx : OpVs E c xs vs) (hc : c → ∀ w F, Holds Γ.w0 Γ.S0 F w → (∀ h, h ∈ Msh → h ∈ F) → Spec Γ.P f vs.toArray w [] R)
    (hk : DV Γ ops Msh pool ((d, GR c R) :: E) ((some d, GR c R) :: rs) cs0 rest KD) :
    DV Γ ops Msh pool E rs cs0 ({ dst := some d, op := .call { callee := .value (.func f), args := xs.toArray, argTypes := ats }, type := ty, pos := pos, after := af, guard := gd } :: rest) KD := by
  refine DV.mk (GR c R) [] pool [] (by simp) rfl ?_ (by rw [dropE_nil]; exact hk)
  intro a w F Mk _ _ hw hm hfa hcf
  have hMk : Mk = [] := hcf
  subst hMk
  rw [dropE_nil] at hfa
  simp only [List.nil_append] at hw ⊢
  have hgc := hg a F hfa
  split
  · rename_i hwt
    have hcc := hgc.1 hwt
    have hw' : Holds Γ.w0 Γ.S0 F w := by simpa using hw
    have h2 : (#[] ++ xs.toArray.map a.eval ++ #[] : Array Value) = vs.toArray := by
      simp [OpVs.evals (o := { dst := some d, op := .call { callee := .value (.func f), args := xs.toArray, argTypes := ats }, type := ty, pos := pos, after := af, guard := gd }) hcc hfa xs vs hx (fun x hx => by simp [Op.operands, Call.operands, hx])]
    rw [execOp_call_go, h2, hf.run]
    exact (hc hcc w F hw' hm (Holds.split (M1 := []) (M2 := F) hw)).mono fun e w'' ⟨v, M', h1, h3, h4⟩ => ⟨v, M', h1, ⟨fun _ => h3, fun hn => (hn hcc).elim⟩, Holds.frame (M1 := []) (M2 := F) hw h4⟩
  · rename_i hwt
    exact ⟨fun hc => (hwt (hgc.2 hc)).elim, fun _ => ⟨rfl, rfl⟩⟩
theorem D_callGR {f : Nat} {xs : List Operand} {ats : Array TypeId} (Rs : List Rel) {c : Prop} {x : Value}
    (hg : GC ops E { dst := some d, op := .call { callee := .value (.func f), args := xs.toArray, argTypes := ats }, type := ty, pos := pos, after := af, guard := gd } c)
    (hf : IsFn Γ.P f) (hx : OpRs E xs Rs) (hc : c → ∀ w F vs, Holds Γ.w0 Γ.S0 F w → (∀ h, h ∈ Msh → h ∈ F) → AllR F Rs vs → Spec Γ.P f vs.toArray w [] (IsV x))
    (hk : DV Γ ops Msh pool ((d, FC c x) :: E) ((some d, FC c x) :: rs) cs0 rest KD) :
    DV Γ ops Msh pool E rs cs0 ({ dst := some d, op := .call { callee := .value (.func f), args := xs.toArray, argTypes := ats }, type := ty, pos := pos, after := af, guard := gd } :: rest) KD := by
  refine DV.mk (FC c x) [] pool [] (by simp) rfl ?_ (by rw [dropE_nil]; exact hk)
  intro a w F Mk _ _ hw hm hfa hcf
  have hMk : Mk = [] := hcf
  subst hMk
  rw [dropE_nil] at hfa
  simp only [List.nil_append] at hw ⊢
  have hgc := hg a F hfa
  split
  · rename_i hwt
    have hcc := hgc.1 hwt
    have hw' : Holds Γ.w0 Γ.S0 F w := by simpa using hw
    have h1 := OpRs.evals (o := { dst := some d, op := .call { callee := .value (.func f), args := xs.toArray, argTypes := ats }, type := ty, pos := pos, after := af, guard := gd }) hfa xs Rs hx (fun x hx => by simp [Op.operands, Call.operands, hx])
    have h2 : (#[] ++ xs.toArray.map a.eval ++ #[] : Array Value) = (xs.map a.eval).toArray := by simp
    rw [execOp_call_go, h2, hf.run]
    exact (hc hcc w F _ hw' hm h1 (Holds.split (M1 := []) (M2 := F) hw)).mono fun e w'' ⟨v, M', h1, h3, h4⟩ => ⟨v, M', h1, ⟨h3.2, fun _ => h3.1, fun hn => (hn hcc).elim⟩, Holds.frame (M1 := []) (M2 := F) hw h4⟩
  · rename_i hwt
    exact ⟨rfl, fun hc => (hwt (hgc.2 hc)).elim, fun _ => rfl⟩
end Go.Proofs.SL
namespace Go.Proofs.SL
open Go
section
variable {Γ : Cx} {rest : List Oper} {d : Nat} {ty : TypeId} {pos : String} {af : Array Edge}
variable {ops : Array Oper} {Msh pool : List HP} {E : Fl} {rs : List (Option Nat × Rel)} {cs0 : List Nat} {KD : RKont}
/-- A struct that one owns. -/
def AggV {τ δ : Type} [GT τ δ] (r : δ) : Rel := fun v M => ∃ x : τ, v = .agg (GT.cells x).toArray ∧ GT.dat x = r ∧ M = [treeH x]
/-- A pointer to a block that holds a struct that one owns. -/
def BoxV {τ δ : Type} [GT τ δ] (T : TypeId) (r : δ) : Rel := fun v M => ∃ (b : Nat) (x : τ), v = .pointer (some ⟨b, 0, none⟩) ∧ GT.dat x = r ∧ M = [blk b (GT.cells x) T, treeH x]
theorem D_moveC {t : Nat} {R : Rel} (hR : E.lookup t = some R)
    (hlin : linB ops { dst := some d, op := .move (.tmp t), type := ty, pos := pos, after := af, guard := none } [t] = true)
    (hk : DV Γ ops Msh pool ((d, R) :: dropE [t] E) ((some d, R) :: rs) ([t] ++ cs0) rest KD) :
    DV Γ ops Msh pool E rs cs0 ({ dst := some d, op := .move (.tmp t), type := ty, pos := pos, after := af, guard := none } :: rest) KD := by
  refine DV.mk R [] pool [t] (by simp) hlin ?_ hk
  intro a w F Mk _ _ hw hm hfa hcf
  obtain ⟨Mx, Mk', rfl, hRR, hnil⟩ := hcf
  have hnil : Mk' = [] := hnil
  subst hnil
  have h1 := hRR _ hR
  rw [if_pos (by simp [Region.wanted])]
  have h2 : (execOp a.eval { dst := some d, op := .move (.tmp t), type := ty, pos := pos, after := af, guard := none }).run Γ.P w = .ok (.value (a.tmps.getD t undef)) w := by
    simp [execOp, Act.eval]
  rw [h2]
  exact ⟨Mx, h1, by simpa using hw⟩
theorem D_extractC {t i : Nat} {R : Rel} (R' : Rel) (hR : E.lookup t = some R) (hh : ∀ v M, R v M → ∃ vs u, v = .tuple vs ∧ vs[i]? = some u ∧ R' u M)
    (hlin : linB ops { dst := some d, op := .extract (.tmp t) i, type := ty, pos := pos, after := af, guard := none } [t] = true)
    (hk : DV Γ ops Msh pool ((d, R') :: dropE [t] E) ((some d, R') :: rs) ([t] ++ cs0) rest KD) :
    DV Γ ops Msh pool E rs cs0 ({ dst := some d, op := .extract (.tmp t) i, type := ty, pos := pos, after := af, guard := none } :: rest) KD := by
  refine DV.mk R' [] pool [t] (by simp) hlin ?_ hk
  intro a w F Mk _ _ hw hm hfa hcf
  obtain ⟨Mx, Mk', rfl, hRR, hnil⟩ := hcf
  have hnil : Mk' = [] := hnil
  subst hnil
  obtain ⟨vs, u, hv, hu, h1⟩ := hh _ _ (hRR _ hR)
  rw [if_pos (by simp [Region.wanted])]
  have e1 : a.eval (.tmp t) = .tuple vs := hv
  have h2 : (execOp a.eval { dst := some d, op := .extract (.tmp t) i, type := ty, pos := pos, after := af, guard := none }).run Γ.P w = .ok (.value u) w := by
    simp [execOp, e1, Instr.extract, hu]
  rw [h2]
  exact ⟨Mx, h1, by simpa using hw⟩
theorem D_extractW {t i : Nat} {R : Rel} (u : Value) (hR : E.lookup t = some R) (hh : ∀ v M, R v M → ∃ vs, v = .tuple vs ∧ vs[i]? = some u)
    (hk : DV Γ ops Msh pool ((d, FC True u) :: E) ((some d, FC True u) :: rs) cs0 rest KD) :
    DV Γ ops Msh pool E rs cs0 ({ dst := some d, op := .extract (.tmp t) i, type := ty, pos := pos, after := af, guard := none } :: rest) KD :=
  DV_pure True u GC.none (fun a w F _ hf _ => by
    obtain ⟨M, h1, _⟩ := hf t R (List.mem_append_left _ (by simp [Op.operands])) hR
    obtain ⟨vs, hv, hu⟩ := hh _ _ h1
    have e1 : a.eval (.tmp t) = .tuple vs := hv
    simp [execOp, e1, Instr.extract, hu]) hk
theorem D_storeK {τ δ : Type} [GT τ δ] {p x : Nat} {T : TypeId} {T' : TypeId} {z : List Value} {r : δ} (hp : E.lookup p = some (PtrNew z T')) (hx : E.lookup x = some (AggV (τ := τ) r))
    (ht : aggOf Γ.P T = some (GT.sz τ)) (hl : z.length = GT.sz τ)
    (hlin : linB ops { dst := none, op := .store T (.tmp p) (.tmp x), type := ty, pos := pos, after := af, guard := none } [p, x] = true)
    (hk : DV Γ ops Msh pool (dropE [p, x] E) ((some p, BoxV (τ := τ) T' r) :: rs) ([x] ++ cs0) rest KD) :
    DV Γ ops Msh pool E rs cs0 ({ dst := none, op := .store T (.tmp p) (.tmp x), type := ty, pos := pos, after := af, guard := none } :: rest) KD := by
  refine DV.mkK (BoxV (τ := τ) T' r) [] pool p [x] rfl (by simp) hlin ?_ hk
  intro a w F Mk _ _ hw hm hfa hcf
  obtain ⟨M1, Mk', rfl, hR1, M2, Mk'', rfl, hR2, hnil⟩ := hcf
  have hnil : Mk'' = [] := hnil
  subst hnil
  obtain ⟨b, hb, rfl⟩ := hR1 _ hp
  obtain ⟨y, hv, hd, rfl⟩ := hR2 _ hx
  rw [if_pos (by simp [Region.wanted])]
  have e1 : a.eval (.tmp p) = .pointer (some ⟨b, 0, none⟩) := hb
  have e2 : a.eval (.tmp x) = .agg (GT.cells y).toArray := hv
  have hw' : Holds Γ.w0 Γ.S0 (blk b z T' :: (treeH y :: F)) w := by simpa using hw
  have hh : w.heap[b]? = some (.cells z.toArray T' (0, 0)) := hw'.prs (blk b z T') (by simp)
  have hly : (GT.cells y).length = GT.sz τ := GT.len y
  have hs := run_store_blk (P := Γ.P) (fo := 0) (vs := GT.cells y) (ty := T) hh (by omega) (fun v hv => GT.one y v hv)
  have e : (z.take 0 ++ GT.cells y ++ z.drop (0 + (GT.cells y).length)) = GT.cells y := by simp [hl, hly]
  rw [e] at hs
  have hrun : (execOp a.eval { dst := none, op := .store T (.tmp p) (.tmp x), type := ty, pos := pos, after := af, guard := none }).run Γ.P w = .ok .skip (w.setRow b (GT.cells y).toArray) := by
    simp [execOp, e1, e2, Instr.storeAt, Instr.sureAddr, storeVar, run_isAgg_agg ht, Value.cells, hs, hly]
  rw [hrun]
  exact ⟨[blk b (GT.cells y) T', treeH y], ⟨b, y, hb, hd, rfl⟩, by simpa using setRow_blk (cs' := GT.cells y) hw'⟩
end
theorem gb_anyD {α β : Type} [Inhabited α] {g : Bool} {o : Option α} {k : α → Option β} {r : β} (h : gb g o k = some r) : ∃ y, (g = true → o = some y) ∧ (g = false → y = default) ∧ k y = some r := by
  cases g with
  | true => obtain ⟨y, h1, h2⟩ := Option.bind_eq_some_iff.1 h; exact ⟨y, fun _ => h1, (fun hh => (by cases hh)), h2⟩
  | false => exact ⟨default, (fun hh => (by cases hh)), fun _ => rfl, h⟩
section
variable {Γ : Cx} {rest : List Oper} {d : Nat} {ty : TypeId} {pos : String} {af : Array Edge} {gd : Option (Nat × Bool)}
variable {ops : Array Oper} {Msh pool : List HP} {E : Fl} {rs : List (Option Nat × Rel)} {cs0 : List Nat} {KD : RKont}
/-- A part of a slice, under a guard. -/
theorem D_slcG {τ δ : Type} [Inhabited τ] [GT τ δ] {x : Operand} {lo hi : Option Operand} {T e sz by_ : Nat} {z : List Value} {X : TL τ} {a b : Int} {r : List δ} {cc : Prop} (hg : GC ops E { dst := some d, op := .slice T x lo hi none, type := ty, pos := pos, after := af, guard := gd } cc)
    (hx : OpV E x cc X.hdr) (hlo : optD E lo cc 0 a) (hhi : optD E hi cc ((GT.dat X).length : Int) b)
    (ht : elOf Γ.P T = some (e, sz, by_, z)) (hsz : GT.sz τ = sz) (hR : RdT Γ Msh X) (hr : cc → slcP (GT.dat X) a b = some r) (hn : ¬ cc → r = [])
    (hk : ∀ X' : TL τ, GT.dat X' = r → (∀ w S, GT.rd w S X → GT.rd w S X') → DV Γ ops Msh pool ((d, FC cc X'.hdr) :: E) ((some d, FC cc X'.hdr) :: rs) cs0 rest KD) :
    DV Γ ops Msh pool E rs cs0 ({ dst := some d, op := .slice T x lo hi none, type := ty, pos := pos, after := af, guard := gd } :: rest) KD := by
  by_cases hcc : cc
  · have hr := hr hcc
    unfold slcP at hr
    split at hr
    · rename_i hb
      cases hr
      rw [dat_els, List.length_map] at hb
      rw [dat_els, List.length_map] at hhi
      obtain ⟨h0, h1, h2⟩ := hb
      have h1' : a.toNat ≤ b.toNat := by omega
      have h2' : b.toNat ≤ X.els.length := by omega
      refine DV_pure cc (slc X a.toNat b.toNat).hdr hg (fun a' w F hc hf hs => ?_) (hk (slc X a.toNat b.toNat) (by rw [dat_els, dat_els]; simp [slc, List.map_take, List.map_drop]) (fun w S h => slc_rd h h1' h2'))
      have hcap : X.els.length ≤ X.cap := (hR w hs).1
      unfold elOf at ht
      split at ht <;> (try cases ht)
      rename_i e' het
      split at ht <;> (try cases ht)
      rename_i i' hi'
      split at ht <;> cases ht
      have hlen : ((X.els.drop a.toNat).take (b.toNat - a.toNat)).length = b.toNat - a.toNat := by simp; omega
      have hv : (slc X a.toNat b.toNat).hdr = .slice (if X.cap = a.toNat then X.a else X.a.map (·.add (a.toNat * i'.size))) (b.toNat - a.toNat) (X.cap - a.toNat) := by
        show Value.slice _ ((X.els.drop a.toNat).take (b.toNat - a.toNat)).length _ = _
        rw [hlen]; simp only [slc, hsz]
      rw [hv]
      have e1 : a'.eval x = .slice X.a X.els.length X.cap := hx.eval hf (by simp [Op.operands]) hc
      cases lo with
      | none =>
        cases hlo
        cases hi with
        | none =>
          cases hhi
          simp only [execOp, Option.map_none, e1, Instr.sliceAt, Instr.slice, underlying, Sem.run_bind, run_program, Result.andThen_ok, het, Instr.sliceBounds, Sem.run_pure, sizeOf, typeInfo, hi']
          simp
        | some o =>
          obtain ⟨k, h5⟩ := hhi
          have e2 := h5.eval hf (by simp [Op.operands]) hc
          have e4 := fun w => run_sliceBound (P := Γ.P) (k := k) (code := .sliceAcap) (show 0 ≤ b by omega) (show b ≤ ((X.cap : Nat) : Int) by omega) w
          simp [execOp, e1, e2, Instr.sliceAt, Instr.slice, underlying, het, Instr.sliceBounds, sizeOf, typeInfo, hi', e4]
      | some o1 =>
        obtain ⟨k1, h6⟩ := hlo
        have e3 := h6.eval hf (by simp [Op.operands]) hc
        cases hi with
        | none =>
          cases hhi
          have e5 := fun w => run_sliceBound (P := Γ.P) (k := k1) (code := .sliceB) (show 0 ≤ a by omega) (show a ≤ ((X.els.length : Nat) : Int) by omega) w
          simp [execOp, e1, e3, Instr.sliceAt, Instr.slice, underlying, het, Instr.sliceBounds, sizeOf, typeInfo, hi', e5]
        | some o =>
          obtain ⟨k, h5⟩ := hhi
          have e2 := h5.eval hf (by simp [Op.operands]) hc
          have e4 := fun w => run_sliceBound (P := Γ.P) (k := k) (code := .sliceAcap) (show 0 ≤ b by omega) (show b ≤ ((X.cap : Nat) : Int) by omega) w
          have e5 := fun w => run_sliceBound (P := Γ.P) (k := k1) (code := .sliceB) (show 0 ≤ a by omega) (show a ≤ ((b.toNat : Nat) : Int) by omega) w
          simp [execOp, e1, e2, e3, Instr.sliceAt, Instr.slice, underlying, het, Instr.sliceBounds, sizeOf, typeInfo, hi', e4, e5]
    · cases hr
  · refine DV_pure cc (slc X 0 0).hdr hg (fun a' w F hc hf hs => (hcc hc).elim) (hk (slc X 0 0) ?_ (fun w S h => slc_rd h (Nat.le_refl _) (Nat.zero_le _)))
    rw [hn hcc, dat_els]; simp [slc]
end
end Go.Proofs.SL
namespace Go.Proofs.SL
open Go
section
variable {Γ : Cx} {l : Envl} {M M1 M2 F : List HP} {Q : Post} {K : Kont} {w0 w : World} {S0 : List Nat}
variable {rest : List Oper} {d : Nat} {ty : TypeId} {pos : String} {af : Array Edge}
variable {τ δ : Type} [GT τ δ]
end
section
variable {Γ : Cx} {rest : List Oper} {d : Nat} {ty : TypeId} {pos : String} {af : Array Edge}
variable {ops : Array Oper} {Msh pool pool' : List HP} {E : Fl} {rs : List (Option Nat × Rel)} {cs0 : List Nat} {KD : RKont}
variable {τ τ' δ δ' : Type} [GT τ δ] [GT τ' δ']
end
section
variable {Γ : Cx} {rest : List Oper} {d : Nat} {ty : TypeId} {pos : String} {af : Array Edge}
variable {ops : Array Oper} {Msh pool pool' : List HP} {E : Fl} {rs : List (Option Nat × Rel)} {cs0 : List Nat} {KD : RKont}
variable {τ δ : Type} [GT τ δ]
end
section
variable {Γ : Cx} {rest : List Oper} {d : Nat} {ty : TypeId} {pos : String} {af : Array Edge} {gd : Option (Nat × Bool)}
variable {ops : Array Oper} {Msh pool pool' : List HP} {E : Fl} {rs : List (Option Nat × Rel)} {cs0 : List Nat} {KD : RKont}
/-- A part that runs where the guard lets it; else a given answer. -/
def gm {α : Type} (g : Bool) (d : α) (o : Option α) : Option α := cond g o (some d)
@[simp] theorem gm_true {α : Type} {d : α} {o : Option α} : gm true d o = o := rfl
@[simp] theorem gm_false {α : Type} {d : α} {o : Option α} : gm false d o = some d := rfl
end
section
variable {Γ : Cx} {rest : List Oper} {d : Nat} {ty : TypeId} {pos : String} {af : Array Edge}
variable {ops : Array Oper} {Msh pool pool' : List HP} {E : Fl} {rs : List (Option Nat × Rel)} {cs0 : List Nat} {KD : RKont}
variable {τ δ : Type} [GT τ δ]
end
section
variable {Γ : Cx} {rest : List Oper} {d : Nat} {ty : TypeId} {pos : String} {af : Array Edge} {gd : Option (Nat × Bool)}
variable {ops : Array Oper} {Msh pool pool' : List HP} {E : Fl} {rs : List (Option Nat × Rel)} {cs0 : List Nat} {KD : RKont}
variable {τ δ : Type} [GT τ δ]
end
end Go.Proofs.SL
namespace Go.Proofs.SL
open Go
/-! Facts of a program's tables, found by their places -/
class FldF (P : Program) (T f : Nat) (o : outParam Nat) : Prop where h : fldOf P T f = some o
class OneF (P : Program) (T : Nat) : Prop where h : oneOf P T = true
class AggF (P : Program) (T : Nat) (n : outParam Nat) : Prop where h : aggOf P T = some n
class ElF (P : Program) (T : Nat) (e sz by_ : outParam Nat) (z : outParam (List Value)) : Prop where h : elOf P T = some (e, sz, by_, z)
class ZerF (P : Program) (T : Nat) (z : outParam (List Value)) : Prop where h : zeroOf P T = some z
class StrF (P : Program) (T : Nat) : Prop where h : isStr P T = true
class FnF (P : Program) (f : Nat) : Prop where h : IsFn P f
class BldF (P : Program) (T : Nat) (pl : outParam (List (Nat × Nat))) (z : outParam (List Value)) : Prop where h : bldOf P T = some (pl, z)
class UndF (P : Program) (T : Nat) (d : outParam TypeDesc) : Prop where h : P.underlying T = some d
/-! Parts and slots -/
theorem ba {α β : Type} {o : Option α} {k : α → Option β} {r : β} (h : Option.bind o k = some r) : ∃ y, o = some y ∧ k y = some r := bind_any h
theorem pk {h : HP} {M M' : List HP} (p : Pick h M M' := by first | (with_reducible repeat (first | exact Pick.here _ | apply Pick.there)); done | (repeat (first | exact Pick.here _ | apply Pick.there))) : Pick h M M' := p
theorem mm {h : HP} {M : List HP} (p : h ∈ M := by first | (with_reducible repeat (first | exact List.Mem.head _ | apply List.Mem.tail)); done | (repeat (first | exact List.Mem.head _ | apply List.Mem.tail))) : h ∈ M := p
theorem sb {l' l : Envl} (h : Sub l' l := by repeat (first | exact Sub.nil _ | (apply Sub.cons; (· exact rfl)))) : Sub l' l := h
theorem ms {M' M : List HP} (h : MSub M' M := by repeat (first | exact MSub.nil _ | (apply MSub.cons; (· exact pk)))) : MSub M' M := h
theorem pc {M Ms R : List HP} (h : List.Perm M (Ms ++ R) := by repeat (first | exact perm_nil_left _ | (apply perm_cons; (· exact pk)))) : List.Perm M (Ms ++ R) := h
theorem bv {P : Program} {op : BinOp} {T : TypeId} {x y : Operand} {u v r : Value} (h : BinV P op T x y u v r := by
  first
    | (with_reducible first | exact bv_add | exact bv_eql | exact bv_lss | exact bv_sub | exact bv_neq | exact bv_geq | exact bv_gtr | exact bv_leq | exact bv_seql | exact bv_sneq | exact bv_slss | exact bv_sgeq | exact bv_sgtr | exact bv_sleq | exact bv_mul | exact bv_and | exact bv_or | exact bv_xor)
    | ((with_reducible refine bv_beql ?_); exact UndF.h) | ((with_reducible refine bv_bneq ?_); exact UndF.h) | ((with_reducible refine bv_quo ?_); decide) | ((with_reducible refine bv_rem ?_); decide)
    | ((with_reducible refine bv_shl ?_ ?_) <;> decide) | ((with_reducible refine bv_shr ?_ ?_) <;> decide)) : BinV P op T x y u v r := h
theorem ocs {cs : List Value} (h : ∀ v, v ∈ cs → v.oneCell' = true := by first | exact allOne rfl | exact fun v hv => GT.one _ v hv | (simp [Value.oneCell', TL.hdr, Value.cells]; done)) : ∀ v, v ∈ cs → v.oneCell' = true := h
section
variable {Γ : Cx} {l : Envl} {M M' : List HP} {Q : Post} {K : Kont} {rest : List Oper} {d : Nat} {ty : TypeId} {pos : String} {af : Array Edge}
inductive Kp : List Nat → Envl → Envl → Prop
  | nil (l : Envl) : Kp [] l []
  | cons {t : Nat} {v : Value} {ts : List Nat} {l l' : Envl} (h : l.lookup t = some v) (hk : Kp ts l l') : Kp (t :: ts) l ((t, v) :: l')
theorem Kp.sub {ts : List Nat} {l l' : Envl} (h : Kp ts l l') : Sub l' l := by
  induction h with
  | nil l => exact Sub.nil _
  | cons h _ ih => exact Sub.cons h ih
/-- Some slots are kept. -/
theorem kp (ts : List Nat) {c : Code} {l' : Envl} (k : W Γ c l' M Q) (h : Kp ts l l' := by repeat (first | exact Kp.nil _ | (apply Kp.cons; (· exact rfl)))) : W Γ c l M Q := W_weaken h.sub (MSub.refl _) k
theorem kq (ts : List Nat) {c : Code} {l' : Envl} (k : W Γ c l' M' Q) (h : Kp ts l l' := by repeat (first | exact Kp.nil _ | (apply Kp.cons; (· exact rfl)))) (hm : M = M' := by (try simp only [List.cons_append, List.nil_append]); exact rfl) : W Γ c l M Q := W_weaken h.sub (hm ▸ MSub.refl _) k
theorem al {T : TypeId} {z : List Value} [hz : ZerF Γ.P T z] (hk : ∀ b, L Γ rest ((d, .pointer (some ⟨b, 0, none⟩)) :: l) (blk b z T :: M) K) (hn : Nat.blt d Γ.n = true := by exact rfl) :
    L Γ ({ dst := some d, op := .alloc T, type := ty, pos, after := af, guard := none } :: rest) l M K := L_alloc hn hz.h hk
theorem bx {x : Operand} {T : TypeId} {v : Value} (hk : ∀ b, L Γ rest ((d, .pointer (some ⟨b, 0, none⟩)) :: l) (blk b v.cells.toList T :: M) K) (hn : Nat.blt d Γ.n = true := by exact rfl) (hx : ev l x = some v := by exact rfl) :
    L Γ ({ dst := some d, op := .box T x, type := ty, pos, after := af, guard := none } :: rest) l M K := L_box hn hx hk
end
section
variable {w0 w : World} {S0 : List Nat} {M M' M1 M2 : List HP}
/-- A tree made of parts that are there; what is left. -/
def Own {τ δ : Type} [GT τ δ] (M : List HP) (t : τ) (M' : List HP) : Prop := ∀ (w0 : World) (S0 : List Nat) (w : World) (F : List HP), Holds w0 S0 (M ++ F) w → Holds w0 S0 (treeH t :: (M' ++ F)) w
theorem own_pick {τ δ : Type} [GT τ δ] {t : τ} (p : Pick (treeH t) M M') : Own M t M' := fun _ _ _ F h => h.perm (p.perm.append_right F)
theorem own_flat {τ δ : Type} [GT τ δ] {t : τ} (p : Flat t) : Own M t M := fun _ _ _ _ h => h.addFlat p
theorem own_int {n : Int} : Own M n M := own_flat (flat_int trivial)
theorem own_bool {n : Bool} : Own M n M := own_flat (flat_bool _)
theorem own_str {n : ByteArray} : Own M n M := own_flat (flat_str trivial)
theorem own_nil {τ δ : Type} [GT τ δ] {e : TypeId} : Own M (TL.nil τ e) M := own_flat (flat_nil e)
theorem own_pair {α β δ ε : Type} [GT α δ] [GT β ε] {a : α} {b : β} (ha : Own M a M1) (hb : Own M1 b M2) : Own M (a, b) M2 := fun w0 S0 w F h => by
  have h1 := ha w0 S0 w F h
  have h2 : Holds w0 S0 (M1 ++ (treeH a :: F)) w := h1.perm List.perm_middle.symm
  have h3 := hb w0 S0 w _ h2
  have h4 : Holds w0 S0 (treeH a :: treeH b :: (M2 ++ F)) w := h3.perm ((List.perm_middle.cons _).trans (List.Perm.swap _ _ _))
  exact pair_tree h4
theorem ow {τ δ : Type} [GT τ δ] {t : τ} (o : Own M t M' := by repeat (first | (with_reducible exact own_int) | (with_reducible exact own_bool) | (with_reducible exact own_str) | (with_reducible exact own_nil) | (with_reducible apply own_pair) | ((with_reducible apply own_pick); exact pk))) : Own M t M' := o
theorem Own.h {τ δ : Type} [GT τ δ] {t : τ} (o : Own M t M') (h : Holds w0 S0 M w) : Holds w0 S0 (treeH t :: M') w := by
  have := o w0 S0 w [] (by simpa using h)
  simpa using this
/-- A tree taken apart. -/
def Exp {τ δ : Type} [GT τ δ] (t : τ) (M M' : List HP) : Prop := ∀ (w0 : World) (S0 : List Nat) (w : World) (F : List HP), Holds w0 S0 (treeH t :: (M ++ F)) w → Holds w0 S0 (M' ++ F) w
theorem exp_flat {τ δ : Type} [GT τ δ] {t : τ} : Exp t M M := fun _ _ _ F h => h.sub ⟨[treeH t], List.perm_append_comm (l₁ := [treeH t]) (l₂ := M ++ F)⟩
theorem exp_int {n : Int} : Exp n M M := exp_flat
theorem exp_bool {n : Bool} : Exp n M M := exp_flat
theorem exp_str {n : ByteArray} : Exp n M M := exp_flat
theorem exp_leaf {τ δ : Type} [GT τ δ] {t : TL τ} : Exp t M (treeH t :: M) := fun _ _ _ _ h => h
theorem exp_pair {α β δ ε : Type} [GT α δ] [GT β ε] {a : α} {b : β} (hb : Exp b M M1) (ha : Exp a M1 M2) : Exp (a, b) M M2 := fun w0 S0 w F h => by
  have h1 := tree_pair h
  have h2 : Holds w0 S0 (treeH b :: (M ++ (treeH a :: F))) w := h1.perm ((List.Perm.swap _ _ _).trans (List.perm_middle.symm.cons _))
  have h3 := hb w0 S0 w _ h2
  exact ha w0 S0 w F (h3.perm List.perm_middle)
theorem ex {τ δ : Type} [GT τ δ] {t : τ} (o : Exp t M M' := by repeat (first | (with_reducible exact exp_int) | (with_reducible exact exp_bool) | (with_reducible exact exp_str) | (with_reducible apply exp_pair) | (with_reducible exact exp_leaf))) : Exp t M M' := o
theorem Exp.h {τ δ : Type} [GT τ δ] {t : τ} (o : Exp t M1 M') (p : Pick (treeH t) M M1) (h : Holds w0 S0 M w) : Holds w0 S0 M' w := by
  have := o w0 S0 w [] (by simpa using h.perm p.perm)
  simpa using this
variable {Γ : Cx} {l : Envl} {Q : Post} {K : Kont} {c : Code} {r : List Oper}
theorem jW {τ δ : Type} [GT τ δ] (t : τ) (k : W Γ c l (treeH t :: M') Q) (o : Own M t M' := by exact ow) : W Γ c l M Q := W_conv (fun _ h => o.h h) k
theorem xW {τ δ : Type} [GT τ δ] (t : τ) (k : W Γ c l M' Q) (p : Pick (treeH t) M M1 := by exact pk) (o : Exp t M1 M' := by exact ex) : W Γ c l M Q := W_conv (fun _ h => o.h p h) k
theorem xL {τ δ : Type} [GT τ δ] (t : τ) (k : L Γ r l M' K) (p : Pick (treeH t) M M1 := by exact pk) (o : Exp t M1 M' := by exact ex) : L Γ r l M K := L_conv (fun _ h => o.h p h) k
end
theorem dd {a b : Prop} (h : a) (e : a → b := by (intro h; (try dsimp only [dat_pair, dat_int, dat_bool, dat_str, dat_ar] at h); exact h)) : b := e h
theorem sc {p q : Prop} (k : q) (e : q → p := by (intro k; (simp only [cells_pair, cells_int, cells_bool, cells_str, cells_TL, List.cons_append, List.nil_append]); exact k)) : p := e k
section
variable {ops : Array Oper} {E : Fl}
theorem gc {o : Oper} {c : Prop} (h : GC ops E o c := by first | exact GC.none | exact GC.some rfl rfl) : GC ops E o c := h
theorem ov {x : Operand} {c : Prop} {v : Value} (h : OpV E x c v := by first | exact OpV.c | exact OpV.t rfl | exact OpV.s rfl) : OpV E x c v := h
end
theorem L_extractL {Γ : Cx} {l : Envl} {M : List HP} {K : Kont} {rest : List Oper} {d : Nat} {ty : TypeId} {pos : String} {af : Array Edge} {x : Operand} {i : Nat} {vs : List Value} {v : Value} (hn : Nat.blt d Γ.n = true) (hx : ev l x = some (.tuple vs.toArray)) (hv : vs[i]? = some v) (hk : L Γ rest ((d, v) :: l) M K) :
    L Γ ({ dst := some d, op := .extract x i, type := ty, pos, after := af, guard := none } :: rest) l M K := L_extract hn hx (by simpa using hv) hk
theorem isLen {Γ : Cx} {l : Envl} {M : List HP} {K : Kont} {rest : List Oper} {d : Option Nat} {ty : TypeId} {pos : String} {af : Array Edge} {g : Option (Nat × Bool)} {x : Array Operand} {T : Array TypeId} (h : L Γ ({ dst := d, op := .call { callee := .builtin .len, args := x, argTypes := T }, type := ty, pos := pos, after := af, guard := g } :: rest) l M K) :
    L Γ ({ dst := d, op := .call { callee := .builtin .len, args := x, argTypes := T }, type := ty, pos := pos, after := af, guard := g } :: rest) l M K := h
section
variable {Γ : Cx} {l : Envl} {M : List HP} {K : Kont} {Q : Post} {c : Code} {r : List Oper} {ops : Array Oper} {Msh pool : List HP} {E : Fl} {rs : List (Option Nat × Rel)} {cs0 : List Nat} {KD : RKont}
theorem isL (h : L Γ r l M K) : L Γ r l M K := h
theorem isW (h : W Γ c l M Q) : W Γ c l M Q := h
theorem isD (h : DV Γ ops Msh pool E rs cs0 r KD) : DV Γ ops Msh pool E rs cs0 r KD := h
end
/-- One step that needs no word. -/
theorem s1 {p q : Prop} (k : q) (h : q → p := by
  intro k
  (first
    | (with_reducible refine isL ?_); (first
      | (with_reducible apply L_move); (· exact rfl); (· exact rfl)
      | (with_reducible apply L_assign); (· exact rfl); (· exact rfl)
      | (with_reducible refine L_nil ?_)
      | (with_reducible apply L_binV); (· exact rfl); (· exact rfl); (· exact rfl); (· exact bv)
      | (with_reducible apply L_fieldAddr); (· exact rfl); (· exact rfl); (· exact FldF.h)
      | (with_reducible apply L_load); (· exact rfl); (· exact rfl); (· exact RdC.blk mm); (· exact OneF.h); (· exact rfl)
      | (with_reducible apply L_loadW); (· exact rfl); (· exact rfl); (· exact RdC.blk mm); (· exact AggF.h)
      | (with_reducible apply L_extractL); (· exact rfl); (· exact rfl); (· exact rfl)
      | (with_reducible apply L_store); (· exact rfl); (· exact rfl); (· exact pk); (· exact OneF.h); (· exact rfl); (· exact rfl)
      | (with_reducible apply L_storeW); (· exact rfl); (· exact rfl); (· exact pk); (· exact AggF.h); (· exact rfl); (· exact ocs)
      | (with_reducible refine isLen ?_); (first | refine L_lenT rfl rfl StrF.h ?_ | refine L_lenP rfl rfl ElF.h ?_)
      | (with_reducible apply L_not); (· exact rfl); (· exact rfl)
      | (with_reducible apply L_nilCheck); (· exact rfl); (· exact rfl))
    | (with_reducible refine isW ?_); (first
      | (with_reducible refine W_seq ?_)
      | (with_reducible refine W_region ?_)
      | (with_reducible refine W_skip ?_)
      | (with_reducible refine W_block ?_)
      | (with_reducible refine W_ret ?_))
    | (with_reducible refine isD ?_); (first
      | (with_reducible apply D_move); (· exact gc); (· exact ov)
      | (with_reducible apply D_fieldAddr); (· exact gc); (· exact ov); (· exact FldF.h)
      | (with_reducible apply D_load); (· exact gc); (· exact ov); (· exact fun _ => RdC.blk mm); (· exact OneF.h); (· exact rfl)
      | (with_reducible apply D_bin); (· exact gc); (· exact ov); (· exact ov); (· exact fun _ => bv)
      | (with_reducible apply D_and); (· exact gc); (· exact ov); (· exact ov); (· exact fun h hb => ⟨h, hb⟩)
      | (with_reducible apply D_or); (· exact gc); (· exact ov); (· exact ov); (· exact fun h hb => ⟨h, hb⟩)
      | (with_reducible apply D_loadW); (· exact gc); (· exact ov); (· exact fun _ => RdC.blk mm); (· exact AggF.h)
      | (with_reducible apply D_assign); (· exact gc); (· exact ov)
      | (with_reducible apply D_not); (· exact gc); (· exact ov)
      | (with_reducible apply D_nilCheck); (· exact gc); (· exact ov)
      | (with_reducible refine DV_nil ?_))
    | (with_reducible refine Give_nil ?_)
    | (with_reducible apply Give_drop); (· exact rfl)
    | (with_reducible apply Give_is); (· exact rfl); (· exact rfl)
    | (with_reducible apply Give_cons); (· exact rfl)
    | (with_reducible apply Give_drop')
    | (with_reducible apply Give_st))
  exact k) : p := h k
theorem s2 {p q : Prop} (k : q) (h : q → p := by (intro k; (iterate 2 (refine s1 ?_)); exact k)) : p := h k
theorem s3 {p q : Prop} (k : q) (h : q → p := by (intro k; (iterate 3 (refine s1 ?_)); exact k)) : p := h k
theorem s4 {p q : Prop} (k : q) (h : q → p := by (intro k; (iterate 4 (refine s1 ?_)); exact k)) : p := h k
theorem s5 {p q : Prop} (k : q) (h : q → p := by (intro k; (iterate 5 (refine s1 ?_)); exact k)) : p := h k
theorem s6 {p q : Prop} (k : q) (h : q → p := by (intro k; (iterate 6 (refine s1 ?_)); exact k)) : p := h k
theorem s7 {p q : Prop} (k : q) (h : q → p := by (intro k; (iterate 7 (refine s1 ?_)); exact k)) : p := h k
theorem s8 {p q : Prop} (k : q) (h : q → p := by (intro k; (iterate 8 (refine s1 ?_)); exact k)) : p := h k
theorem s9 {p q : Prop} (k : q) (h : q → p := by (intro k; (iterate 9 (refine s1 ?_)); exact k)) : p := h k
theorem s10 {p q : Prop} (k : q) (h : q → p := by (intro k; (iterate 10 (refine s1 ?_)); exact k)) : p := h k
theorem s11 {p q : Prop} (k : q) (h : q → p := by (intro k; (iterate 11 (refine s1 ?_)); exact k)) : p := h k
theorem s12 {p q : Prop} (k : q) (h : q → p := by (intro k; (iterate 12 (refine s1 ?_)); exact k)) : p := h k
theorem s13 {p q : Prop} (k : q) (h : q → p := by (intro k; (iterate 13 (refine s1 ?_)); exact k)) : p := h k
theorem s14 {p q : Prop} (k : q) (h : q → p := by (intro k; (iterate 14 (refine s1 ?_)); exact k)) : p := h k
theorem s15 {p q : Prop} (k : q) (h : q → p := by (intro k; (iterate 15 (refine s1 ?_)); exact k)) : p := h k
theorem s16 {p q : Prop} (k : q) (h : q → p := by (intro k; (iterate 16 (refine s1 ?_)); exact k)) : p := h k
theorem s17 {p q : Prop} (k : q) (h : q → p := by (intro k; (iterate 17 (refine s1 ?_)); exact k)) : p := h k
theorem s18 {p q : Prop} (k : q) (h : q → p := by (intro k; (iterate 18 (refine s1 ?_)); exact k)) : p := h k
theorem s20 {p q : Prop} (k : q) (h : q → p := by (intro k; (iterate 20 (refine s1 ?_)); exact k)) : p := h k
end Go.Proofs.SL
namespace Go.Proofs.SL
open Go
set_option maxHeartbeats 2000000
instance el34 : ElF Try.prog 34 3 1 8 [.int .i64 0] := ⟨by kernel_rfl⟩
instance one3 : OneF Try.prog 3 := ⟨by kernel_rfl⟩
instance el22 : ElF Try.prog 22 5 1 1 [.int .u8 0] := ⟨by kernel_rfl⟩
instance und22 : UndF Try.prog 22 (.slice 5) := ⟨by kernel_rfl⟩
instance und5 : UndF Try.prog 5 (.int .u8) := ⟨by kernel_rfl⟩
instance und9 : UndF Try.prog 9 (.string) := ⟨by kernel_rfl⟩
theorem mix : Try.prog.follows .mixedOrders = true := by kernel_rfl
instance und3 : UndF Try.prog 3 (.int .i64) := ⟨by kernel_rfl⟩
end Go.Proofs.SL
namespace Go.Proofs.SL
open Go
set_option maxHeartbeats 2000000
instance fn73 : FnF Try.prog 73 := ⟨⟨_, Try.func73, by kernel_rfl, rfl⟩⟩
noncomputable def s_l1In (a0 : Int) (a1 : Int) (a2 : Int) : Option Bool :=
  some ((decide (a1 ≤ a0)) && (decide (a0 ≤ a2)))
theorem s_l1In_walk (w : World) (a0 : Int) (a1 : Int) (a2 : Int)  (r : Bool) (hp : s_l1In a0 a1 a2 = some r) : Spec Try.prog 77 [.int .i64 a0, .int .i64 a1, .int .i64 a2].toArray w [] (IsV (.bool r)) := by
  refine Spec.intro Try.func77 rfl Try.ntmps77 rfl ?_
  unfold s_l1In at hp
  replace hp := dd hp
  refine s5 ?_
  refine W_D0 [6] mix (by kernel_rfl) rfl ?_
  refine s20 ?_
  obtain rfl := Option.some.inj hp
  refine s1 ?_
  refine res1 rfl (ResOK.tmp rfl) ⟨rfl, rfl⟩ ms
noncomputable def i_within (a0 : Int) (a1 : Int) (a2 : Int) : Option Bool :=
  some ((decide (a1 ≤ a0)) && (decide (a0 ≤ a2)))
theorem i_within_walk (w : World) (a0 : Int) (a1 : Int) (a2 : Int)  (r : Bool) (hp : i_within a0 a1 a2 = some r) : Spec Try.prog 73 [.int .i64 a0, .int .i64 a1, .int .i64 a2].toArray w [] (IsV (.bool r)) := by
  refine Spec.intro Try.func73 rfl Try.ntmps73 rfl ?_
  unfold i_within at hp
  replace hp := dd hp
  refine s5 ?_
  refine W_D0 [6] mix (by kernel_rfl) rfl ?_
  refine s20 ?_
  obtain rfl := Option.some.inj hp
  refine s1 ?_
  refine res1 rfl (ResOK.tmp rfl) ⟨rfl, rfl⟩ ms
end Go.Proofs.SL
namespace Go.Proofs.SL
open Go
set_option maxHeartbeats 2000000
abbrev T_l1Cur := (TL UInt8) × Int × Int
abbrev D_l1Cur := (List UInt8) × Int × Int
instance one5 : OneF Try.prog 5 := ⟨by kernel_rfl⟩
instance bld144 : BldF Try.prog 144 [(0, 1), (1, 1), (2, 1)] [.slice none 0 0, .int .i64 0, .int .i64 0] := ⟨by kernel_rfl⟩
instance fld144_2 : FldF Try.prog 144 2 2 := ⟨by kernel_rfl⟩
instance fld144_1 : FldF Try.prog 144 1 1 := ⟨by kernel_rfl⟩
instance fld144_0 : FldF Try.prog 144 0 0 := ⟨by kernel_rfl⟩
instance one22 : OneF Try.prog 22 := ⟨by kernel_rfl⟩
instance fn120 : FnF Try.prog 120 := ⟨⟨_, Try.func120, by kernel_rfl, rfl⟩⟩
instance fn59 : FnF Try.prog 59 := ⟨⟨_, Try.func59, by kernel_rfl, rfl⟩⟩
instance el25 : ElF Try.prog 25 9 1 16 [.string ByteArray.empty] := ⟨by kernel_rfl⟩
instance one9 : OneF Try.prog 9 := ⟨by kernel_rfl⟩
noncomputable def w_big (a0 : List UInt8) : Option Bool :=
  some (decide (1048576 < (a0.length : Int)))
theorem w_big_walk (w : World) (a0 : TL UInt8) (h0 : GT.rd w [] a0) (r : Bool) (hp : w_big (GT.dat a0) = some r) : Spec Try.prog 9 [(TL.hdr a0)].toArray w [] (IsV (.bool r)) := by
  refine Spec.intro Try.func9 rfl Try.ntmps9 rfl ?_
  unfold w_big at hp
  replace hp := dd hp
  refine s11 ?_
  obtain rfl := Option.some.inj hp
  refine s1 ?_
  refine res1 rfl (ResOK.tmp rfl) ⟨rfl, rfl⟩ ms
noncomputable def w_at (a0 : List UInt8) (a1 : Int) : Option Int :=
  cond (decide (a1 < (a0.length : Int))) (Option.bind (idx a0 a1) (fun y2 => some (IntKind.wrap .i64 (y2.toNat : Int)))) (some ((IntKind.wrap .i64 (IntKind.wrap .i64 (a1 * 37) + IntKind.wrap .i64 ((a0.length : Int) * 11))).tmod 256))
theorem w_at_walk (w : World) (a0 : TL UInt8) (a1 : Int) (h0 : GT.rd w [] a0) (r : Int) (hp : w_at (GT.dat a0) a1 = some r) : Spec Try.prog 15 [(TL.hdr a0), .int .i64 a1].toArray w [] (IsV (.int .i64 r)) := by
  refine Spec.intro Try.func15 rfl Try.ntmps15 rfl ?_
  unfold w_at at hp
  replace hp := dd hp
  refine s12 ?_
  refine kp [0, 1, 8] ?_
  refine W_cond rfl (fun hc1 => ?_) (fun hc1 => ?_)
  · replace hp := cond_t hc1 hp
    refine s4 ?_
    replace hp := idx_bind hp; obtain ⟨u2, hy2, hp⟩ := hp
    refine L_idxA (X := a0) rfl rfl rfl el22.h (RdT.old h0) hy2 ?_
    refine L_load0 rfl rfl (RdT.at (RdT.old h0) (hy2).2) one5.h rfl ?_
    refine L_convInt rfl rfl und3.h (by rw [und5.h]; rfl) ?_
    refine s2 ?_
    obtain rfl := Option.some.inj hp
    refine s1 ?_
    refine res1 rfl (ResOK.tmp rfl) ⟨rfl, rfl⟩ ms
  · replace hp := cond_f hc1 hp
    refine s12 ?_
    obtain rfl := Option.some.inj hp
    refine s1 ?_
    refine res1 rfl (ResOK.tmp rfl) ⟨rfl, rfl⟩ ms
noncomputable def s_l1New (a0 : List UInt8) : Option D_l1Cur :=
  whileP (fun s1 : Int × Int => cond ((decide (s1.2 < (a0.length : Int))) && (decide (s1.2 < 4000))) (Option.bind (idx a0 s1.2) (fun y3 => some (.inl ((bits .and .i64 (IntKind.wrap .i64 (IntKind.wrap .i64 (IntKind.wrap .i64 (s1.1 * 131) + IntKind.wrap .i64 (y3.toNat : Int)) + 7)) 1073741823, IntKind.wrap .i64 (s1.2 + 1)))))) (Option.map .inr (some (a0, 0, s1.1)))) (IntKind.wrap .i64 (10101 + (a0.length : Int)), 0)
theorem s_l1New_walk (w : World) (a0 : TL UInt8) (h0 : GT.rd w [] a0) (r : D_l1Cur) (hp : s_l1New (GT.dat a0) = some r) : Spec Try.prog 58 [(TL.hdr a0)].toArray w [] (fun v M => ∃ (b : Nat) (x0 : T_l1Cur), v = .pointer (some ⟨b, 0, none⟩) ∧ GT.dat x0 = r ∧ M = [blk b (GT.cells x0) 144] ∧ x0.1 = a0) := by
  refine Spec.intro Try.func58 rfl Try.ntmps58 rfl ?_
  unfold s_l1New at hp
  replace hp := dd hp
  refine s17 ?_
  refine W_while (σ := Int × Int) GT.dat (fun ((v1_0, v1_1) : Int × Int) => [(3, .int .i64 v1_0), (4, .int .i64 v1_1)]) (fun ((v1_0, v1_1) : Int × Int) => []) [(0, _)] [] (IntKind.wrap .i64 (10101 + ((GT.dat a0).length : Int)), 0) hp sb ms ?_
  clear hp
  rintro ⟨v1_0, v1_1⟩ x1 hp hx1
  replace hp := dd hp
  refine kq [0, 3, 4] ?_
  refine s2 ?_
  refine W_D0 [15] mix (by kernel_rfl) rfl ?_
  refine s2 ?_
  refine D_lenP (X := a0) GC.none (OpV.t rfl) el22.h ?_
  refine s15 ?_
  refine kp [0, 3, 4, 15] ?_
  refine W_cond rfl (fun hc2 => ?_) (fun hc2 => ?_)
  · replace hp := cond_t hc2 hp
    refine s8 ?_
    replace hp := idx_bind hp; obtain ⟨u3, hy3, hp⟩ := hp
    refine L_idxA (X := a0) rfl rfl rfl el22.h (RdT.old h0) hy3 ?_
    refine L_load0 rfl rfl (RdT.at (RdT.old h0) (hy3).2) one5.h rfl ?_
    refine L_convInt rfl rfl und3.h (by rw [und5.h]; rfl) ?_
    refine s10 ?_
    exact ⟨(bits .and .i64 (IntKind.wrap .i64 (IntKind.wrap .i64 (IntKind.wrap .i64 (v1_0 * 131) + IntKind.wrap .i64 (u3.toNat : Int)) + 7)) 1073741823, IntKind.wrap .i64 (v1_1 + 1)), sb, (.sub ms), some_eq hp⟩
  · replace hp := cond_f hc2 hp
    refine W_exit ?_
    replace hp := map_any hp; obtain ⟨a4, hp, hx_a4⟩ := hp
    obtain rfl := hx1 _ hx_a4
    refine s4 ?_
    refine L_build (xs := [(0, .tmp 28), (2, .tmp 29)]) (cs := [(TL.hdr a0), .int .i64 0, .int .i64 v1_0]) rfl rfl bld144.h rfl ?_
    refine bx fun bk31 => ?_
    refine s2 ?_
    obtain rfl := Option.some.inj hp
    refine s1 ?_
    refine res1 rfl (ResOK.tmp rfl) ⟨bk31, (a0, 0, v1_0), rfl, rfl, rfl, rfl⟩ ms
noncomputable def s_l1Byte (a0 : D_l1Cur) : Option (Int × D_l1Cur) :=
  cond (decide (a0.2.1 < (a0.1.length : Int))) (Option.bind (idx a0.1 a0.2.1) (fun y2 => some (bits .and .i64 (IntKind.wrap .i64 (bits .and .i64 (bits .xor .i64 (IntKind.wrap .i64 (IntKind.wrap .i64 (a0.2.2 * 6364136223846793005) + 1442695040888963407) / 2 ^ (33 : Int).toNat) (IntKind.wrap .i64 (IntKind.wrap .i64 (a0.2.2 * 6364136223846793005) + 1442695040888963407) / 2 ^ (45 : Int).toNat)) 255 + IntKind.wrap .i64 (y2.toNat : Int))) 255, (a0.1, IntKind.wrap .i64 (a0.2.1 + 1), IntKind.wrap .i64 (IntKind.wrap .i64 (a0.2.2 * 6364136223846793005) + 1442695040888963407))))) (some (bits .and .i64 (bits .xor .i64 (IntKind.wrap .i64 (IntKind.wrap .i64 (a0.2.2 * 6364136223846793005) + 1442695040888963407) / 2 ^ (33 : Int).toNat) (IntKind.wrap .i64 (IntKind.wrap .i64 (a0.2.2 * 6364136223846793005) + 1442695040888963407) / 2 ^ (45 : Int).toNat)) 255, (a0.1, a0.2.1, IntKind.wrap .i64 (IntKind.wrap .i64 (a0.2.2 * 6364136223846793005) + 1442695040888963407))))
theorem s_l1Byte_walk (w : World) (b0_ : Nat) (a0 : T_l1Cur) (h0_0 : GT.rd w (fps [blk b0_ (GT.cells a0) 144]) a0.1) (r : Int × D_l1Cur) (hp : s_l1Byte (GT.dat a0) = some r) : Spec Try.prog 120 [Value.pointer (some ⟨b0_, 0, none⟩)].toArray w [blk b0_ (GT.cells a0) 144] (fun v M => ∃ (x0 : Int) (y0 : T_l1Cur), v = .int .i64 x0 ∧ (GT.dat x0, GT.dat y0) = r ∧ M = [blk b0_ (GT.cells y0) 144] ∧ y0.1 = a0.1) := by
  obtain ⟨a0_1, a0_2, a0_3⟩ := a0
  change Spec _ _ ([Value.pointer (some ⟨b0_, 0, none⟩)] : List Value).toArray w _ _
  refine Spec.intro Try.func120 rfl Try.ntmps120 rfl ?_
  unfold s_l1Byte at hp
  replace hp := dd hp
  refine s18 ?_
  refine W_D0 [3] mix (by kernel_rfl) rfl ?_
  refine s20 ?_
  refine s10 ?_
  refine W_D0 [34] mix (by kernel_rfl) rfl ?_
  refine s8 ?_
  refine D_lenP (X := a0_1) GC.none (OpV.t rfl) el22.h ?_
  refine s13 ?_
  refine kp [0, 3, 34] ?_
  refine W_cond rfl (fun hc1 => ?_) (fun hc1 => ?_)
  · replace hp := cond_t hc1 hp
    refine s1 ?_
    replace hp := idx_bind hp; obtain ⟨u2, hy2, hp⟩ := hp
    refine W_D0 [3] mix (by kernel_rfl) rfl ?_
    refine s9 ?_
    refine D_idxA (X := a0_1) GC.none (OpV.t rfl) (OpV.t rfl) el22.h (RdT.old h0_0) (fun _ => hy2) ?_
    refine D_load0 GC.none (OpV.t rfl) (fun hg => RdT.at (RdT.old h0_0) (hy2).2) one5.h rfl ?_
    refine D_convInt GC.none (OpV.t rfl) und3.h (by rw [und5.h]; rfl) ?_
    refine s20 ?_
    refine s16 ?_
    obtain rfl := Option.some.inj hp
    refine s1 ?_
    refine res1 rfl (ResOK.tmp rfl) ⟨bits .and .i64 (IntKind.wrap .i64 (bits .and .i64 (bits .xor .i64 (IntKind.wrap .i64 (IntKind.wrap .i64 (a0_3 * 6364136223846793005) + 1442695040888963407) / 2 ^ (33 : Int).toNat) (IntKind.wrap .i64 (IntKind.wrap .i64 (a0_3 * 6364136223846793005) + 1442695040888963407) / 2 ^ (45 : Int).toNat)) 255 + IntKind.wrap .i64 (u2.toNat : Int))) 255, (a0_1, IntKind.wrap .i64 (a0_2 + 1), IntKind.wrap .i64 (IntKind.wrap .i64 (a0_3 * 6364136223846793005) + 1442695040888963407)), rfl, rfl, rfl, rfl⟩ ms
  · replace hp := cond_f hc1 hp
    refine s6 ?_
    obtain rfl := Option.some.inj hp
    refine s1 ?_
    refine res1 rfl (ResOK.tmp rfl) ⟨bits .and .i64 (bits .xor .i64 (IntKind.wrap .i64 (IntKind.wrap .i64 (a0_3 * 6364136223846793005) + 1442695040888963407) / 2 ^ (33 : Int).toNat) (IntKind.wrap .i64 (IntKind.wrap .i64 (a0_3 * 6364136223846793005) + 1442695040888963407) / 2 ^ (45 : Int).toNat)) 255, (a0_1, a0_2, IntKind.wrap .i64 (IntKind.wrap .i64 (a0_3 * 6364136223846793005) + 1442695040888963407)), rfl, rfl, rfl, rfl⟩ ms
noncomputable def s_l1Below (a0 : D_l1Cur) (a1 : Int) : Option (Int × D_l1Cur) :=
  cond (decide (a1 ≤ 0)) (some (0, (a0.1, a0.2.1, a0.2.2))) (cond (decide (a1 ≤ 256)) (Option.bind (s_l1Byte (a0.1, a0.2.1, a0.2.2)) (fun y3 => Option.bind (remP y3.1 a1) (fun y4 => some (y4, (y3.2.1, y3.2.2.1, y3.2.2.2))))) (Option.bind (s_l1Byte (a0.1, a0.2.1, a0.2.2)) (fun y5 => Option.bind (s_l1Byte (y5.2.1, y5.2.2.1, y5.2.2.2)) (fun y6 => Option.bind (s_l1Byte (y6.2.1, y6.2.2.1, y6.2.2.2)) (fun y7 => Option.bind (s_l1Byte (y7.2.1, y7.2.2.1, y7.2.2.2)) (fun y8 => Option.bind (remP (IntKind.wrap .i64 (IntKind.wrap .i64 (IntKind.wrap .i64 (IntKind.wrap .i64 (y5.1 * 16777216) + IntKind.wrap .i64 (y6.1 * 65536)) + IntKind.wrap .i64 (y7.1 * 256)) + y8.1)) a1) (fun y9 => some (y9, (y8.2.1, y8.2.2.1, y8.2.2.2)))))))))
theorem s_l1Below_walk (w : World) (b0_ : Nat) (a0 : T_l1Cur) (a1 : Int) (h0_0 : GT.rd w (fps [blk b0_ (GT.cells a0) 144]) a0.1) (r : Int × D_l1Cur) (hp : s_l1Below (GT.dat a0) a1 = some r) : Spec Try.prog 59 [Value.pointer (some ⟨b0_, 0, none⟩), .int .i64 a1].toArray w [blk b0_ (GT.cells a0) 144] (fun v M => ∃ (x0 : Int) (y0 : T_l1Cur), v = .int .i64 x0 ∧ (GT.dat x0, GT.dat y0) = r ∧ M = [blk b0_ (GT.cells y0) 144] ∧ y0.1 = a0.1) := by
  obtain ⟨a0_1, a0_2, a0_3⟩ := a0
  change Spec _ _ ([Value.pointer (some ⟨b0_, 0, none⟩), .int .i64 a1] : List Value).toArray w _ _
  refine Spec.intro Try.func59 rfl Try.ntmps59 rfl ?_
  unfold s_l1Below at hp
  replace hp := dd hp
  refine s10 ?_
  refine kp [0, 1, 10] ?_
  refine W_cond rfl (fun hc1 => ?_) (fun hc1 => ?_)
  · replace hp := cond_t hc1 hp
    refine s4 ?_
    obtain rfl := Option.some.inj hp
    refine s1 ?_
    refine res1 rfl (ResOK.tmp rfl) ⟨0, (a0_1, a0_2, a0_3), rfl, rfl, rfl, rfl⟩ ms
  · replace hp := cond_f hc1 hp
    refine s7 ?_
    refine kp [0, 1, 12] ?_
    refine W_cond rfl (fun hc2 => ?_) (fun hc2 => ?_)
    · replace hp := cond_t hc2 hp
      refine s3 ?_
      replace hp := ba hp; obtain ⟨y3, hy3, hp⟩ := hp
      refine L_callM [blk b0_ _ _] _ rfl fn120.h rfl pc (by exact fun w hw => s_l1Byte_walk w b0_ (a0_1, a0_2, a0_3) ((RdX.old h0_0) w hw) _ hy3) ?_
      rintro _ _ ⟨y3x0, ⟨y3y0_1, y3y0_2, y3y0_3⟩, rfl, rfl, rfl, hey3_0⟩
      obtain rfl : a0_1 = y3y0_1 := hey3_0.symm
      refine sc ?_
      replace hp := dd hp
      refine s1 ?_
      replace hp := ba hp; obtain ⟨y4, hy4, hp⟩ := hp
      refine L_binV rfl rfl rfl (bv_remP hy4) ?_
      refine s2 ?_
      obtain rfl := Option.some.inj hp
      refine s1 ?_
      refine res1 rfl (ResOK.tmp rfl) ⟨y4, (a0_1, y3y0_2, y3y0_3), rfl, rfl, rfl, rfl⟩ ms
    · replace hp := cond_f hc2 hp
      refine s4 ?_
      replace hp := ba hp; obtain ⟨y5, hy5, hp⟩ := hp
      refine L_callM [blk b0_ _ _] _ rfl fn120.h rfl pc (by exact fun w hw => s_l1Byte_walk w b0_ (a0_1, a0_2, a0_3) ((RdX.old h0_0) w hw) _ hy5) ?_
      rintro _ _ ⟨y5x0, ⟨y5y0_1, y5y0_2, y5y0_3⟩, rfl, rfl, rfl, hey5_0⟩
      obtain rfl : a0_1 = y5y0_1 := hey5_0.symm
      refine sc ?_
      replace hp := dd hp
      refine s5 ?_
      replace hp := ba hp; obtain ⟨y6, hy6, hp⟩ := hp
      refine L_callM [blk b0_ _ _] _ rfl fn120.h rfl pc (by exact fun w hw => s_l1Byte_walk w b0_ (a0_1, y5y0_2, y5y0_3) ((RdX.old h0_0) w hw) _ hy6) ?_
      rintro _ _ ⟨y6x0, ⟨y6y0_1, y6y0_2, y6y0_3⟩, rfl, rfl, rfl, hey6_0⟩
      obtain rfl : a0_1 = y6y0_1 := hey6_0.symm
      refine sc ?_
      replace hp := dd hp
      refine s5 ?_
      replace hp := ba hp; obtain ⟨y7, hy7, hp⟩ := hp
      refine L_callM [blk b0_ _ _] _ rfl fn120.h rfl pc (by exact fun w hw => s_l1Byte_walk w b0_ (a0_1, y6y0_2, y6y0_3) ((RdX.old h0_0) w hw) _ hy7) ?_
      rintro _ _ ⟨y7x0, ⟨y7y0_1, y7y0_2, y7y0_3⟩, rfl, rfl, rfl, hey7_0⟩
      obtain rfl : a0_1 = y7y0_1 := hey7_0.symm
      refine sc ?_
      replace hp := dd hp
      refine s5 ?_
      replace hp := ba hp; obtain ⟨y8, hy8, hp⟩ := hp
      refine L_callM [blk b0_ _ _] _ rfl fn120.h rfl pc (by exact fun w hw => s_l1Byte_walk w b0_ (a0_1, y7y0_2, y7y0_3) ((RdX.old h0_0) w hw) _ hy8) ?_
      rintro _ _ ⟨y8x0, ⟨y8y0_1, y8y0_2, y8y0_3⟩, rfl, rfl, rfl, hey8_0⟩
      obtain rfl : a0_1 = y8y0_1 := hey8_0.symm
      refine sc ?_
      replace hp := dd hp
      refine s15 ?_
      replace hp := ba hp; obtain ⟨y9, hy9, hp⟩ := hp
      refine L_binV rfl rfl rfl (bv_remP hy9) ?_
      refine s2 ?_
      obtain rfl := Option.some.inj hp
      refine s1 ?_
      refine res1 rfl (ResOK.tmp rfl) ⟨y9, (a0_1, y8y0_2, y8y0_3), rfl, rfl, rfl, rfl⟩ ms
noncomputable def s_l1Once (a0 : D_l1Cur) (a1 : Int) : Option (Bool × D_l1Cur) :=
  Option.bind (s_l1Below (a0.1, a0.2.1, a0.2.2) a1) (fun y1 => some (decide (y1.1 = 0), (y1.2.1, y1.2.2.1, y1.2.2.2)))
theorem s_l1Once_walk (w : World) (b0_ : Nat) (a0 : T_l1Cur) (a1 : Int) (h0_0 : GT.rd w (fps [blk b0_ (GT.cells a0) 144]) a0.1) (r : Bool × D_l1Cur) (hp : s_l1Once (GT.dat a0) a1 = some r) : Spec Try.prog 89 [Value.pointer (some ⟨b0_, 0, none⟩), .int .i64 a1].toArray w [blk b0_ (GT.cells a0) 144] (fun v M => ∃ (x0 : Bool) (y0 : T_l1Cur), v = .bool x0 ∧ (GT.dat x0, GT.dat y0) = r ∧ M = [blk b0_ (GT.cells y0) 144] ∧ y0.1 = a0.1) := by
  obtain ⟨a0_1, a0_2, a0_3⟩ := a0
  change Spec _ _ ([Value.pointer (some ⟨b0_, 0, none⟩), .int .i64 a1] : List Value).toArray w _ _
  refine Spec.intro Try.func89 rfl Try.ntmps89 rfl ?_
  unfold s_l1Once at hp
  replace hp := dd hp
  refine s8 ?_
  replace hp := ba hp; obtain ⟨y1, hy1, hp⟩ := hp
  refine L_callM [blk b0_ _ _] _ rfl fn59.h rfl pc (by exact fun w hw => s_l1Below_walk w b0_ (a0_1, a0_2, a0_3) a1 ((RdX.old h0_0) w hw) _ hy1) ?_
  rintro _ _ ⟨y1x0, ⟨y1y0_1, y1y0_2, y1y0_3⟩, rfl, rfl, rfl, hey1_0⟩
  obtain rfl : a0_1 = y1y0_1 := hey1_0.symm
  refine sc ?_
  replace hp := dd hp
  refine s3 ?_
  obtain rfl := Option.some.inj hp
  refine s1 ?_
  refine res1 rfl (ResOK.tmp rfl) ⟨decide (y1x0 = 0), (a0_1, y1y0_2, y1y0_3), rfl, rfl, rfl, rfl⟩ ms
noncomputable def s_l1Text (a0 : D_l1Cur) (a1 : Int) : Option (ByteArray × D_l1Cur) :=
  Option.bind (some ([] : List UInt8)) (fun y2 => Option.bind (s_l1Below (a0.1, a0.2.1, a0.2.2) 4) (fun y3 => Option.bind (s_l1Below (y3.2.1, y3.2.2.1, y3.2.2.2) (IntKind.wrap .i64 (a1 + 1))) (fun y4 => whileP (fun s5 : (List UInt8) × Int × Int × Int => cond (decide (0 < s5.2.1)) (Option.bind (s_l1Byte (y4.2.1, s5.2.2.1, s5.2.2.2)) (fun y7 => cond (decide (y3.1 = 1)) (cond (decide (y3.1 = 2)) (Option.bind (u8P (IntKind.wrap .u8 (IntKind.wrap .i64 (97 + ((y7.1).tmod 2).tmod 4)))) (fun y10 => Option.bind (appP s5.1 [y10]) (fun y12 => some (.inl ((y12, IntKind.wrap .i64 (s5.2.1 - 1), y7.2.2.1, y7.2.2.2)))))) (Option.bind (u8P (IntKind.wrap .u8 ((y7.1).tmod 2))) (fun y13 => Option.bind (appP s5.1 [y13]) (fun y15 => some (.inl ((y15, IntKind.wrap .i64 (s5.2.1 - 1), y7.2.2.1, y7.2.2.2))))))) (cond (decide (y3.1 = 2)) (Option.bind (u8P (IntKind.wrap .u8 (IntKind.wrap .i64 (97 + (y7.1).tmod 4)))) (fun y17 => Option.bind (appP s5.1 [y17]) (fun y19 => some (.inl ((y19, IntKind.wrap .i64 (s5.2.1 - 1), y7.2.2.1, y7.2.2.2)))))) (Option.bind (u8P (IntKind.wrap .u8 y7.1)) (fun y20 => Option.bind (appP s5.1 [y20]) (fun y22 => some (.inl ((y22, IntKind.wrap .i64 (s5.2.1 - 1), y7.2.2.1, y7.2.2.2))))))))) (Option.map .inr (some ((strP s5.1), (y4.2.1, s5.2.2.1, s5.2.2.2))))) (y2, y4.1, y4.2.2.1, y4.2.2.2))))
theorem s_l1Text_walk (w : World) (b0_ : Nat) (a0 : T_l1Cur) (a1 : Int) (h0_0 : GT.rd w (fps [blk b0_ (GT.cells a0) 144]) a0.1) (r : ByteArray × D_l1Cur) (hp : s_l1Text (GT.dat a0) a1 = some r) : Spec Try.prog 60 [Value.pointer (some ⟨b0_, 0, none⟩), .int .i64 a1].toArray w [blk b0_ (GT.cells a0) 144] (fun v M => ∃ (x0 : ByteArray) (y0 : T_l1Cur), v = .string x0 ∧ (GT.dat x0, GT.dat y0) = r ∧ M = [blk b0_ (GT.cells y0) 144] ∧ y0.1 = a0.1) := by
  obtain ⟨a0_1, a0_2, a0_3⟩ := a0
  change Spec _ _ ([Value.pointer (some ⟨b0_, 0, none⟩), .int .i64 a1] : List Value).toArray w _ _
  refine Spec.intro Try.func60 rfl Try.ntmps60 rfl ?_
  unfold s_l1Text at hp
  replace hp := dd hp
  refine s6 ?_
  replace hp := ba hp; obtain ⟨y2, hy2, hp⟩ := hp
  refine L_mk0 UInt8 rfl el22.h (fun X1 hdX1 => ?_)
  obtain rfl : GT.dat X1 = y2 := hdX1.trans (Option.some.inj hy2)
  clear hy2 hdX1
  refine s5 ?_
  replace hp := ba hp; obtain ⟨y3, hy3, hp⟩ := hp
  refine L_callM [blk b0_ _ _] _ rfl fn59.h rfl pc (by exact fun w hw => s_l1Below_walk w b0_ (a0_1, a0_2, a0_3) 4 ((RdX.old h0_0) w hw) _ hy3) ?_
  rintro _ _ ⟨y3x0, ⟨y3y0_1, y3y0_2, y3y0_3⟩, rfl, rfl, rfl, hey3_0⟩
  obtain rfl : a0_1 = y3y0_1 := hey3_0.symm
  refine sc ?_
  replace hp := dd hp
  refine s8 ?_
  replace hp := ba hp; obtain ⟨y4, hy4, hp⟩ := hp
  refine L_callM [blk b0_ _ _] _ rfl fn59.h rfl pc (by exact fun w hw => s_l1Below_walk w b0_ (a0_1, y3y0_2, y3y0_3) (IntKind.wrap .i64 (a1 + 1)) ((RdX.old h0_0) w hw) _ hy4) ?_
  rintro _ _ ⟨y4x0, ⟨y4y0_1, y4y0_2, y4y0_3⟩, rfl, rfl, rfl, hey4_0⟩
  obtain rfl : a0_1 = y4y0_1 := hey4_0.symm
  refine sc ?_
  replace hp := dd hp
  refine s3 ?_
  refine W_while (σ := (TL UInt8) × Int × Int × Int) GT.dat (fun ((v5_0, v5_1, v5_2, v5_3) : (TL UInt8) × Int × Int × Int) => [(5, (TL.hdr v5_0)), (7, .int .i64 v5_1)]) (fun ((v5_0, v5_1, v5_2, v5_3) : (TL UInt8) × Int × Int × Int) => [blk b0_ [(TL.hdr a0_1), .int .i64 v5_2, .int .i64 v5_3] 144, treeH v5_0]) [(0, _), (6, _)] [] (X1, y4x0, y4y0_2, y4y0_3) hp sb ms ?_
  clear hp
  rintro ⟨v5_0, v5_1, v5_2, v5_3⟩ x5 hp hx5
  replace hp := dd hp
  refine kq [0, 5, 6, 7] ?_
  refine s6 ?_
  refine kp [0, 5, 6, 7, 17] ?_
  refine W_cond rfl (fun hc6 => ?_) (fun hc6 => ?_)
  · replace hp := cond_t hc6 hp
    refine s6 ?_
    replace hp := ba hp; obtain ⟨y7, hy7, hp⟩ := hp
    refine L_callM [blk b0_ _ _] _ rfl fn120.h rfl pc (by exact fun w hw => s_l1Byte_walk w b0_ (a0_1, v5_2, v5_3) ((RdX.old h0_0) w hw) _ hy7) ?_
    rintro _ _ ⟨y7x0, ⟨y7y0_1, y7y0_2, y7y0_3⟩, rfl, rfl, rfl, hey7_0⟩
    obtain rfl : a0_1 = y7y0_1 := hey7_0.symm
    refine sc ?_
    replace hp := dd hp
    refine s8 ?_
    refine kp [0, 5, 6, 7, 8, 23] ?_
    refine W_cond rfl (fun hc8 => ?_) (fun hc8 => ?_)
    · replace hp := cond_t hc8 hp
      refine s11 ?_
      refine kp [0, 5, 6, 7, 8, 27] ?_
      refine W_cond rfl (fun hc9 => ?_) (fun hc9 => ?_)
      · replace hp := cond_t hc9 hp
        refine s9 ?_
        refine L_convInt rfl rfl und5.h (by rw [und3.h]; rfl) ?_
        replace hp := ba hp; obtain ⟨y10, hy10, hp⟩ := hp
        have ey10 := u8P_some hy10
        try simp only [ey10]
        refine L_buildSlice1 rfl rfl el22.h rfl (by decide) (by decide) rfl (fun bb34 => ?_)
        replace hp := ba hp; obtain ⟨y12, hy12, hp⟩ := hp
        refine L_app1F (X := v5_0) (y10 : UInt8) rfl rfl rfl el22.h rfl rfl pk mm  hy12 (by decide) (fun X11 hdX11 => ?_)
        subst hdX11
        refine s7 ?_
        exact ⟨(X11, IntKind.wrap .i64 (v5_1 - 1), y7y0_2, y7y0_3), sb, (.sub ms), some_eq hp⟩
      · replace hp := cond_f hc9 hp
        refine s4 ?_
        refine L_convInt rfl rfl und5.h (by rw [und3.h]; rfl) ?_
        replace hp := ba hp; obtain ⟨y13, hy13, hp⟩ := hp
        have ey13 := u8P_some hy13
        try simp only [ey13]
        refine L_buildSlice1 rfl rfl el22.h rfl (by decide) (by decide) rfl (fun bb34 => ?_)
        replace hp := ba hp; obtain ⟨y15, hy15, hp⟩ := hp
        refine L_app1F (X := v5_0) (y13 : UInt8) rfl rfl rfl el22.h rfl rfl pk mm  hy15 (by decide) (fun X14 hdX14 => ?_)
        subst hdX14
        refine s7 ?_
        exact ⟨(X14, IntKind.wrap .i64 (v5_1 - 1), y7y0_2, y7y0_3), sb, (.sub ms), some_eq hp⟩
    · replace hp := cond_f hc8 hp
      refine s7 ?_
      refine kp [0, 5, 6, 7, 8, 27] ?_
      refine W_cond rfl (fun hc16 => ?_) (fun hc16 => ?_)
      · replace hp := cond_t hc16 hp
        refine s9 ?_
        refine L_convInt rfl rfl und5.h (by rw [und3.h]; rfl) ?_
        replace hp := ba hp; obtain ⟨y17, hy17, hp⟩ := hp
        have ey17 := u8P_some hy17
        try simp only [ey17]
        refine L_buildSlice1 rfl rfl el22.h rfl (by decide) (by decide) rfl (fun bb34 => ?_)
        replace hp := ba hp; obtain ⟨y19, hy19, hp⟩ := hp
        refine L_app1F (X := v5_0) (y17 : UInt8) rfl rfl rfl el22.h rfl rfl pk mm  hy19 (by decide) (fun X18 hdX18 => ?_)
        subst hdX18
        refine s7 ?_
        exact ⟨(X18, IntKind.wrap .i64 (v5_1 - 1), y7y0_2, y7y0_3), sb, (.sub ms), some_eq hp⟩
      · replace hp := cond_f hc16 hp
        refine s4 ?_
        refine L_convInt rfl rfl und5.h (by rw [und3.h]; rfl) ?_
        replace hp := ba hp; obtain ⟨y20, hy20, hp⟩ := hp
        have ey20 := u8P_some hy20
        try simp only [ey20]
        refine L_buildSlice1 rfl rfl el22.h rfl (by decide) (by decide) rfl (fun bb34 => ?_)
        replace hp := ba hp; obtain ⟨y22, hy22, hp⟩ := hp
        refine L_app1F (X := v5_0) (y20 : UInt8) rfl rfl rfl el22.h rfl rfl pk mm  hy22 (by decide) (fun X21 hdX21 => ?_)
        subst hdX21
        refine s7 ?_
        exact ⟨(X21, IntKind.wrap .i64 (v5_1 - 1), y7y0_2, y7y0_3), sb, (.sub ms), some_eq hp⟩
  · replace hp := cond_f hc6 hp
    refine W_exit ?_
    replace hp := map_any hp; obtain ⟨a23, hp, hx_a23⟩ := hp
    obtain rfl := hx5 _ hx_a23
    refine s3 ?_
    refine L_toStr (X := v5_0) rfl rfl und22.h und5.h und9.h (RdT.tree mm) ?_
    refine s2 ?_
    obtain rfl := Option.some.inj hp
    refine s1 ?_
    refine res1 rfl (ResOK.tmp rfl) ⟨(strP (GT.dat v5_0)), (a0_1, v5_2, v5_3), rfl, rfl, rfl, rfl⟩ ms
end Go.Proofs.SL
namespace Go.Proofs.SL
open Go
set_option maxHeartbeats 2000000
abbrev T_scan := ByteArray × Bool
abbrev D_scan := ByteArray × Bool
instance fn77 : FnF Try.prog 77 := ⟨⟨_, Try.func77, by kernel_rfl, rfl⟩⟩
instance str9 : StrF Try.prog 9 := ⟨by kernel_rfl⟩
instance fn124 : FnF Try.prog 124 := ⟨⟨_, Try.func124, by kernel_rfl, rfl⟩⟩
instance fn67 : FnF Try.prog 67 := ⟨⟨_, Try.func67, by kernel_rfl, rfl⟩⟩
instance fn69 : FnF Try.prog 69 := ⟨⟨_, Try.func69, by kernel_rfl, rfl⟩⟩
instance fn68 : FnF Try.prog 68 := ⟨⟨_, Try.func68, by kernel_rfl, rfl⟩⟩
instance fn60 : FnF Try.prog 60 := ⟨⟨_, Try.func60, by kernel_rfl, rfl⟩⟩
instance fn123 : FnF Try.prog 123 := ⟨⟨_, Try.func123, by kernel_rfl, rfl⟩⟩
instance fld148_0 : FldF Try.prog 148 0 0 := ⟨by kernel_rfl⟩
instance fn174 : FnF Try.prog 174 := ⟨⟨_, Try.func174, by kernel_rfl, rfl⟩⟩
instance fld148_1 : FldF Try.prog 148 1 1 := ⟨by kernel_rfl⟩
instance one4 : OneF Try.prog 4 := ⟨by kernel_rfl⟩
instance fn158 : FnF Try.prog 158 := ⟨⟨_, Try.func158, by kernel_rfl, rfl⟩⟩
instance fn159 : FnF Try.prog 159 := ⟨⟨_, Try.func159, by kernel_rfl, rfl⟩⟩
instance fn66 : FnF Try.prog 66 := ⟨⟨_, Try.func66, by kernel_rfl, rfl⟩⟩
instance fn65 : FnF Try.prog 65 := ⟨⟨_, Try.func65, by kernel_rfl, rfl⟩⟩
instance fn64 : FnF Try.prog 64 := ⟨⟨_, Try.func64, by kernel_rfl, rfl⟩⟩
instance bld148 : BldF Try.prog 148 [(0, 1), (1, 1)] [.string ByteArray.empty, .bool false] := ⟨by kernel_rfl⟩
instance fn121 : FnF Try.prog 121 := ⟨⟨_, Try.func121, by kernel_rfl, rfl⟩⟩
instance fn14 : FnF Try.prog 14 := ⟨⟨_, Try.func14, by kernel_rfl, rfl⟩⟩
instance fn62 : FnF Try.prog 62 := ⟨⟨_, Try.func62, by kernel_rfl, rfl⟩⟩
instance fn160 : FnF Try.prog 160 := ⟨⟨_, Try.func160, by kernel_rfl, rfl⟩⟩
instance fn122 : FnF Try.prog 122 := ⟨⟨_, Try.func122, by kernel_rfl, rfl⟩⟩
instance fn63 : FnF Try.prog 63 := ⟨⟨_, Try.func63, by kernel_rfl, rfl⟩⟩
instance fn16 : FnF Try.prog 16 := ⟨⟨_, Try.func16, by kernel_rfl, rfl⟩⟩
noncomputable def s_Var (a0 : Int) : Option ByteArray :=
  Option.bind (s_l1In a0 0 562949953421311) (fun y1 => cond (!y1) (some ByteArray.empty) (Option.bind (some ([] : List UInt8)) (fun y4 => whileP (fun s5 : Int × (List UInt8) => cond (decide (128 ≤ s5.1)) (Option.bind (u8P (IntKind.wrap .u8 (IntKind.wrap .i64 (128 + (s5.1).tmod 128)))) (fun y7 => Option.bind (appP s5.2 [y7]) (fun y9 => some (.inl ((IntKind.wrap .i64 ((s5.1).tdiv 128), y9)))))) (Option.map .inr (Option.bind (u8P (IntKind.wrap .u8 s5.1)) (fun y11 => Option.bind (appP s5.2 [y11]) (fun y13 => some (strP y13)))))) (a0, y4))))
theorem s_Var_walk (w : World) (a0 : Int)  (r : ByteArray) (hp : s_Var a0 = some r) : Spec Try.prog 124 [.int .i64 a0].toArray w [] (IsV (.string r)) := by
  refine Spec.intro Try.func124 rfl Try.ntmps124 rfl ?_
  unfold s_Var at hp
  replace hp := dd hp
  refine s8 ?_
  replace hp := ba hp; obtain ⟨y1, hy1, hp⟩ := hp
  refine L_callX rfl fn77.h rfl (by exact fun w hw => s_l1In_walk w a0 0 562949953421311  _ hy1) ?_
  refine s2 ?_
  refine kp [0, 6] ?_
  refine W_cond rfl (fun hc2 => ?_) (fun hc2 => ?_)
  · replace hp := cond_t hc2 hp
    refine s4 ?_
    obtain rfl := Option.some.inj hp
    refine s1 ?_
    refine res1 rfl (ResOK.tmp rfl) ⟨rfl, rfl⟩ ms
  · replace hp := cond_f hc2 hp
    refine s3 ?_
    replace hp := ba hp; obtain ⟨y4, hy4, hp⟩ := hp
    refine L_mk0 UInt8 rfl el22.h (fun X3 hdX3 => ?_)
    obtain rfl : GT.dat X3 = y4 := hdX3.trans (Option.some.inj hy4)
    clear hy4 hdX3
    refine s4 ?_
    refine W_while (σ := Int × (TL UInt8)) GT.dat (fun ((v5_0, v5_1) : Int × (TL UInt8)) => [(0, .int .i64 v5_0), (3, (TL.hdr v5_1))]) (fun ((v5_0, v5_1) : Int × (TL UInt8)) => [treeH v5_1]) [] [] (a0, X3) hp sb ms ?_
    clear hp
    rintro ⟨v5_0, v5_1⟩ x5 hp hx5
    replace hp := dd hp
    refine kq [0, 3] ?_
    refine s6 ?_
    refine kp [0, 3, 9] ?_
    refine W_cond rfl (fun hc6 => ?_) (fun hc6 => ?_)
    · replace hp := cond_t hc6 hp
      refine s8 ?_
      refine L_convInt rfl rfl und5.h (by rw [und3.h]; rfl) ?_
      replace hp := ba hp; obtain ⟨y7, hy7, hp⟩ := hp
      have ey7 := u8P_some hy7
      try simp only [dat_u8] at ey7
      try simp only [ey7]
      refine L_buildSlice1 rfl rfl el22.h rfl (by decide) (by decide) rfl (fun bb15 => ?_)
      replace hp := ba hp; obtain ⟨y9, hy9, hp⟩ := hp
      refine L_app1F (X := v5_1) (y7 : UInt8) rfl rfl rfl el22.h rfl rfl pk mm  hy9 (by decide) (fun X8 hdX8 => ?_)
      subst hdX8
      refine s7 ?_
      exact ⟨(IntKind.wrap .i64 ((v5_0).tdiv 128), X8), sb, (.sub ms), some_eq hp⟩
    · replace hp := cond_f hc6 hp
      refine W_exit ?_
      replace hp := map_any hp; obtain ⟨a10, hp, hx_a10⟩ := hp
      obtain rfl := hx5 _ hx_a10
      refine s4 ?_
      refine L_convInt rfl rfl und5.h (by rw [und3.h]; rfl) ?_
      replace hp := ba hp; obtain ⟨y11, hy11, hp⟩ := hp
      have ey11 := u8P_some hy11
      try simp only [dat_u8] at ey11
      try simp only [ey11]
      refine L_buildSlice1 rfl rfl el22.h rfl (by decide) (by decide) rfl (fun bb22 => ?_)
      replace hp := ba hp; obtain ⟨y13, hy13, hp⟩ := hp
      refine L_app1F (X := v5_1) (y11 : UInt8) rfl rfl rfl el22.h rfl rfl pk mm  hy13 (by decide) (fun X12 hdX12 => ?_)
      subst hdX12
      refine L_toStr (X := X12) rfl rfl und22.h und5.h und9.h (RdT.tree mm) ?_
      refine s2 ?_
      obtain rfl := Option.some.inj hp
      refine s1 ?_
      refine res1 rfl (ResOK.tmp rfl) ⟨rfl, rfl⟩ ms
noncomputable def s_l4Piece (a0 : ByteArray) : Option ByteArray :=
  Option.bind (s_Var (a0.size : Int)) (fun y1 => Option.bind (catP y1 a0) (fun y2 => some y2))
theorem s_l4Piece_walk (w : World) (a0 : ByteArray)  (r : ByteArray) (hp : s_l4Piece a0 = some r) : Spec Try.prog 67 [.string a0].toArray w [] (IsV (.string r)) := by
  refine Spec.intro Try.func67 rfl Try.ntmps67 rfl ?_
  unfold s_l4Piece at hp
  replace hp := dd hp
  refine s8 ?_
  replace hp := ba hp; obtain ⟨y1, hy1, hp⟩ := hp
  refine L_callX rfl fn124.h rfl (by exact fun w hw => s_Var_walk w (a0.size : Int)  _ hy1) ?_
  refine s1 ?_
  replace hp := ba hp; obtain ⟨y2, hy2, hp⟩ := hp
  refine L_binV rfl rfl rfl (bv_saddP hy2) ?_
  refine s2 ?_
  obtain rfl := Option.some.inj hp
  refine s1 ?_
  refine res1 rfl (ResOK.tmp rfl) ⟨rfl, rfl⟩ ms
noncomputable def s_Crc (a0 : ByteArray) : Option Int :=
  whileP (fun s1 : Int × Int => cond (decide (s1.2 < (a0.size : Int))) (Option.bind (sidx a0 s1.2) (fun y3 => whileP (fun s4 : Int × Int => cond (decide (s4.2 < 8)) (cond (decide ((s4.1).tmod 2 = 1)) (some (.inl ((bits .xor .i64 (IntKind.wrap .i64 ((s4.1).tdiv 2)) 2197175160, IntKind.wrap .i64 (s4.2 + 1))))) (some (.inl ((IntKind.wrap .i64 ((s4.1).tdiv 2), IntKind.wrap .i64 (s4.2 + 1)))))) (Option.map .inr (some (.inl ((s4.1, IntKind.wrap .i64 (s1.2 + 1))))))) (bits .xor .i64 s1.1 (IntKind.wrap .i64 y3), 0))) (Option.map .inr (some (IntKind.wrap .i64 (4294967295 - s1.1))))) (4294967295, 0)
theorem s_Crc_walk (w : World) (a0 : ByteArray)  (r : Int) (hp : s_Crc a0 = some r) : Spec Try.prog 69 [.string a0].toArray w [] (IsV (.int .i64 r)) := by
  refine Spec.intro Try.func69 rfl Try.ntmps69 rfl ?_
  unfold s_Crc at hp
  replace hp := dd hp
  refine s14 ?_
  refine W_while (σ := Int × Int) GT.dat (fun ((v1_0, v1_1) : Int × Int) => [(3, .int .i64 v1_0), (4, .int .i64 v1_1)]) (fun ((v1_0, v1_1) : Int × Int) => []) [(0, _)] [] (4294967295, 0) hp sb ms ?_
  clear hp
  rintro ⟨v1_0, v1_1⟩ x1 hp hx1
  replace hp := dd hp
  refine kq [0, 3, 4] ?_
  refine s8 ?_
  refine kp [0, 3, 4, 10] ?_
  refine W_cond rfl (fun hc2 => ?_) (fun hc2 => ?_)
  · replace hp := cond_t hc2 hp
    refine s8 ?_
    replace hp := ba hp; obtain ⟨y3, hy3, hp⟩ := hp
    refine L_idxS rfl rfl rfl str9.h hy3 ?_
    refine L_convInt rfl rfl und3.h (by rw [und5.h]; rfl) ?_
    refine s8 ?_
    refine W_while (σ := Int × Int) GT.dat (fun ((v4_0, v4_1) : Int × Int) => [(3, .int .i64 v4_0), (5, .int .i64 v4_1)]) (fun ((v4_0, v4_1) : Int × Int) => []) [(0, _), (4, _)] [] (bits .xor .i64 v1_0 (IntKind.wrap .i64 y3), 0) hp sb ms ?_
    clear hp
    rintro ⟨v4_0, v4_1⟩ x4 hp hx4
    replace hp := dd hp
    refine kq [0, 3, 4, 5] ?_
    refine s6 ?_
    refine kp [0, 3, 4, 5, 20] ?_
    refine W_cond rfl (fun hc5 => ?_) (fun hc5 => ?_)
    · replace hp := cond_t hc5 hp
      refine s20 ?_
      refine kp [0, 3, 4, 5, 28] ?_
      refine W_cond rfl (fun hc6 => ?_) (fun hc6 => ?_)
      · replace hp := cond_t hc6 hp
        refine s10 ?_
        exact ⟨(bits .xor .i64 (IntKind.wrap .i64 ((v4_0).tdiv 2)) 2197175160, IntKind.wrap .i64 (v4_1 + 1)), sb, (.sub ms), some_eq hp⟩
      · replace hp := cond_f hc6 hp
        refine s6 ?_
        exact ⟨(IntKind.wrap .i64 ((v4_0).tdiv 2), IntKind.wrap .i64 (v4_1 + 1)), sb, (.sub ms), some_eq hp⟩
    · replace hp := cond_f hc5 hp
      refine W_exit ?_
      replace hp := map_any hp; obtain ⟨a7, hp, hx_a7⟩ := hp
      obtain rfl := hx4 _ hx_a7
      refine s5 ?_
      exact ⟨(v4_0, IntKind.wrap .i64 (v1_1 + 1)), sb, (.sub ms), some_eq hp⟩
  · replace hp := cond_f hc2 hp
    refine W_exit ?_
    replace hp := map_any hp; obtain ⟨a8, hp, hx_a8⟩ := hp
    obtain rfl := hx1 _ hx_a8
    refine s6 ?_
    obtain rfl := Option.some.inj hp
    refine s1 ?_
    refine res1 rfl (ResOK.tmp rfl) ⟨rfl, rfl⟩ ms
noncomputable def s_Fixed (a0 : Int) (a1 : Int) : Option ByteArray :=
  Option.bind (s_l1In a1 1 7) (fun y1 => cond ((!y1) || (decide (a0 < 0))) (some ByteArray.empty) (whileP (fun s3 : Int × ByteArray × Int => cond (decide (s3.2.2 < a1)) (Option.bind (u8P (IntKind.wrap .u8 ((s3.1).tmod 256))) (fun y5 => Option.bind (some ([y5] : List UInt8)) (fun y6 => Option.bind (catP (strP y6) s3.2.1) (fun y8 => some (.inl ((IntKind.wrap .i64 ((s3.1).tdiv 256), y8, IntKind.wrap .i64 (s3.2.2 + 1)))))))) (Option.map .inr (cond (decide (0 < s3.1)) (some ByteArray.empty) (some s3.2.1)))) (a0, ByteArray.empty, 0)))
theorem s_Fixed_walk (w : World) (a0 : Int) (a1 : Int)  (r : ByteArray) (hp : s_Fixed a0 a1 = some r) : Spec Try.prog 68 [.int .i64 a0, .int .i64 a1].toArray w [] (IsV (.string r)) := by
  refine Spec.intro Try.func68 rfl Try.ntmps68 rfl ?_
  unfold s_Fixed at hp
  replace hp := dd hp
  refine s6 ?_
  replace hp := ba hp; obtain ⟨y1, hy1, hp⟩ := hp
  refine W_D0 [13] mix (by kernel_rfl) rfl ?_
  refine s1 ?_
  refine D_callX GC.none fn77.h (OpVs.cons (OpV.t rfl) (OpVs.cons OpV.c (OpVs.cons OpV.c (OpVs.nil)))) (by exact fun hg w F hF hM => s_l1In_walk w a1 1 7  _ hy1) ?_
  refine s14 ?_
  refine kp [0, 1, 13] ?_
  refine W_cond rfl (fun hc2 => ?_) (fun hc2 => ?_)
  · replace hp := cond_t hc2 hp
    refine s4 ?_
    obtain rfl := Option.some.inj hp
    refine s1 ?_
    refine res1 rfl (ResOK.tmp rfl) ⟨rfl, rfl⟩ ms
  · replace hp := cond_f hc2 hp
    refine s11 ?_
    refine W_while (σ := Int × ByteArray × Int) GT.dat (fun ((v3_0, v3_1, v3_2) : Int × ByteArray × Int) => [(0, .int .i64 v3_0), (5, .string v3_1), (6, .int .i64 v3_2)]) (fun ((v3_0, v3_1, v3_2) : Int × ByteArray × Int) => []) [(1, _)] [] (a0, ByteArray.empty, 0) hp sb ms ?_
    clear hp
    rintro ⟨v3_0, v3_1, v3_2⟩ x3 hp hx3
    replace hp := dd hp
    refine kq [0, 1, 5, 6] ?_
    refine s7 ?_
    refine kp [0, 1, 5, 6, 16] ?_
    refine W_cond rfl (fun hc4 => ?_) (fun hc4 => ?_)
    · replace hp := cond_t hc4 hp
      refine s7 ?_
      refine L_convInt rfl rfl und5.h (by rw [und3.h]; rfl) ?_
      replace hp := ba hp; obtain ⟨y5, hy5, hp⟩ := hp
      have ey5 := u8P_some hy5
      try simp only [dat_u8] at ey5
      try simp only [ey5]
      replace hp := ba hp; obtain ⟨y6, hy6, hp⟩ := hp
      refine L_bsN ([y5] : List UInt8) (xs := [(0, .tmp 21)]) rfl rfl el22.h rfl rfl rfl rfl rfl rfl rfl hy6 (fun X7 hdX7 => ?_)
      subst hdX7
      refine L_toStr (X := X7) rfl rfl und22.h und5.h und9.h (RdT.tree mm) ?_
      refine s1 ?_
      replace hp := ba hp; obtain ⟨y8, hy8, hp⟩ := hp
      refine L_binV rfl rfl rfl (bv_saddP hy8) ?_
      refine s12 ?_
      exact ⟨(IntKind.wrap .i64 ((v3_0).tdiv 256), y8, IntKind.wrap .i64 (v3_2 + 1)), sb, (.sub ms), some_eq hp⟩
    · replace hp := cond_f hc4 hp
      refine W_exit ?_
      replace hp := map_any hp; obtain ⟨a9, hp, hx_a9⟩ := hp
      obtain rfl := hx3 _ hx_a9
      refine s6 ?_
      refine kp [5, 29] ?_
      refine W_cond rfl (fun hc10 => ?_) (fun hc10 => ?_)
      · replace hp := cond_t hc10 hp
        refine s4 ?_
        obtain rfl := Option.some.inj hp
        refine s1 ?_
        refine res1 rfl (ResOK.tmp rfl) ⟨rfl, rfl⟩ ms
      · replace hp := cond_f hc10 hp
        refine s6 ?_
        obtain rfl := Option.some.inj hp
        refine s1 ?_
        refine res1 rfl (ResOK.tmp rfl) ⟨rfl, rfl⟩ ms
noncomputable def s_Frame (a0 : ByteArray) : Option ByteArray :=
  cond (decide (200 < (a0.size : Int))) (some ByteArray.empty) (Option.bind (s_l4Piece a0) (fun y2 => Option.bind (s_Crc y2) (fun y3 => Option.bind (s_Fixed y3 4) (fun y4 => Option.bind (catP y4 y2) (fun y5 => some y5)))))
theorem s_Frame_walk (w : World) (a0 : ByteArray)  (r : ByteArray) (hp : s_Frame a0 = some r) : Spec Try.prog 16 [.string a0].toArray w [] (IsV (.string r)) := by
  refine Spec.intro Try.func16 rfl Try.ntmps16 rfl ?_
  unfold s_Frame at hp
  replace hp := dd hp
  refine s11 ?_
  refine kp [0, 6] ?_
  refine W_cond rfl (fun hc1 => ?_) (fun hc1 => ?_)
  · replace hp := cond_t hc1 hp
    refine s4 ?_
    obtain rfl := Option.some.inj hp
    refine s1 ?_
    refine res1 rfl (ResOK.tmp rfl) ⟨rfl, rfl⟩ ms
  · replace hp := cond_f hc1 hp
    refine s4 ?_
    replace hp := ba hp; obtain ⟨y2, hy2, hp⟩ := hp
    refine L_callX rfl fn67.h rfl (by exact fun w hw => s_l4Piece_walk w a0  _ hy2) ?_
    refine s5 ?_
    replace hp := ba hp; obtain ⟨y3, hy3, hp⟩ := hp
    refine L_callX rfl fn69.h rfl (by exact fun w hw => s_Crc_walk w y2  _ hy3) ?_
    replace hp := ba hp; obtain ⟨y4, hy4, hp⟩ := hp
    refine L_callX rfl fn68.h rfl (by exact fun w hw => s_Fixed_walk w y3 4  _ hy4) ?_
    refine s1 ?_
    replace hp := ba hp; obtain ⟨y5, hy5, hp⟩ := hp
    refine L_binV rfl rfl rfl (bv_saddP hy5) ?_
    refine s2 ?_
    obtain rfl := Option.some.inj hp
    refine s1 ?_
    refine res1 rfl (ResOK.tmp rfl) ⟨rfl, rfl⟩ ms
noncomputable def s_l1Spoil (a0 : D_l1Cur) (a1 : ByteArray) : Option (ByteArray × D_l1Cur) :=
  cond (decide ((a1.size : Int) = 0)) (Option.bind (s_l1Text (a0.1, a0.2.1, a0.2.2) 3) (fun y2 => some (y2.1, (y2.2.1, y2.2.2.1, y2.2.2.2)))) (Option.bind (s_l1Below (a0.1, a0.2.1, a0.2.2) (a1.size : Int)) (fun y3 => Option.bind (s_l1Below (y3.2.1, y3.2.2.1, y3.2.2.2) 4) (fun y4 => cond (decide (y4.1 = 0)) (Option.bind (sslP a1 0 y3.1) (fun y6 => Option.bind (sslP a1 (IntKind.wrap .i64 (y3.1 + 1)) (a1.size : Int)) (fun y7 => Option.bind (catP y6 y7) (fun y8 => some (y8, (y4.2.1, y4.2.2.1, y4.2.2.2)))))) (cond (decide (y4.1 = 1)) (Option.bind (sslP a1 0 y3.1) (fun y10 => Option.bind (s_l1Byte (y4.2.1, y4.2.2.1, y4.2.2.2)) (fun y11 => Option.bind (u8P (IntKind.wrap .u8 y11.1)) (fun y12 => Option.bind (some ([y12] : List UInt8)) (fun y13 => Option.bind (catP y10 (strP y13)) (fun y15 => Option.bind (sslP a1 y3.1 (a1.size : Int)) (fun y16 => Option.bind (catP y15 y16) (fun y17 => some (y17, (y11.2.1, y11.2.2.1, y11.2.2.2)))))))))) (cond (decide (y4.1 = 2)) (Option.bind (sslP a1 0 y3.1) (fun y19 => some (y19, (y4.2.1, y4.2.2.1, y4.2.2.2)))) (Option.bind (sslP a1 0 y3.1) (fun y20 => Option.bind (sidx a1 y3.1) (fun y21 => Option.bind (s_l1Below (y4.2.1, y4.2.2.1, y4.2.2.2) 255) (fun y22 => Option.bind (u8P (IntKind.wrap .u8 (bits .xor .i64 (IntKind.wrap .i64 y21) (IntKind.wrap .i64 (1 + y22.1))))) (fun y23 => Option.bind (some ([y23] : List UInt8)) (fun y24 => Option.bind (catP y20 (strP y24)) (fun y26 => Option.bind (sslP a1 (IntKind.wrap .i64 (y3.1 + 1)) (a1.size : Int)) (fun y27 => Option.bind (catP y26 y27) (fun y28 => some (y28, (y22.2.1, y22.2.2.1, y22.2.2.2))))))))))))))))
theorem s_l1Spoil_walk (w : World) (b0_ : Nat) (a0 : T_l1Cur) (a1 : ByteArray) (h0_0 : GT.rd w (fps [blk b0_ (GT.cells a0) 144]) a0.1) (r : ByteArray × D_l1Cur) (hp : s_l1Spoil (GT.dat a0) a1 = some r) : Spec Try.prog 61 [Value.pointer (some ⟨b0_, 0, none⟩), .string a1].toArray w [blk b0_ (GT.cells a0) 144] (fun v M => ∃ (x0 : ByteArray) (y0 : T_l1Cur), v = .string x0 ∧ (GT.dat x0, GT.dat y0) = r ∧ M = [blk b0_ (GT.cells y0) 144] ∧ y0.1 = a0.1) := by
  obtain ⟨a0_1, a0_2, a0_3⟩ := a0
  change Spec _ _ ([Value.pointer (some ⟨b0_, 0, none⟩), .string a1] : List Value).toArray w _ _
  refine Spec.intro Try.func61 rfl Try.ntmps61 rfl ?_
  unfold s_l1Spoil at hp
  replace hp := dd hp
  refine s11 ?_
  refine kp [0, 1, 8] ?_
  refine W_cond rfl (fun hc1 => ?_) (fun hc1 => ?_)
  · replace hp := cond_t hc1 hp
    refine s3 ?_
    replace hp := ba hp; obtain ⟨y2, hy2, hp⟩ := hp
    refine L_callM [blk b0_ _ _] _ rfl fn60.h rfl pc (by exact fun w hw => s_l1Text_walk w b0_ (a0_1, a0_2, a0_3) 3 ((RdX.old h0_0) w hw) _ hy2) ?_
    rintro _ _ ⟨y2x0, ⟨y2y0_1, y2y0_2, y2y0_3⟩, rfl, rfl, rfl, hey2_0⟩
    obtain rfl : a0_1 = y2y0_1 := hey2_0.symm
    refine sc ?_
    replace hp := dd hp
    refine s2 ?_
    obtain rfl := Option.some.inj hp
    refine s1 ?_
    refine res1 rfl (ResOK.tmp rfl) ⟨y2x0, (a0_1, y2y0_2, y2y0_3), rfl, rfl, rfl, rfl⟩ ms
  · replace hp := cond_f hc1 hp
    refine s6 ?_
    replace hp := ba hp; obtain ⟨y3, hy3, hp⟩ := hp
    refine L_callM [blk b0_ _ _] _ rfl fn59.h rfl pc (by exact fun w hw => s_l1Below_walk w b0_ (a0_1, a0_2, a0_3) (a1.size : Int) ((RdX.old h0_0) w hw) _ hy3) ?_
    rintro _ _ ⟨y3x0, ⟨y3y0_1, y3y0_2, y3y0_3⟩, rfl, rfl, rfl, hey3_0⟩
    obtain rfl : a0_1 = y3y0_1 := hey3_0.symm
    refine sc ?_
    replace hp := dd hp
    refine s6 ?_
    replace hp := ba hp; obtain ⟨y4, hy4, hp⟩ := hp
    refine L_callM [blk b0_ _ _] _ rfl fn59.h rfl pc (by exact fun w hw => s_l1Below_walk w b0_ (a0_1, y3y0_2, y3y0_3) 4 ((RdX.old h0_0) w hw) _ hy4) ?_
    rintro _ _ ⟨y4x0, ⟨y4y0_1, y4y0_2, y4y0_3⟩, rfl, rfl, rfl, hey4_0⟩
    obtain rfl : a0_1 = y4y0_1 := hey4_0.symm
    refine sc ?_
    replace hp := dd hp
    refine s7 ?_
    refine kp [0, 1, 5, 16, 17] ?_
    refine W_cond rfl (fun hc5 => ?_) (fun hc5 => ?_)
    · replace hp := cond_t hc5 hp
      refine s1 ?_
      replace hp := ba hp; obtain ⟨y6, hy6, hp⟩ := hp
      replace hp := ba hp; obtain ⟨y7, hy7, hp⟩ := hp
      replace hp := ba hp; obtain ⟨y8, hy8, hp⟩ := hp
      refine W_D0 [4] mix (by kernel_rfl) rfl ?_
      refine s2 ?_
      refine D_ssl GC.none (OpV.t rfl) optD.none (optD.some (OpV.t rfl)) str9.h (fun hg => hy6) ?_
      refine s3 ?_
      refine D_ssl GC.none (OpV.t rfl) (optD.some (OpV.t rfl)) optD.none str9.h (fun hg => hy7) ?_
      refine D_bin GC.none (OpV.t rfl) (OpV.t rfl) (fun hg => (bv_saddP hy8)) ?_
      refine s12 ?_
      obtain rfl := Option.some.inj hp
      refine s1 ?_
      refine res1 rfl (ResOK.tmp rfl) ⟨y8, (a0_1, y4y0_2, y4y0_3), rfl, rfl, rfl, rfl⟩ ms
    · replace hp := cond_f hc5 hp
      refine s5 ?_
      refine kp [0, 1, 5, 16, 27] ?_
      refine W_cond rfl (fun hc9 => ?_) (fun hc9 => ?_)
      · replace hp := cond_t hc9 hp
        refine s1 ?_
        replace hp := ba hp; obtain ⟨y10, hy10, hp⟩ := hp
        replace hp := ba hp; obtain ⟨y11, hy11, hp⟩ := hp
        replace hp := ba hp; obtain ⟨y12, hy12, hp⟩ := hp
        have ey12 := u8P_some hy12
        try simp only [dat_u8] at ey12
        try simp only [ey12]
        replace hp := ba hp; obtain ⟨y13, hy13, hp⟩ := hp
        replace hp := ba hp; obtain ⟨y15, hy15, hp⟩ := hp
        replace hp := ba hp; obtain ⟨y16, hy16, hp⟩ := hp
        replace hp := ba hp; obtain ⟨y17, hy17, hp⟩ := hp
        refine W_DS (pre := [_, _, _, _, _, _, _, _, _, _, _, _, _, _]) (suf := []) [4, 33] [blk b0_ _ 144] _ pc mix (by kernel_rfl) (by kernel_rfl) rfl ?_
        refine s2 ?_
        refine D_ssl GC.none (OpV.t rfl) optD.none (optD.some (OpV.t rfl)) str9.h (fun hg => hy10) ?_
        refine s1 ?_
        refine D_callM (fun v M => ∃ (x0 : Int) (y0 : T_l1Cur), v = .int .i64 x0 ∧ (GT.dat x0, GT.dat y0) = y11 ∧ M = [blk b0_ (GT.cells y0) 144] ∧ y0.1 = a0_1) [blk b0_ _ 144] pc fn120.h (OpVs.cons (OpV.t rfl) (OpVs.nil)) (by exact fun w F hw hM => s_l1Byte_walk w b0_ (a0_1, y4y0_2, y4y0_3) ((RdX.old h0_0) w hw) _ hy11) ?_
        refine D_convInt GC.none (show OpV _ _ _ (.int .i64 y11.1) from ⟨_, rfl, fun u M h hc => by obtain ⟨x0, z0, hv, hd, _⟩ := h; subst hd; exact hv⟩) und5.h (by rw [und3.h]; rfl) ?_
        refine D_bsN ([y12] : List UInt8) (xs := [(0, .tmp 34)]) (ps := [(0, .int .u8 (y12.toNat : Int))]) (OpVp.cons (by rw [← ey12]; exact (OpV.t rfl)) (OpVp.nil)) el22.h rfl rfl rfl rfl rfl rfl rfl hy13 ?_
        refine D_toStrO (r := y13) (t := 35) rfl und22.h und5.h und9.h (by kernel_rfl) ?_
        refine D_bin GC.none (OpV.t rfl) (OpV.t rfl) (fun hg => (bv_saddP hy15)) ?_
        refine s2 ?_
        refine D_ssl GC.none (OpV.t rfl) (optD.some (OpV.t rfl)) optD.none str9.h (fun hg => hy16) ?_
        refine D_bin GC.none (OpV.t rfl) (OpV.t rfl) (fun hg => (bv_saddP hy17)) ?_
        refine s11 ?_
        refine Give_R rfl rfl ?_
        rintro _ _ ⟨y11x0, ⟨y11y0_1, y11y0_2, y11y0_3⟩, rfl, rfl, rfl, hey11_0⟩
        obtain rfl : a0_1 = y11y0_1 := hey11_0.symm
        refine s5 ?_
        refine sc ?_
        replace hp := dd hp
        refine s1 ?_
        obtain rfl := Option.some.inj hp
        refine s1 ?_
        refine res1 rfl (ResOK.tmp rfl) ⟨y17, (a0_1, y11y0_2, y11y0_3), rfl, rfl, rfl, rfl⟩ ms
      · replace hp := cond_f hc9 hp
        refine s5 ?_
        refine kp [0, 1, 5, 42] ?_
        refine W_cond rfl (fun hc18 => ?_) (fun hc18 => ?_)
        · replace hp := cond_t hc18 hp
          refine s4 ?_
          replace hp := ba hp; obtain ⟨y19, hy19, hp⟩ := hp
          refine L_ssl rfl rfl rfl rfl str9.h hy19 ?_
          refine s2 ?_
          obtain rfl := Option.some.inj hp
          refine s1 ?_
          refine res1 rfl (ResOK.tmp rfl) ⟨y19, (a0_1, y4y0_2, y4y0_3), rfl, rfl, rfl, rfl⟩ ms
        · replace hp := cond_f hc18 hp
          refine s2 ?_
          replace hp := ba hp; obtain ⟨y20, hy20, hp⟩ := hp
          replace hp := ba hp; obtain ⟨y21, hy21, hp⟩ := hp
          replace hp := ba hp; obtain ⟨y22, hy22, hp⟩ := hp
          replace hp := ba hp; obtain ⟨y23, hy23, hp⟩ := hp
          have ey23 := u8P_some hy23
          try simp only [dat_u8] at ey23
          try simp only [ey23]
          replace hp := ba hp; obtain ⟨y24, hy24, hp⟩ := hp
          replace hp := ba hp; obtain ⟨y26, hy26, hp⟩ := hp
          replace hp := ba hp; obtain ⟨y27, hy27, hp⟩ := hp
          replace hp := ba hp; obtain ⟨y28, hy28, hp⟩ := hp
          refine W_DS (pre := [_, _, _, _, _, _, _, _, _, _, _, _, _, _, _, _, _, _, _, _, _]) (suf := []) [4, 55] [blk b0_ _ 144] _ pc mix (by kernel_rfl) (by kernel_rfl) rfl ?_
          refine s2 ?_
          refine D_ssl GC.none (OpV.t rfl) optD.none (optD.some (OpV.t rfl)) str9.h (fun hg => hy20) ?_
          refine s2 ?_
          refine D_idxS GC.none (OpV.t rfl) (OpV.t rfl) str9.h (fun hg => hy21) ?_
          refine D_convInt GC.none (OpV.t rfl) und3.h (by rw [und5.h]; rfl) ?_
          refine s1 ?_
          refine D_callM (fun v M => ∃ (x0 : Int) (y0 : T_l1Cur), v = .int .i64 x0 ∧ (GT.dat x0, GT.dat y0) = y22 ∧ M = [blk b0_ (GT.cells y0) 144] ∧ y0.1 = a0_1) [blk b0_ _ 144] pc fn59.h (OpVs.cons (OpV.t rfl) (OpVs.cons OpV.c (OpVs.nil))) (by exact fun w F hw hM => s_l1Below_walk w b0_ (a0_1, y4y0_2, y4y0_3) 255 ((RdX.old h0_0) w hw) _ hy22) ?_
          refine D_bin GC.none OpV.c (show OpV _ _ _ (.int .i64 y22.1) from ⟨_, rfl, fun u M h hc => by obtain ⟨x0, z0, hv, hd, _⟩ := h; subst hd; exact hv⟩) (fun hg => bv_add) ?_
          refine s1 ?_
          refine D_convInt GC.none (OpV.t rfl) und5.h (by rw [und3.h]; rfl) ?_
          refine D_bsN ([y23] : List UInt8) (xs := [(0, .tmp 58)]) (ps := [(0, .int .u8 (y23.toNat : Int))]) (OpVp.cons (by rw [← ey23]; exact (OpV.t rfl)) (OpVp.nil)) el22.h rfl rfl rfl rfl rfl rfl rfl hy24 ?_
          refine D_toStrO (r := y24) (t := 59) rfl und22.h und5.h und9.h (by kernel_rfl) ?_
          refine D_bin GC.none (OpV.t rfl) (OpV.t rfl) (fun hg => (bv_saddP hy26)) ?_
          refine s3 ?_
          refine D_ssl GC.none (OpV.t rfl) (optD.some (OpV.t rfl)) optD.none str9.h (fun hg => hy27) ?_
          refine D_bin GC.none (OpV.t rfl) (OpV.t rfl) (fun hg => (bv_saddP hy28)) ?_
          refine s14 ?_
          refine Give_R rfl rfl ?_
          rintro _ _ ⟨y22x0, ⟨y22y0_1, y22y0_2, y22y0_3⟩, rfl, rfl, rfl, hey22_0⟩
          obtain rfl : a0_1 = y22y0_1 := hey22_0.symm
          refine s9 ?_
          refine sc ?_
          replace hp := dd hp
          refine s1 ?_
          obtain rfl := Option.some.inj hp
          refine s1 ?_
          refine res1 rfl (ResOK.tmp rfl) ⟨y28, (a0_1, y22y0_2, y22y0_3), rfl, rfl, rfl, rfl⟩ ms
noncomputable def i_Var (a0 : Int) : Option ByteArray :=
  Option.bind (i_within a0 0 562949953421311) (fun y1 => cond (!y1) (some ByteArray.empty) (Option.bind (some ([] : List UInt8)) (fun y4 => whileP (fun s5 : Int × (List UInt8) => cond (decide (127 < s5.1)) (Option.bind (u8P (IntKind.wrap .u8 (bits .or .i64 (bits .and .i64 s5.1 127) 128))) (fun y7 => Option.bind (appP s5.2 [y7]) (fun y9 => some (.inl (((s5.1 / 2 ^ (7 : Int).toNat), y9)))))) (Option.map .inr (Option.bind (u8P (IntKind.wrap .u8 s5.1)) (fun y11 => Option.bind (appP s5.2 [y11]) (fun y13 => some (strP y13)))))) (a0, y4))))
theorem i_Var_walk (w : World) (a0 : Int)  (r : ByteArray) (hp : i_Var a0 = some r) : Spec Try.prog 123 [.int .i64 a0].toArray w [] (IsV (.string r)) := by
  refine Spec.intro Try.func123 rfl Try.ntmps123 rfl ?_
  unfold i_Var at hp
  replace hp := dd hp
  refine s8 ?_
  replace hp := ba hp; obtain ⟨y1, hy1, hp⟩ := hp
  refine L_callX rfl fn73.h rfl (by exact fun w hw => i_within_walk w a0 0 562949953421311  _ hy1) ?_
  refine s2 ?_
  refine kp [0, 6] ?_
  refine W_cond rfl (fun hc2 => ?_) (fun hc2 => ?_)
  · replace hp := cond_t hc2 hp
    refine s4 ?_
    obtain rfl := Option.some.inj hp
    refine s1 ?_
    refine res1 rfl (ResOK.tmp rfl) ⟨rfl, rfl⟩ ms
  · replace hp := cond_f hc2 hp
    refine s3 ?_
    replace hp := ba hp; obtain ⟨y4, hy4, hp⟩ := hp
    refine L_mk0 UInt8 rfl el22.h (fun X3 hdX3 => ?_)
    obtain rfl : GT.dat X3 = y4 := hdX3.trans (Option.some.inj hy4)
    clear hy4 hdX3
    refine s4 ?_
    refine W_while (σ := Int × (TL UInt8)) GT.dat (fun ((v5_0, v5_1) : Int × (TL UInt8)) => [(0, .int .i64 v5_0), (3, (TL.hdr v5_1))]) (fun ((v5_0, v5_1) : Int × (TL UInt8)) => [treeH v5_1]) [] [] (a0, X3) hp sb ms ?_
    clear hp
    rintro ⟨v5_0, v5_1⟩ x5 hp hx5
    replace hp := dd hp
    refine kq [0, 3] ?_
    refine s6 ?_
    refine kp [0, 3, 9] ?_
    refine W_cond rfl (fun hc6 => ?_) (fun hc6 => ?_)
    · replace hp := cond_t hc6 hp
      refine s8 ?_
      refine L_convInt rfl rfl und5.h (by rw [und3.h]; rfl) ?_
      replace hp := ba hp; obtain ⟨y7, hy7, hp⟩ := hp
      have ey7 := u8P_some hy7
      try simp only [dat_u8] at ey7
      try simp only [ey7]
      refine L_buildSlice1 rfl rfl el22.h rfl (by decide) (by decide) rfl (fun bb15 => ?_)
      replace hp := ba hp; obtain ⟨y9, hy9, hp⟩ := hp
      refine L_app1F (X := v5_1) (y7 : UInt8) rfl rfl rfl el22.h rfl rfl pk mm  hy9 (by decide) (fun X8 hdX8 => ?_)
      subst hdX8
      refine s7 ?_
      exact ⟨((v5_0 / 2 ^ (7 : Int).toNat), X8), sb, (.sub ms), some_eq hp⟩
    · replace hp := cond_f hc6 hp
      refine W_exit ?_
      replace hp := map_any hp; obtain ⟨a10, hp, hx_a10⟩ := hp
      obtain rfl := hx5 _ hx_a10
      refine s4 ?_
      refine L_convInt rfl rfl und5.h (by rw [und3.h]; rfl) ?_
      replace hp := ba hp; obtain ⟨y11, hy11, hp⟩ := hp
      have ey11 := u8P_some hy11
      try simp only [dat_u8] at ey11
      try simp only [ey11]
      refine L_buildSlice1 rfl rfl el22.h rfl (by decide) (by decide) rfl (fun bb22 => ?_)
      replace hp := ba hp; obtain ⟨y13, hy13, hp⟩ := hp
      refine L_app1F (X := v5_1) (y11 : UInt8) rfl rfl rfl el22.h rfl rfl pk mm  hy13 (by decide) (fun X12 hdX12 => ?_)
      subst hdX12
      refine L_toStr (X := X12) rfl rfl und22.h und5.h und9.h (RdT.tree mm) ?_
      refine s2 ?_
      obtain rfl := Option.some.inj hp
      refine s1 ?_
      refine res1 rfl (ResOK.tmp rfl) ⟨rfl, rfl⟩ ms
noncomputable def i_ReadVar (a0 : ByteArray) : Option (Int × Int) :=
  whileP (fun s1 : Int × Int => cond ((decide (s1.2 < (a0.size : Int))) && (decide (s1.2 < 7))) (Option.bind (sidx a0 s1.2) (fun y3 => Option.bind (shlP .i64 (IntKind.wrap .i64 (bits .and .u8 y3 127)) (IntKind.wrap .i64 (7 * s1.2))) (fun y4 => Option.bind (sidx a0 s1.2) (fun y5 => cond (decide (y5 < 128)) (Option.bind (i_Var (bits .or .i64 s1.1 y4)) (fun y7 => Option.bind (sslP a0 0 (IntKind.wrap .i64 (s1.2 + 1))) (fun y8 => cond (!decide (y7 = y8)) (Option.map .inr (some (0, 0))) (Option.map .inr (some (bits .or .i64 s1.1 y4, IntKind.wrap .i64 (s1.2 + 1))))))) (some (.inl ((bits .or .i64 s1.1 y4, IntKind.wrap .i64 (s1.2 + 1))))))))) (Option.map .inr (some (0, 0)))) (0, 0)
theorem i_ReadVar_walk (w : World) (a0 : ByteArray)  (r : Int × Int) (hp : i_ReadVar a0 = some r) : Spec Try.prog 174 [.string a0].toArray w [] (fun v M => ∃ (x0 : Int) (x1 : Int), v = .tuple #[.int .i64 x0, .int .i64 x1] ∧ (GT.dat x0, GT.dat x1) = r ∧ M = []) := by
  refine Spec.intro Try.func174 rfl Try.ntmps174 rfl ?_
  unfold i_ReadVar at hp
  replace hp := dd hp
  refine s15 ?_
  refine W_while (σ := Int × Int) GT.dat (fun ((v1_0, v1_1) : Int × Int) => [(4, .int .i64 v1_0), (5, .int .i64 v1_1)]) (fun ((v1_0, v1_1) : Int × Int) => []) [(0, _)] [] (0, 0) hp sb ms ?_
  clear hp
  rintro ⟨v1_0, v1_1⟩ x1 hp hx1
  replace hp := dd hp
  refine kq [0, 4, 5] ?_
  refine s2 ?_
  refine W_D0 [13] mix (by kernel_rfl) rfl ?_
  refine s2 ?_
  refine D_lenT GC.none (OpV.t rfl) str9.h ?_
  refine s15 ?_
  refine kp [0, 4, 5, 13] ?_
  refine W_cond rfl (fun hc2 => ?_) (fun hc2 => ?_)
  · replace hp := cond_t hc2 hp
    refine s8 ?_
    replace hp := ba hp; obtain ⟨y3, hy3, hp⟩ := hp
    refine L_idxS rfl rfl rfl str9.h hy3 ?_
    refine s1 ?_
    refine L_convInt rfl rfl und3.h (by rw [und5.h]; rfl) ?_
    refine s2 ?_
    replace hp := ba hp; obtain ⟨y4, hy4, hp⟩ := hp
    refine L_binV rfl rfl rfl (bv_shlP hy4) ?_
    refine s7 ?_
    replace hp := ba hp; obtain ⟨y5, hy5, hp⟩ := hp
    refine L_idxS rfl rfl rfl str9.h hy5 ?_
    refine s2 ?_
    refine kp [0, 4, 5, 29] ?_
    refine W_cond rfl (fun hc6 => ?_) (fun hc6 => ?_)
    · replace hp := cond_t hc6 hp
      refine s2 ?_
      replace hp := ba hp; obtain ⟨y7, hy7, hp⟩ := hp
      replace hp := ba hp; obtain ⟨y8, hy8, hp⟩ := hp
      refine W_D0 [36] mix (by kernel_rfl) rfl ?_
      refine s1 ?_
      refine D_callX GC.none fn123.h (OpVs.cons (OpV.t rfl) (OpVs.nil)) (by exact fun hg w F hF hM => i_Var_walk w (bits .or .i64 v1_0 y4)  _ hy7) ?_
      refine s3 ?_
      refine D_ssl GC.none (OpV.t rfl) optD.none (optD.some (OpV.t rfl)) str9.h (fun hg => hy8) ?_
      refine s10 ?_
      refine kp [4, 5, 36] ?_
      refine W_cond rfl (fun hc9 => ?_) (fun hc9 => ?_)
      · replace hp := cond_t hc9 hp
        refine s5 ?_
        replace hp := map_any hp; obtain ⟨a10, hp, hx_a10⟩ := hp
        obtain rfl := hx1 _ hx_a10
        obtain rfl := Option.some.inj hp
        refine s1 ?_
        refine res2 rfl (ResOK.tmp rfl) (ResOK.tmp rfl) ⟨0, 0, rfl, rfl, rfl⟩ ms
      · replace hp := cond_f hc9 hp
        refine s9 ?_
        replace hp := map_any hp; obtain ⟨a11, hp, hx_a11⟩ := hp
        obtain rfl := hx1 _ hx_a11
        obtain rfl := Option.some.inj hp
        refine s1 ?_
        refine res2 rfl (ResOK.tmp rfl) (ResOK.tmp rfl) ⟨bits .or .i64 v1_0 y4, IntKind.wrap .i64 (v1_1 + 1), rfl, rfl, rfl⟩ ms
    · replace hp := cond_f hc6 hp
      refine s6 ?_
      exact ⟨(bits .or .i64 v1_0 y4, IntKind.wrap .i64 (v1_1 + 1)), sb, (.sub ms), some_eq hp⟩
  · replace hp := cond_f hc2 hp
    refine W_exit ?_
    replace hp := map_any hp; obtain ⟨a12, hp, hx_a12⟩ := hp
    obtain rfl := hx1 _ hx_a12
    refine s5 ?_
    obtain rfl := Option.some.inj hp
    refine s1 ?_
    refine res2 rfl (ResOK.tmp rfl) (ResOK.tmp rfl) ⟨0, 0, rfl, rfl, rfl⟩ ms
noncomputable def i_scan_num (a0 : D_scan) : Option (Int × D_scan) :=
  Option.bind (i_ReadVar a0.1) (fun y1 => cond (a0.2 || (decide (y1.2 = 0))) (some (0, (a0.1, true))) (Option.bind (sslP a0.1 y1.2 (a0.1.size : Int)) (fun y3 => some (y1.1, (y3, a0.2)))))
theorem i_scan_num_walk (w : World) (b0_ : Nat) (a0 : T_scan)  (r : Int × D_scan) (hp : i_scan_num (GT.dat a0) = some r) : Spec Try.prog 158 [Value.pointer (some ⟨b0_, 0, none⟩)].toArray w [blk b0_ (GT.cells a0) 148] (fun v M => ∃ (x0 : Int) (y0 : T_scan), v = .int .i64 x0 ∧ (GT.dat x0, GT.dat y0) = r ∧ M = [blk b0_ (GT.cells y0) 148]) := by
  obtain ⟨a0_1, a0_2⟩ := a0
  change Spec _ _ ([Value.pointer (some ⟨b0_, 0, none⟩)] : List Value).toArray w _ _
  refine Spec.intro Try.func158 rfl Try.ntmps158 rfl ?_
  unfold i_scan_num at hp
  replace hp := dd hp
  refine s10 ?_
  replace hp := ba hp; obtain ⟨y1, hy1, hp⟩ := hp
  refine L_callR rfl fn174.h rfl (by exact fun w hw => i_ReadVar_walk w a0_1  _ hy1) ?_
  rintro _ _ ⟨y1x0, y1x1, rfl, rfl, rfl⟩
  refine sc ?_
  replace hp := dd hp
  refine s8 ?_
  refine W_D0 [20] mix (by kernel_rfl) rfl ?_
  refine s18 ?_
  refine kp [0, 3, 4, 20] ?_
  refine W_cond rfl (fun hc2 => ?_) (fun hc2 => ?_)
  · replace hp := cond_t hc2 hp
    refine s11 ?_
    obtain rfl := Option.some.inj hp
    refine s1 ?_
    refine res1 rfl (ResOK.tmp rfl) ⟨0, (a0_1, true), rfl, rfl, rfl⟩ ms
  · replace hp := cond_f hc2 hp
    refine s9 ?_
    replace hp := ba hp; obtain ⟨y3, hy3, hp⟩ := hp
    refine L_ssl rfl rfl rfl rfl str9.h hy3 ?_
    refine s9 ?_
    obtain rfl := Option.some.inj hp
    refine s1 ?_
    refine res1 rfl (ResOK.tmp rfl) ⟨y1x0, (y3, a0_2), rfl, rfl, rfl⟩ ms
noncomputable def i_scan_cut (a0 : D_scan) (a1 : Int) : Option (ByteArray × D_scan) :=
  gb (!a0.2) (i_within a1 0 (a0.1.size : Int)) (fun y1 => cond (a0.2 || (!y1)) (some (ByteArray.empty, (a0.1, true))) (Option.bind (sslP a0.1 0 a1) (fun y3 => Option.bind (sslP a0.1 a1 (a0.1.size : Int)) (fun y4 => some (y3, (y4, a0.2))))))
theorem i_scan_cut_walk (w : World) (b0_ : Nat) (a0 : T_scan) (a1 : Int)  (r : ByteArray × D_scan) (hp : i_scan_cut (GT.dat a0) a1 = some r) : Spec Try.prog 159 [Value.pointer (some ⟨b0_, 0, none⟩), .int .i64 a1].toArray w [blk b0_ (GT.cells a0) 148] (fun v M => ∃ (x0 : ByteArray) (y0 : T_scan), v = .string x0 ∧ (GT.dat x0, GT.dat y0) = r ∧ M = [blk b0_ (GT.cells y0) 148]) := by
  obtain ⟨a0_1, a0_2⟩ := a0
  change Spec _ _ ([Value.pointer (some ⟨b0_, 0, none⟩), .int .i64 a1] : List Value).toArray w _ _
  refine Spec.intro Try.func159 rfl Try.ntmps159 rfl ?_
  unfold i_scan_cut at hp
  replace hp := dd hp
  refine s6 ?_
  replace hp := gb_any hp; obtain ⟨y1, hy1, hp⟩ := hp
  refine W_D0 [19] mix (by kernel_rfl) rfl ?_
  refine s10 ?_
  refine D_lenT (GC.some rfl rfl) (OpV.s rfl) str9.h ?_
  refine D_callX (GC.some rfl rfl) fn73.h (OpVs.cons (OpV.s rfl) (OpVs.cons OpV.c (OpVs.cons (OpV.s rfl) (OpVs.nil)))) (by exact fun hg w F hF hM => i_within_walk w a1 0 (a0_1.size : Int)  _ (hy1 (gnot hg.2))) ?_
  refine s18 ?_
  refine kp [0, 1, 19] ?_
  refine W_cond rfl (fun hc2 => ?_) (fun hc2 => ?_)
  · replace hp := cond_t hc2 hp
    refine s11 ?_
    obtain rfl := Option.some.inj hp
    refine s1 ?_
    refine res1 rfl (ResOK.tmp rfl) ⟨ByteArray.empty, (a0_1, true), rfl, rfl, rfl⟩ ms
  · replace hp := cond_f hc2 hp
    refine s8 ?_
    replace hp := ba hp; obtain ⟨y3, hy3, hp⟩ := hp
    refine L_ssl rfl rfl rfl rfl str9.h hy3 ?_
    refine s10 ?_
    replace hp := ba hp; obtain ⟨y4, hy4, hp⟩ := hp
    refine L_ssl rfl rfl rfl rfl str9.h hy4 ?_
    refine s9 ?_
    obtain rfl := Option.some.inj hp
    refine s1 ?_
    refine res1 rfl (ResOK.tmp rfl) ⟨y3, (y4, a0_2), rfl, rfl, rfl⟩ ms
noncomputable def i_scan_text (a0 : D_scan) : Option (ByteArray × D_scan) :=
  Option.bind (i_scan_num (a0.1, a0.2)) (fun y1 => Option.bind (i_scan_cut (y1.2.1, y1.2.2) y1.1) (fun y2 => some (y2.1, (y2.2.1, y2.2.2))))
theorem i_scan_text_walk (w : World) (b0_ : Nat) (a0 : T_scan)  (r : ByteArray × D_scan) (hp : i_scan_text (GT.dat a0) = some r) : Spec Try.prog 121 [Value.pointer (some ⟨b0_, 0, none⟩)].toArray w [blk b0_ (GT.cells a0) 148] (fun v M => ∃ (x0 : ByteArray) (y0 : T_scan), v = .string x0 ∧ (GT.dat x0, GT.dat y0) = r ∧ M = [blk b0_ (GT.cells y0) 148]) := by
  obtain ⟨a0_1, a0_2⟩ := a0
  change Spec _ _ ([Value.pointer (some ⟨b0_, 0, none⟩)] : List Value).toArray w _ _
  refine Spec.intro Try.func121 rfl Try.ntmps121 rfl ?_
  unfold i_scan_text at hp
  replace hp := dd hp
  refine s7 ?_
  replace hp := ba hp; obtain ⟨y1, hy1, hp⟩ := hp
  refine L_callM [blk b0_ _ _] _ rfl fn158.h rfl pc (by exact fun w hw => i_scan_num_walk w b0_ (a0_1, a0_2)  _ hy1) ?_
  rintro _ _ ⟨y1x0, ⟨y1y0_1, y1y0_2⟩, rfl, rfl, rfl⟩
  refine sc ?_
  replace hp := dd hp
  refine s6 ?_
  replace hp := ba hp; obtain ⟨y2, hy2, hp⟩ := hp
  refine L_callM [blk b0_ _ _] _ rfl fn159.h rfl pc (by exact fun w hw => i_scan_cut_walk w b0_ (y1y0_1, y1y0_2) y1x0  _ hy2) ?_
  rintro _ _ ⟨y2x0, ⟨y2y0_1, y2y0_2⟩, rfl, rfl, rfl⟩
  refine sc ?_
  replace hp := dd hp
  refine s2 ?_
  obtain rfl := Option.some.inj hp
  refine s1 ?_
  refine res1 rfl (ResOK.tmp rfl) ⟨y2x0, (y2y0_1, y2y0_2), rfl, rfl, rfl⟩ ms
noncomputable def i_sized (a0 : ByteArray) : Option ByteArray :=
  Option.bind (i_Var (a0.size : Int)) (fun y1 => Option.bind (catP y1 a0) (fun y2 => some y2))
theorem i_sized_walk (w : World) (a0 : ByteArray)  (r : ByteArray) (hp : i_sized a0 = some r) : Spec Try.prog 66 [.string a0].toArray w [] (IsV (.string r)) := by
  refine Spec.intro Try.func66 rfl Try.ntmps66 rfl ?_
  unfold i_sized at hp
  replace hp := dd hp
  refine s8 ?_
  replace hp := ba hp; obtain ⟨y1, hy1, hp⟩ := hp
  refine L_callX rfl fn123.h rfl (by exact fun w hw => i_Var_walk w (a0.size : Int)  _ hy1) ?_
  refine s1 ?_
  replace hp := ba hp; obtain ⟨y2, hy2, hp⟩ := hp
  refine L_binV rfl rfl rfl (bv_saddP hy2) ?_
  refine s2 ?_
  obtain rfl := Option.some.inj hp
  refine s1 ?_
  refine res1 rfl (ResOK.tmp rfl) ⟨rfl, rfl⟩ ms
noncomputable def i_Crc (a0 : ByteArray) : Option Int :=
  whileP (fun s1 : Int × Int => cond (decide (s1.2 < (a0.size : Int))) (Option.bind (sidx a0 s1.2) (fun y3 => whileP (fun s4 : Int × Int => cond (decide (s4.2 < 8)) (cond (decide (bits .and .i64 s4.1 1 = 1)) (some (.inl ((bits .xor .i64 (s4.1 / 2 ^ (1 : Int).toNat) 2197175160, IntKind.wrap .i64 (s4.2 + 1))))) (some (.inl (((s4.1 / 2 ^ (1 : Int).toNat), IntKind.wrap .i64 (s4.2 + 1)))))) (Option.map .inr (some (.inl ((s4.1, IntKind.wrap .i64 (s1.2 + 1))))))) (bits .xor .i64 s1.1 (IntKind.wrap .i64 y3), 0))) (Option.map .inr (some (IntKind.wrap .i64 (4294967295 - s1.1))))) (4294967295, 0)
theorem i_Crc_walk (w : World) (a0 : ByteArray)  (r : Int) (hp : i_Crc a0 = some r) : Spec Try.prog 65 [.string a0].toArray w [] (IsV (.int .i64 r)) := by
  refine Spec.intro Try.func65 rfl Try.ntmps65 rfl ?_
  unfold i_Crc at hp
  replace hp := dd hp
  refine s14 ?_
  refine W_while (σ := Int × Int) GT.dat (fun ((v1_0, v1_1) : Int × Int) => [(3, .int .i64 v1_0), (4, .int .i64 v1_1)]) (fun ((v1_0, v1_1) : Int × Int) => []) [(0, _)] [] (4294967295, 0) hp sb ms ?_
  clear hp
  rintro ⟨v1_0, v1_1⟩ x1 hp hx1
  replace hp := dd hp
  refine kq [0, 3, 4] ?_
  refine s8 ?_
  refine kp [0, 3, 4, 9] ?_
  refine W_cond rfl (fun hc2 => ?_) (fun hc2 => ?_)
  · replace hp := cond_t hc2 hp
    refine s8 ?_
    replace hp := ba hp; obtain ⟨y3, hy3, hp⟩ := hp
    refine L_idxS rfl rfl rfl str9.h hy3 ?_
    refine L_convInt rfl rfl und3.h (by rw [und5.h]; rfl) ?_
    refine s8 ?_
    refine W_while (σ := Int × Int) GT.dat (fun ((v4_0, v4_1) : Int × Int) => [(3, .int .i64 v4_0), (18, .int .i64 v4_1)]) (fun ((v4_0, v4_1) : Int × Int) => []) [(0, _), (4, _)] [] (bits .xor .i64 v1_0 (IntKind.wrap .i64 y3), 0) hp sb ms ?_
    clear hp
    rintro ⟨v4_0, v4_1⟩ x4 hp hx4
    replace hp := dd hp
    refine kq [0, 3, 4, 18] ?_
    refine s5 ?_
    refine kp [0, 3, 4, 18, 19] ?_
    refine W_cond rfl (fun hc5 => ?_) (fun hc5 => ?_)
    · replace hp := cond_t hc5 hp
      refine s20 ?_
      refine kp [0, 3, 4, 18, 25] ?_
      refine W_cond rfl (fun hc6 => ?_) (fun hc6 => ?_)
      · replace hp := cond_t hc6 hp
        refine s9 ?_
        exact ⟨(bits .xor .i64 (v4_0 / 2 ^ (1 : Int).toNat) 2197175160, IntKind.wrap .i64 (v4_1 + 1)), sb, (.sub ms), some_eq hp⟩
      · replace hp := cond_f hc6 hp
        refine s5 ?_
        exact ⟨((v4_0 / 2 ^ (1 : Int).toNat), IntKind.wrap .i64 (v4_1 + 1)), sb, (.sub ms), some_eq hp⟩
    · replace hp := cond_f hc5 hp
      refine W_exit ?_
      replace hp := map_any hp; obtain ⟨a7, hp, hx_a7⟩ := hp
      obtain rfl := hx4 _ hx_a7
      refine s5 ?_
      exact ⟨(v4_0, IntKind.wrap .i64 (v1_1 + 1)), sb, (.sub ms), some_eq hp⟩
  · replace hp := cond_f hc2 hp
    refine W_exit ?_
    replace hp := map_any hp; obtain ⟨a8, hp, hx_a8⟩ := hp
    obtain rfl := hx1 _ hx_a8
    refine s6 ?_
    obtain rfl := Option.some.inj hp
    refine s1 ?_
    refine res1 rfl (ResOK.tmp rfl) ⟨rfl, rfl⟩ ms
noncomputable def i_Fixed (a0 : Int) (a1 : Int) : Option ByteArray :=
  Option.bind (i_within a1 1 7) (fun y1 => gb (!((!y1) || (decide (a0 < 0)))) (shlP .i64 1 (IntKind.wrap .i64 (8 * a1))) (fun y2 => cond (((!y1) || (decide (a0 < 0))) || (decide (y2 ≤ a0))) (some ByteArray.empty) (Option.bind (mkP 1 a1 (0 : UInt8)) (fun y4 => whileP (fun s6 : Int × (List UInt8) × Int => cond (decide (0 ≤ s6.2.2)) (Option.bind (idx s6.2.1 s6.2.2) (fun y8 => Option.bind (u8P (IntKind.wrap .u8 (bits .and .i64 s6.1 255))) (fun y9 => Option.bind (some (s6.2.1.set (s6.2.2.toNat) y9)) (fun y10 => some (.inl (((s6.1 / 2 ^ (8 : Int).toNat), y10, IntKind.wrap .i64 (s6.2.2 - 1)))))))) (Option.map .inr (some (strP s6.2.1)))) (a0, y4, IntKind.wrap .i64 (a1 - 1))))))
theorem i_Fixed_walk (w : World) (a0 : Int) (a1 : Int)  (r : ByteArray) (hp : i_Fixed a0 a1 = some r) : Spec Try.prog 64 [.int .i64 a0, .int .i64 a1].toArray w [] (IsV (.string r)) := by
  refine Spec.intro Try.func64 rfl Try.ntmps64 rfl ?_
  unfold i_Fixed at hp
  replace hp := dd hp
  refine s6 ?_
  replace hp := ba hp; obtain ⟨y1, hy1, hp⟩ := hp
  replace hp := gb_any hp; obtain ⟨y2, hy2, hp⟩ := hp
  refine W_D0 [20] mix (by kernel_rfl) rfl ?_
  refine s1 ?_
  refine D_callX GC.none fn73.h (OpVs.cons (OpV.t rfl) (OpVs.cons OpV.c (OpVs.cons OpV.c (OpVs.nil)))) (by exact fun hg w F hF hM => i_within_walk w a1 1 7  _ hy1) ?_
  refine s9 ?_
  refine D_bin (GC.some rfl rfl) OpV.c (OpV.s rfl) (fun hg => (bv_shlP (hy2 (gnot hg.2)))) ?_
  refine s18 ?_
  refine kp [0, 1, 20] ?_
  refine W_cond rfl (fun hc3 => ?_) (fun hc3 => ?_)
  · replace hp := cond_t hc3 hp
    refine s4 ?_
    obtain rfl := Option.some.inj hp
    refine s1 ?_
    refine res1 rfl (ResOK.tmp rfl) ⟨rfl, rfl⟩ ms
  · replace hp := cond_f hc3 hp
    refine s4 ?_
    replace hp := ba hp; obtain ⟨y4, hy4, hp⟩ := hp
    refine L_mkP (0 : UInt8) rfl rfl rfl el22.h rfl rfl (FlatT.flat _) hy4 (fun X5 hdX5 => ?_)
    subst hdX5
    refine s10 ?_
    refine W_while (σ := Int × (TL UInt8) × Int) GT.dat (fun ((v6_0, v6_1, v6_2) : Int × (TL UInt8) × Int) => [(0, .int .i64 v6_0), (5, (TL.hdr v6_1)), (6, .int .i64 v6_2)]) (fun ((v6_0, v6_1, v6_2) : Int × (TL UInt8) × Int) => [treeH v6_1]) [] [] (a0, X5, IntKind.wrap .i64 (a1 - 1)) hp sb ms ?_
    clear hp
    rintro ⟨v6_0, v6_1, v6_2⟩ x6 hp hx6
    replace hp := dd hp
    refine kq [0, 5, 6] ?_
    refine s6 ?_
    refine kp [0, 5, 6, 26] ?_
    refine W_cond rfl (fun hc7 => ?_) (fun hc7 => ?_)
    · replace hp := cond_t hc7 hp
      refine s9 ?_
      refine L_convInt rfl rfl und5.h (by rw [und3.h]; rfl) ?_
      replace hp := idx_bind hp; obtain ⟨u8, hy8, hp⟩ := hp
      refine L_idxA (X := v6_1) rfl rfl rfl el22.h (RdT.tree mm) hy8 ?_
      replace hp := ba hp; obtain ⟨y9, hy9, hp⟩ := hp
      have ey9 := u8P_some hy9
      try simp only [dat_u8] at ey9
      try simp only [ey9]
      refine L_conv (M' := treeH u8 :: holeH v6_1 (v6_2.toNat) (GT.cells u8) :: _) (fun w h => hole_open hy8.2 pk h) ?_
      refine L_stH (X := v6_1) (i := v6_2.toNat) (sz := 1) (fo := 0) (n := 1) rfl rfl pk rfl (.inr ⟨one5.h, rfl⟩) rfl (allOne rfl) (Nat.le_of_ble_eq_true rfl) ?_
      refine L_conv (M' := treeH (y9 : UInt8) :: _) (fun w h => addF (y9 : UInt8) h) ?_
      replace hp := ba hp; obtain ⟨y10, hy10, hp⟩ := hp
      refine L_close (X := v6_1) (y9 : UInt8) rfl pk pk hy10 (fun X11 hdX11 hhX11 => ?_)
      subst hdX11
      try rw [← hhX11]
      try rw [← g_of_hdr hhX11]
      try rw [← o_of_hdr hhX11]
      refine s11 ?_
      exact ⟨((v6_0 / 2 ^ (8 : Int).toNat), X11, IntKind.wrap .i64 (v6_2 - 1)), sb, (.sub ms), some_eq hp⟩
    · replace hp := cond_f hc7 hp
      refine W_exit ?_
      replace hp := map_any hp; obtain ⟨a12, hp, hx_a12⟩ := hp
      obtain rfl := hx6 _ hx_a12
      refine s3 ?_
      refine L_toStr (X := v6_1) rfl rfl und22.h und5.h und9.h (RdT.tree mm) ?_
      refine s2 ?_
      obtain rfl := Option.some.inj hp
      refine s1 ?_
      refine res1 rfl (ResOK.tmp rfl) ⟨rfl, rfl⟩ ms
noncomputable def i_Frame (a0 : ByteArray) : Option ByteArray :=
  cond (decide (200 < (a0.size : Int))) (some ByteArray.empty) (Option.bind (i_sized a0) (fun y2 => Option.bind (i_Crc y2) (fun y3 => Option.bind (i_Fixed y3 4) (fun y4 => Option.bind (i_sized a0) (fun y5 => Option.bind (catP y4 y5) (fun y6 => some y6))))))
theorem i_Frame_walk (w : World) (a0 : ByteArray)  (r : ByteArray) (hp : i_Frame a0 = some r) : Spec Try.prog 14 [.string a0].toArray w [] (IsV (.string r)) := by
  refine Spec.intro Try.func14 rfl Try.ntmps14 rfl ?_
  unfold i_Frame at hp
  replace hp := dd hp
  refine s11 ?_
  refine kp [0, 5] ?_
  refine W_cond rfl (fun hc1 => ?_) (fun hc1 => ?_)
  · replace hp := cond_t hc1 hp
    refine s4 ?_
    obtain rfl := Option.some.inj hp
    refine s1 ?_
    refine res1 rfl (ResOK.tmp rfl) ⟨rfl, rfl⟩ ms
  · replace hp := cond_f hc1 hp
    refine s4 ?_
    replace hp := ba hp; obtain ⟨y2, hy2, hp⟩ := hp
    refine L_callX rfl fn66.h rfl (by exact fun w hw => i_sized_walk w a0  _ hy2) ?_
    replace hp := ba hp; obtain ⟨y3, hy3, hp⟩ := hp
    refine L_callX rfl fn65.h rfl (by exact fun w hw => i_Crc_walk w y2  _ hy3) ?_
    replace hp := ba hp; obtain ⟨y4, hy4, hp⟩ := hp
    refine L_callX rfl fn64.h rfl (by exact fun w hw => i_Fixed_walk w y3 4  _ hy4) ?_
    refine s1 ?_
    replace hp := ba hp; obtain ⟨y5, hy5, hp⟩ := hp
    refine L_callX rfl fn66.h rfl (by exact fun w hw => i_sized_walk w a0  _ hy5) ?_
    replace hp := ba hp; obtain ⟨y6, hy6, hp⟩ := hp
    refine L_binV rfl rfl rfl (bv_saddP hy6) ?_
    refine s2 ?_
    obtain rfl := Option.some.inj hp
    refine s1 ?_
    refine res1 rfl (ResOK.tmp rfl) ⟨rfl, rfl⟩ ms
noncomputable def i_frameAt (a0 : ByteArray) : Option (ByteArray × Bool) :=
  cond (decide ((a0.size : Int) < 5)) (some (ByteArray.empty, false)) (Option.bind (sslP a0 4 (a0.size : Int)) (fun y2 => Option.bind (i_scan_text (y2, false)) (fun y3 => Option.bind (i_Frame y3.1) (fun y4 => gb (!((y3.2.2 || (decide (y4 = ByteArray.empty))) || (decide ((a0.size : Int) < (y4.size : Int))))) (sslP a0 0 (y4.size : Int)) (fun y5 => cond (((y3.2.2 || (decide (y4 = ByteArray.empty))) || (decide ((a0.size : Int) < (y4.size : Int)))) || (!decide (y5 = y4))) (some (ByteArray.empty, false)) (some (y3.1, true)))))))
theorem i_frameAt_walk (w : World) (a0 : ByteArray)  (r : ByteArray × Bool) (hp : i_frameAt a0 = some r) : Spec Try.prog 62 [.string a0].toArray w [] (fun v M => ∃ (x0 : ByteArray) (x1 : Bool), v = .tuple #[.string x0, .bool x1] ∧ (GT.dat x0, GT.dat x1) = r ∧ M = []) := by
  refine Spec.intro Try.func62 rfl Try.ntmps62 rfl ?_
  unfold i_frameAt at hp
  replace hp := dd hp
  refine s12 ?_
  refine kp [0, 9] ?_
  refine W_cond rfl (fun hc1 => ?_) (fun hc1 => ?_)
  · replace hp := cond_t hc1 hp
    refine s5 ?_
    obtain rfl := Option.some.inj hp
    refine s1 ?_
    refine res2 rfl (ResOK.tmp rfl) (ResOK.tmp rfl) ⟨ByteArray.empty, false, rfl, rfl, rfl⟩ ms
  · replace hp := cond_f hc1 hp
    refine s4 ?_
    replace hp := ba hp; obtain ⟨y2, hy2, hp⟩ := hp
    refine L_ssl rfl rfl rfl rfl str9.h hy2 ?_
    refine L_build (xs := [(0, .tmp 11)]) (cs := [.string y2, .bool false]) rfl rfl bld148.h rfl ?_
    refine bx fun bk13 => ?_
    refine s5 ?_
    replace hp := ba hp; obtain ⟨y3, hy3, hp⟩ := hp
    refine L_callM [blk bk13 _ _] _ rfl fn121.h rfl pc (by exact fun w hw => i_scan_text_walk w bk13 (y2, false)  _ hy3) ?_
    rintro _ _ ⟨y3x0, ⟨y3y0_1, y3y0_2⟩, rfl, rfl, rfl⟩
    refine sc ?_
    replace hp := dd hp
    refine s5 ?_
    replace hp := ba hp; obtain ⟨y4, hy4, hp⟩ := hp
    refine L_callX rfl fn14.h rfl (by exact fun w hw => i_Frame_walk w y3x0  _ hy4) ?_
    refine s4 ?_
    replace hp := gb_any hp; obtain ⟨y5, hy5, hp⟩ := hp
    refine W_D0 [40] mix (by kernel_rfl) rfl ?_
    refine s10 ?_
    refine D_lenT (GC.some rfl rfl) (OpV.s rfl) str9.h ?_
    refine s1 ?_
    refine D_lenT (GC.some rfl rfl) (OpV.s rfl) str9.h ?_
    refine s5 ?_
    refine D_lenT (GC.some rfl rfl) (OpV.s rfl) str9.h ?_
    refine D_ssl (GC.some rfl rfl) (OpV.s rfl) optD.none (optD.some (OpV.s rfl)) str9.h (fun hg => (hy5 (gnot hg.2))) ?_
    refine s20 ?_
    refine s8 ?_
    refine kp [5, 40] ?_
    refine W_cond rfl (fun hc6 => ?_) (fun hc6 => ?_)
    · replace hp := cond_t hc6 hp
      refine s5 ?_
      obtain rfl := Option.some.inj hp
      refine s1 ?_
      refine res2 rfl (ResOK.tmp rfl) (ResOK.tmp rfl) ⟨ByteArray.empty, false, rfl, rfl, rfl⟩ ms
    · replace hp := cond_f hc6 hp
      refine s7 ?_
      obtain rfl := Option.some.inj hp
      refine s1 ?_
      refine res2 rfl (ResOK.tmp rfl) (ResOK.tmp rfl) ⟨y3x0, true, rfl, rfl, rfl⟩ ms
noncomputable def i_Unframe (a0 : ByteArray) : Option ((List ByteArray) × Int) :=
  Option.bind (some ([] : List ByteArray)) (fun y2 => whileP (fun s3 : (List ByteArray) × Int => Option.bind (sslP a0 s3.2 (a0.size : Int)) (fun y4 => Option.bind (i_frameAt y4) (fun y5 => cond (!y5.2) (Option.map .inr (some (s3.1, s3.2))) (Option.bind (appP s3.1 [y5.1]) (fun y9 => Option.bind (i_Frame y5.1) (fun y10 => some (.inl ((y9, IntKind.wrap .i64 (s3.2 + (y10.size : Int))))))))))) (y2, 0))
theorem i_Unframe_walk (w : World) (a0 : ByteArray)  (r : (List ByteArray) × Int) (hp : i_Unframe a0 = some r) : Spec Try.prog 11 [.string a0].toArray w [] (fun v M => ∃ (x0 : TL ByteArray) (x1 : Int), v = .tuple #[(TL.hdr x0), .int .i64 x1] ∧ (GT.dat x0, GT.dat x1) = r ∧ M = [treeH x0]) := by
  refine Spec.intro Try.func11 rfl Try.ntmps11 rfl ?_
  unfold i_Unframe at hp
  replace hp := dd hp
  refine s2 ?_
  refine L_assign (v := (TL.hdr (TL.nil ByteArray 0))) rfl rfl ?_
  refine s4 ?_
  replace hp := ba hp; obtain ⟨y2, hy2, hp⟩ := hp
  refine L_mk0 ByteArray rfl el25.h (fun X1 hdX1 => ?_)
  obtain rfl : GT.dat X1 = y2 := hdX1.trans (Option.some.inj hy2)
  clear hy2 hdX1
  refine s7 ?_
  refine W_while (σ := (TL ByteArray) × Int) GT.dat (fun ((v3_0, v3_1) : (TL ByteArray) × Int) => [(4, (TL.hdr v3_0)), (5, .int .i64 v3_1)]) (fun ((v3_0, v3_1) : (TL ByteArray) × Int) => [treeH v3_0]) [(0, _)] [] (X1, 0) hp sb ms ?_
  clear hp
  rintro ⟨v3_0, v3_1⟩ x3 hp hx3
  replace hp := dd hp
  refine kq [0, 4, 5] ?_
  refine s5 ?_
  replace hp := ba hp; obtain ⟨y4, hy4, hp⟩ := hp
  refine L_ssl rfl rfl rfl rfl str9.h hy4 ?_
  replace hp := ba hp; obtain ⟨y5, hy5, hp⟩ := hp
  refine L_callR rfl fn62.h rfl (by exact fun w hw => i_frameAt_walk w y4  _ hy5) ?_
  rintro _ _ ⟨y5x0, y5x1, rfl, rfl, rfl⟩
  refine sc ?_
  replace hp := dd hp
  refine s12 ?_
  refine kp [0, 4, 5, 6, 17] ?_
  refine W_cond rfl (fun hc6 => ?_) (fun hc6 => ?_)
  · replace hp := cond_t hc6 hp
    refine s7 ?_
    replace hp := map_any hp; obtain ⟨a7, hp, hx_a7⟩ := hp
    obtain rfl := hx3 _ hx_a7
    obtain rfl := Option.some.inj hp
    refine s1 ?_
    refine res2 rfl (ResOK.tmp rfl) (ResOK.tmp rfl) ⟨v3_0, v3_1, rfl, rfl, rfl⟩ ms
  · replace hp := cond_f hc6 hp
    refine s5 ?_
    refine L_buildSlice1 rfl rfl el25.h rfl (by decide) (by decide) rfl (fun bb22 => ?_)
    replace hp := ba hp; obtain ⟨y9, hy9, hp⟩ := hp
    refine L_app1F (X := v3_0) (y5x0 : ByteArray) rfl rfl rfl el25.h rfl rfl pk mm  hy9 (by decide) (fun X8 hdX8 => ?_)
    subst hdX8
    refine s5 ?_
    replace hp := ba hp; obtain ⟨y10, hy10, hp⟩ := hp
    refine L_callX rfl fn14.h rfl (by exact fun w hw => i_Frame_walk w y5x0  _ hy10) ?_
    refine s4 ?_
    exact ⟨(X8, IntKind.wrap .i64 (v3_1 + (y10.size : Int))), sb, (.sub ms), some_eq hp⟩
noncomputable def s_ReadVar (a0 : ByteArray) : Option (Int × Int) :=
  whileP (fun s1 : Int => cond ((decide (s1 ≤ 7)) && (decide (s1 ≤ (a0.size : Int)))) (whileP (fun s3 : Int × Int => cond (decide (0 ≤ s3.2)) (Option.bind (sidx a0 s3.2) (fun y5 => some (.inl ((IntKind.wrap .i64 (IntKind.wrap .i64 (s3.1 * 128) + (IntKind.wrap .i64 y5).tmod 128), IntKind.wrap .i64 (s3.2 - 1)))))) (Option.map .inr (Option.bind (s_Var s3.1) (fun y7 => Option.bind (sslP a0 0 s1) (fun y8 => cond (decide (y7 = y8)) (Option.map .inr (some (s3.1, s1))) (some (.inl (IntKind.wrap .i64 (s1 + 1))))))))) (0, IntKind.wrap .i64 (s1 - 1))) (Option.map .inr (some (0, 0)))) 1
theorem s_ReadVar_walk (w : World) (a0 : ByteArray)  (r : Int × Int) (hp : s_ReadVar a0 = some r) : Spec Try.prog 160 [.string a0].toArray w [] (fun v M => ∃ (x0 : Int) (x1 : Int), v = .tuple #[.int .i64 x0, .int .i64 x1] ∧ (GT.dat x0, GT.dat x1) = r ∧ M = []) := by
  refine Spec.intro Try.func160 rfl Try.ntmps160 rfl ?_
  unfold s_ReadVar at hp
  replace hp := dd hp
  refine s11 ?_
  refine W_while (σ := Int) GT.dat (fun (v1_0 : Int) => [(4, .int .i64 v1_0)]) (fun (v1_0 : Int) => []) [(0, _)] [] 1 hp sb ms ?_
  clear hp
  rintro v1_0 x1 hp hx1
  replace hp := dd hp
  refine kq [0, 4] ?_
  refine s2 ?_
  refine W_D0 [14] mix (by kernel_rfl) rfl ?_
  refine s5 ?_
  refine D_lenT (GC.some rfl rfl) (OpV.s rfl) str9.h ?_
  refine s12 ?_
  refine kp [0, 4, 14] ?_
  refine W_cond rfl (fun hc2 => ?_) (fun hc2 => ?_)
  · replace hp := cond_t hc2 hp
    refine s15 ?_
    refine W_while (σ := Int × Int) GT.dat (fun ((v3_0, v3_1) : Int × Int) => [(5, .int .i64 v3_0), (6, .int .i64 v3_1)]) (fun ((v3_0, v3_1) : Int × Int) => []) [(0, _), (4, _)] [] (0, IntKind.wrap .i64 (v1_0 - 1)) hp sb ms ?_
    clear hp
    rintro ⟨v3_0, v3_1⟩ x3 hp hx3
    replace hp := dd hp
    refine kq [0, 4, 5, 6] ?_
    refine s6 ?_
    refine kp [0, 4, 5, 6, 20] ?_
    refine W_cond rfl (fun hc4 => ?_) (fun hc4 => ?_)
    · replace hp := cond_t hc4 hp
      refine s8 ?_
      replace hp := ba hp; obtain ⟨y5, hy5, hp⟩ := hp
      refine L_idxS rfl rfl rfl str9.h hy5 ?_
      refine L_convInt rfl rfl und3.h (by rw [und5.h]; rfl) ?_
      refine s9 ?_
      exact ⟨(IntKind.wrap .i64 (IntKind.wrap .i64 (v3_0 * 128) + (IntKind.wrap .i64 y5).tmod 128), IntKind.wrap .i64 (v3_1 - 1)), sb, (.sub ms), some_eq hp⟩
    · replace hp := cond_f hc4 hp
      refine W_exit ?_
      replace hp := map_any hp; obtain ⟨a6, hp, hx_a6⟩ := hp
      obtain rfl := hx3 _ hx_a6
      refine s1 ?_
      replace hp := ba hp; obtain ⟨y7, hy7, hp⟩ := hp
      replace hp := ba hp; obtain ⟨y8, hy8, hp⟩ := hp
      refine W_D0 [36] mix (by kernel_rfl) rfl ?_
      refine s1 ?_
      refine D_callX GC.none fn124.h (OpVs.cons (OpV.t rfl) (OpVs.nil)) (by exact fun hg w F hF hM => s_Var_walk w v3_0  _ hy7) ?_
      refine s2 ?_
      refine D_ssl GC.none (OpV.t rfl) optD.none (optD.some (OpV.t rfl)) str9.h (fun hg => hy8) ?_
      refine s9 ?_
      refine kp [0, 4, 5, 36] ?_
      refine W_cond rfl (fun hc9 => ?_) (fun hc9 => ?_)
      · replace hp := cond_t hc9 hp
        refine s7 ?_
        replace hp := map_any hp; obtain ⟨a10, hp, hx_a10⟩ := hp
        obtain rfl := hx1 _ hx_a10
        obtain rfl := Option.some.inj hp
        refine s1 ?_
        refine res2 rfl (ResOK.tmp rfl) (ResOK.tmp rfl) ⟨v3_0, v1_0, rfl, rfl, rfl⟩ ms
      · replace hp := cond_f hc9 hp
        refine s6 ?_
        exact ⟨IntKind.wrap .i64 (v1_0 + 1), sb, (.sub ms), some_eq hp⟩
  · replace hp := cond_f hc2 hp
    refine W_exit ?_
    replace hp := map_any hp; obtain ⟨a11, hp, hx_a11⟩ := hp
    obtain rfl := hx1 _ hx_a11
    refine s5 ?_
    obtain rfl := Option.some.inj hp
    refine s1 ?_
    refine res2 rfl (ResOK.tmp rfl) (ResOK.tmp rfl) ⟨0, 0, rfl, rfl, rfl⟩ ms
noncomputable def s_l4Vars (a0 : ByteArray) (a1 : Int) (a2 : Int) : Option ((List Int) × Int) :=
  Option.bind (some ([] : List Int)) (fun y2 => whileP (fun s3 : Int × (List Int) × Int => cond (decide (s3.2.2 < a2)) (cond ((decide (s3.1 < 0)) || (decide ((a0.size : Int) < s3.1))) (Option.map .inr (some (s3.2.1, (-1)))) (Option.bind (sslP a0 s3.1 (a0.size : Int)) (fun y7 => Option.bind (s_ReadVar y7) (fun y8 => cond (decide (y8.2 = 0)) (Option.map .inr (some (s3.2.1, (-1)))) (Option.bind (appP s3.2.1 [y8.1]) (fun y12 => some (.inl ((IntKind.wrap .i64 (s3.1 + y8.2), y12, IntKind.wrap .i64 (s3.2.2 + 1)))))))))) (Option.map .inr (some (s3.2.1, s3.1)))) (a1, y2, 0))
theorem s_l4Vars_walk (w : World) (a0 : ByteArray) (a1 : Int) (a2 : Int)  (r : (List Int) × Int) (hp : s_l4Vars a0 a1 a2 = some r) : Spec Try.prog 122 [.string a0, .int .i64 a1, .int .i64 a2].toArray w [] (fun v M => ∃ (x0 : TL Int) (x1 : Int), v = .tuple #[(TL.hdr x0), .int .i64 x1] ∧ (GT.dat x0, GT.dat x1) = r ∧ M = [treeH x0]) := by
  refine Spec.intro Try.func122 rfl Try.ntmps122 rfl ?_
  unfold s_l4Vars at hp
  replace hp := dd hp
  refine s2 ?_
  refine L_assign (v := (TL.hdr (TL.nil Int 0))) rfl rfl ?_
  refine s4 ?_
  replace hp := ba hp; obtain ⟨y2, hy2, hp⟩ := hp
  refine L_mk0 Int rfl el34.h (fun X1 hdX1 => ?_)
  obtain rfl : GT.dat X1 = y2 := hdX1.trans (Option.some.inj hy2)
  clear hy2 hdX1
  refine s8 ?_
  refine W_while (σ := Int × (TL Int) × Int) GT.dat (fun ((v3_0, v3_1, v3_2) : Int × (TL Int) × Int) => [(1, .int .i64 v3_0), (8, (TL.hdr v3_1)), (9, .int .i64 v3_2)]) (fun ((v3_0, v3_1, v3_2) : Int × (TL Int) × Int) => [treeH v3_1]) [(0, _), (2, _)] [] (a1, X1, 0) hp sb ms ?_
  clear hp
  rintro ⟨v3_0, v3_1, v3_2⟩ x3 hp hx3
  replace hp := dd hp
  refine kq [0, 1, 2, 8, 9] ?_
  refine s7 ?_
  refine kp [0, 1, 2, 8, 9, 15] ?_
  refine W_cond rfl (fun hc4 => ?_) (fun hc4 => ?_)
  · replace hp := cond_t hc4 hp
    refine s5 ?_
    refine W_D0 [25] mix (by kernel_rfl) rfl ?_
    refine s5 ?_
    refine D_lenT (GC.some rfl rfl) (OpV.s rfl) str9.h ?_
    refine s12 ?_
    refine kp [0, 1, 2, 8, 9, 25] ?_
    refine W_cond rfl (fun hc5 => ?_) (fun hc5 => ?_)
    · replace hp := cond_t hc5 hp
      refine s6 ?_
      replace hp := map_any hp; obtain ⟨a6, hp, hx_a6⟩ := hp
      obtain rfl := hx3 _ hx_a6
      obtain rfl := Option.some.inj hp
      refine s1 ?_
      refine res2 rfl (ResOK.tmp rfl) (ResOK.tmp rfl) ⟨v3_1, (-1), rfl, rfl, rfl⟩ ms
    · replace hp := cond_f hc5 hp
      refine s5 ?_
      replace hp := ba hp; obtain ⟨y7, hy7, hp⟩ := hp
      refine L_ssl rfl rfl rfl rfl str9.h hy7 ?_
      replace hp := ba hp; obtain ⟨y8, hy8, hp⟩ := hp
      refine L_callR rfl fn160.h rfl (by exact fun w hw => s_ReadVar_walk w y7  _ hy8) ?_
      rintro _ _ ⟨y8x0, y8x1, rfl, rfl, rfl⟩
      refine sc ?_
      replace hp := dd hp
      refine s12 ?_
      refine kp [0, 1, 2, 8, 9, 10, 11, 35] ?_
      refine W_cond rfl (fun hc9 => ?_) (fun hc9 => ?_)
      · replace hp := cond_t hc9 hp
        refine s6 ?_
        replace hp := map_any hp; obtain ⟨a10, hp, hx_a10⟩ := hp
        obtain rfl := hx3 _ hx_a10
        obtain rfl := Option.some.inj hp
        refine s1 ?_
        refine res2 rfl (ResOK.tmp rfl) (ResOK.tmp rfl) ⟨v3_1, (-1), rfl, rfl, rfl⟩ ms
      · replace hp := cond_f hc9 hp
        refine s5 ?_
        refine L_buildSlice1 rfl rfl el34.h rfl (by decide) (by decide) rfl (fun bb39 => ?_)
        replace hp := ba hp; obtain ⟨y12, hy12, hp⟩ := hp
        refine L_app1F (X := v3_1) (y8x0 : Int) rfl rfl rfl el34.h rfl rfl pk mm  hy12 (by decide) (fun X11 hdX11 => ?_)
        subst hdX11
        refine s13 ?_
        exact ⟨(IntKind.wrap .i64 (v3_0 + y8x1), X11, IntKind.wrap .i64 (v3_2 + 1)), sb, (.sub ms), some_eq hp⟩
  · replace hp := cond_f hc4 hp
    refine W_exit ?_
    replace hp := map_any hp; obtain ⟨a13, hp, hx_a13⟩ := hp
    obtain rfl := hx3 _ hx_a13
    refine s7 ?_
    obtain rfl := Option.some.inj hp
    refine s1 ?_
    refine res2 rfl (ResOK.tmp rfl) (ResOK.tmp rfl) ⟨v3_1, v3_0, rfl, rfl, rfl⟩ ms
noncomputable def s_l4Take (a0 : ByteArray) (a1 : Int) : Option (ByteArray × Int) :=
  Option.bind (s_l4Vars a0 a1 1) (fun y1 => gb (!(decide (y1.2 < 0))) (idx y1.1 0) (fun y2 => cond ((decide (y1.2 < 0)) || (decide (IntKind.wrap .i64 ((a0.size : Int) - y1.2) < y2))) (some (ByteArray.empty, (-1))) (Option.bind (idx y1.1 0) (fun y4 => Option.bind (sslP a0 y1.2 (IntKind.wrap .i64 (y1.2 + y4))) (fun y5 => Option.bind (idx y1.1 0) (fun y6 => some (y5, IntKind.wrap .i64 (y1.2 + y6))))))))
theorem s_l4Take_walk (w : World) (a0 : ByteArray) (a1 : Int)  (r : ByteArray × Int) (hp : s_l4Take a0 a1 = some r) : Spec Try.prog 63 [.string a0, .int .i64 a1].toArray w [] (fun v M => ∃ (x0 : ByteArray) (x1 : Int), v = .tuple #[.string x0, .int .i64 x1] ∧ (GT.dat x0, GT.dat x1) = r ∧ M = []) := by
  refine Spec.intro Try.func63 rfl Try.ntmps63 rfl ?_
  unfold s_l4Take at hp
  replace hp := dd hp
  refine s9 ?_
  replace hp := ba hp; obtain ⟨y1, hy1, hp⟩ := hp
  refine L_callR rfl fn122.h rfl (by exact fun w hw => s_l4Vars_walk w a0 a1 1  _ hy1) ?_
  rintro _ _ ⟨y1x0, y1x1, rfl, rfl, rfl⟩
  refine sc ?_
  replace hp := dd hp
  refine s8 ?_
  replace hp := idx_gb hp; obtain ⟨u2, hy2, hp⟩ := hp
  refine W_D0 [25] mix (by kernel_rfl) rfl ?_
  refine s4 ?_
  refine D_idxA (X := y1x0) (GC.some rfl rfl) (OpV.s rfl) OpV.c el34.h (RdT.tree mm) (fun hg => hy2 (gnot hg.2)) ?_
  refine D_load0 (GC.some rfl rfl) (OpV.s rfl) (fun hg => RdT.at (RdT.tree mm) (hy2 (gnot hg.2)).2) one3.h rfl ?_
  refine s1 ?_
  refine D_lenT (GC.some rfl rfl) (OpV.s rfl) str9.h ?_
  refine s18 ?_
  refine kp [0, 6, 7, 25] ?_
  refine W_cond rfl (fun hc3 => ?_) (fun hc3 => ?_)
  · replace hp := cond_t hc3 hp
    refine s5 ?_
    obtain rfl := Option.some.inj hp
    refine s1 ?_
    refine res2 rfl (ResOK.tmp rfl) (ResOK.tmp rfl) ⟨ByteArray.empty, (-1), rfl, rfl, rfl⟩ ms
  · replace hp := cond_f hc3 hp
    refine s2 ?_
    replace hp := idx_bind hp; obtain ⟨u4, hy4, hp⟩ := hp
    replace hp := ba hp; obtain ⟨y5, hy5, hp⟩ := hp
    replace hp := idx_bind hp; obtain ⟨u6, hy6, hp⟩ := hp
    obtain rfl : u4 = u6 := Option.some.inj (hy4.2.symm.trans hy6.2)
    refine W_D0 [4, 5] mix (by kernel_rfl) rfl ?_
    refine s4 ?_
    refine D_idxA (X := y1x0) GC.none (OpV.t rfl) OpV.c el34.h (RdT.tree mm) (fun _ => hy4) ?_
    refine D_load0 GC.none (OpV.t rfl) (fun hg => RdT.at (RdT.tree mm) (hy4).2) one3.h rfl ?_
    refine s1 ?_
    refine D_ssl GC.none (OpV.t rfl) (optD.some (OpV.t rfl)) (optD.some (OpV.t rfl)) str9.h (fun hg => hy5) ?_
    refine s2 ?_
    refine D_idxA (X := y1x0) GC.none (OpV.t rfl) OpV.c el34.h (RdT.tree mm) (fun _ => hy4) ?_
    refine D_load0 GC.none (OpV.t rfl) (fun hg => RdT.at (RdT.tree mm) (hy4).2) one3.h rfl ?_
    refine s20 ?_
    obtain rfl := Option.some.inj hp
    refine s1 ?_
    refine res2 rfl (ResOK.tmp rfl) (ResOK.tmp rfl) ⟨y5, IntKind.wrap .i64 (y1x1 + u4), rfl, rfl, rfl⟩ ms
noncomputable def s_Unframe (a0 : ByteArray) : Option ((List ByteArray) × Int) :=
  Option.bind (some ([] : List ByteArray)) (fun y2 => whileP (fun s3 : (List ByteArray) × Int => Option.bind (s_l4Take a0 (IntKind.wrap .i64 (s3.2 + 4))) (fun y4 => gb (!(decide (y4.2 < 0))) (s_Frame y4.1) (fun y5 => gb (!((decide (y4.2 < 0)) || (decide (y5 = ByteArray.empty)))) (s_Frame y4.1) (fun y6 => gb (!((decide (y4.2 < 0)) || (decide (y5 = ByteArray.empty)))) (sslP a0 s3.2 y4.2) (fun y7 => cond (((decide (y4.2 < 0)) || (decide (y5 = ByteArray.empty))) || (!decide (y6 = y7))) (Option.map .inr (some (s3.1, s3.2))) (Option.bind (appP s3.1 [y4.1]) (fun y11 => some (.inl ((y11, y4.2)))))))))) (y2, 0))
theorem s_Unframe_walk (w : World) (a0 : ByteArray)  (r : (List ByteArray) × Int) (hp : s_Unframe a0 = some r) : Spec Try.prog 12 [.string a0].toArray w [] (fun v M => ∃ (x0 : TL ByteArray) (x1 : Int), v = .tuple #[(TL.hdr x0), .int .i64 x1] ∧ (GT.dat x0, GT.dat x1) = r ∧ M = [treeH x0]) := by
  refine Spec.intro Try.func12 rfl Try.ntmps12 rfl ?_
  unfold s_Unframe at hp
  replace hp := dd hp
  refine s2 ?_
  refine L_assign (v := (TL.hdr (TL.nil ByteArray 0))) rfl rfl ?_
  refine s4 ?_
  replace hp := ba hp; obtain ⟨y2, hy2, hp⟩ := hp
  refine L_mk0 ByteArray rfl el25.h (fun X1 hdX1 => ?_)
  obtain rfl : GT.dat X1 = y2 := hdX1.trans (Option.some.inj hy2)
  clear hy2 hdX1
  refine s7 ?_
  refine W_while (σ := (TL ByteArray) × Int) GT.dat (fun ((v3_0, v3_1) : (TL ByteArray) × Int) => [(4, (TL.hdr v3_0)), (5, .int .i64 v3_1)]) (fun ((v3_0, v3_1) : (TL ByteArray) × Int) => [treeH v3_0]) [(0, _)] [] (X1, 0) hp sb ms ?_
  clear hp
  rintro ⟨v3_0, v3_1⟩ x3 hp hx3
  replace hp := dd hp
  refine kq [0, 4, 5] ?_
  refine s6 ?_
  replace hp := ba hp; obtain ⟨y4, hy4, hp⟩ := hp
  refine L_callR rfl fn63.h rfl (by exact fun w hw => s_l4Take_walk w a0 (IntKind.wrap .i64 (v3_1 + 4))  _ hy4) ?_
  rintro _ _ ⟨y4x0, y4x1, rfl, rfl, rfl⟩
  refine sc ?_
  replace hp := dd hp
  refine s8 ?_
  replace hp := gb_any hp; obtain ⟨y5, hy5, hp⟩ := hp
  replace hp := gb_any hp; obtain ⟨y6, hy6, hp⟩ := hp
  replace hp := gb_any hp; obtain ⟨y7, hy7, hp⟩ := hp
  refine W_D0 [31] mix (by kernel_rfl) rfl ?_
  refine s4 ?_
  refine D_callX (GC.some rfl rfl) fn16.h (OpVs.cons (OpV.s rfl) (OpVs.nil)) (by exact fun hg w F hF hM => s_Frame_walk w y4x0  _ (hy5 (gnot hg.2))) ?_
  refine s4 ?_
  refine D_callX (GC.some rfl rfl) fn16.h (OpVs.cons (OpV.s rfl) (OpVs.nil)) (by exact fun hg w F hF hM => s_Frame_walk w y4x0  _ (hy6 (gnot hg.2))) ?_
  refine s3 ?_
  refine D_ssl (GC.some rfl rfl) (OpV.s rfl) (optD.some (OpV.s rfl)) (optD.some (OpV.s rfl)) str9.h (fun hg => (hy7 (gnot hg.2))) ?_
  refine s20 ?_
  refine kp [0, 4, 5, 6, 7, 31] ?_
  refine W_cond rfl (fun hc8 => ?_) (fun hc8 => ?_)
  · replace hp := cond_t hc8 hp
    refine s7 ?_
    replace hp := map_any hp; obtain ⟨a9, hp, hx_a9⟩ := hp
    obtain rfl := hx3 _ hx_a9
    obtain rfl := Option.some.inj hp
    refine s1 ?_
    refine res2 rfl (ResOK.tmp rfl) (ResOK.tmp rfl) ⟨v3_0, v3_1, rfl, rfl, rfl⟩ ms
  · replace hp := cond_f hc8 hp
    refine s5 ?_
    refine L_buildSlice1 rfl rfl el25.h rfl (by decide) (by decide) rfl (fun bb36 => ?_)
    replace hp := ba hp; obtain ⟨y11, hy11, hp⟩ := hp
    refine L_app1F (X := v3_0) (y4x0 : ByteArray) rfl rfl rfl el25.h rfl rfl pk mm  hy11 (by decide) (fun X10 hdX10 => ?_)
    subst hdX10
    refine s6 ?_
    exact ⟨(X10, y4x1), sb, (.sub ms), some_eq hp⟩
noncomputable def w_sameTexts (a0 : List ByteArray) (a1 : List ByteArray) : Option Bool :=
  cond (!decide ((a0.length : Int) = (a1.length : Int))) (some false) (whileP (fun s2 : Int => cond (decide (s2 < (a0.length : Int))) (Option.bind (idx a0 s2) (fun y4 => Option.bind (idx a1 s2) (fun y5 => cond (!decide (y4 = y5)) (Option.map .inr (some false)) (some (.inl (IntKind.wrap .i64 (s2 + 1))))))) (Option.map .inr (some true))) 0)
theorem w_sameTexts_walk (w : World) (a0 : TL ByteArray) (a1 : TL ByteArray) (h0 : GT.rd w [] a0) (h1 : GT.rd w [] a1) (r : Bool) (hp : w_sameTexts (GT.dat a0) (GT.dat a1) = some r) : Spec Try.prog 13 [(TL.hdr a0), (TL.hdr a1)].toArray w [] (IsV (.bool r)) := by
  refine Spec.intro Try.func13 rfl Try.ntmps13 rfl ?_
  unfold w_sameTexts at hp
  replace hp := dd hp
  refine s13 ?_
  refine kp [0, 1, 10] ?_
  refine W_cond rfl (fun hc1 => ?_) (fun hc1 => ?_)
  · replace hp := cond_t hc1 hp
    refine s4 ?_
    obtain rfl := Option.some.inj hp
    refine s1 ?_
    refine res1 rfl (ResOK.tmp rfl) ⟨rfl, rfl⟩ ms
  · replace hp := cond_f hc1 hp
    refine s7 ?_
    refine W_while (σ := Int) GT.dat (fun (v2_0 : Int) => [(5, .int .i64 v2_0)]) (fun (v2_0 : Int) => []) [(0, _), (1, _)] [] 0 hp sb ms ?_
    clear hp
    rintro v2_0 x2 hp hx2
    replace hp := dd hp
    refine kq [0, 1, 5] ?_
    refine s8 ?_
    refine kp [0, 1, 5, 14] ?_
    refine W_cond rfl (fun hc3 => ?_) (fun hc3 => ?_)
    · replace hp := cond_t hc3 hp
      refine s4 ?_
      replace hp := idx_bind hp; obtain ⟨u4, hy4, hp⟩ := hp
      replace hp := idx_bind hp; obtain ⟨u5, hy5, hp⟩ := hp
      refine W_D0 [25] mix (by kernel_rfl) rfl ?_
      refine s2 ?_
      refine D_idxA (X := a0) GC.none (OpV.t rfl) (OpV.t rfl) el25.h (RdT.old h0) (fun _ => hy4) ?_
      refine D_load0 GC.none (OpV.t rfl) (fun hg => RdT.at (RdT.old h0) (hy4).2) one9.h rfl ?_
      refine s2 ?_
      refine D_idxA (X := a1) GC.none (OpV.t rfl) (OpV.t rfl) el25.h (RdT.old h1) (fun _ => hy5) ?_
      refine D_load0 GC.none (OpV.t rfl) (fun hg => RdT.at (RdT.old h1) (hy5).2) one9.h rfl ?_
      refine s12 ?_
      refine kp [0, 1, 5, 25] ?_
      refine W_cond rfl (fun hc6 => ?_) (fun hc6 => ?_)
      · replace hp := cond_t hc6 hp
        refine s4 ?_
        replace hp := map_any hp; obtain ⟨a7, hp, hx_a7⟩ := hp
        obtain rfl := hx2 _ hx_a7
        obtain rfl := Option.some.inj hp
        refine s1 ?_
        refine res1 rfl (ResOK.tmp rfl) ⟨rfl, rfl⟩ ms
      · replace hp := cond_f hc6 hp
        refine s6 ?_
        exact ⟨IntKind.wrap .i64 (v2_0 + 1), sb, (.sub ms), some_eq hp⟩
    · replace hp := cond_f hc3 hp
      refine W_exit ?_
      replace hp := map_any hp; obtain ⟨a8, hp, hx_a8⟩ := hp
      obtain rfl := hx2 _ hx_a8
      refine s4 ?_
      obtain rfl := Option.some.inj hp
      refine s1 ?_
      refine res1 rfl (ResOK.tmp rfl) ⟨rfl, rfl⟩ ms
end Go.Proofs.SL
namespace Go.Proofs.SL
open Go
theorem l1In_eq (x a b : Int) : s_l1In x a b = some (decide (a ≤ x ∧ x ≤ b)) := by
  unfold s_l1In; rw [Bool.decide_and]
theorem within_eq (x a b : Int) : i_within x a b = some (decide (a ≤ x ∧ x ≤ b)) := by
  unfold i_within; rw [Bool.decide_and]
theorem gbs {α β : Type} [Inhabited α] (g : Bool) (a : α) (k : α → Option β) : gb g (some a) k = if g then k a else k default := by cases g <;> rfl
end Go.Proofs.SL
namespace Go.Proofs.SL
open Go
section
variable {α β : Type}
theorem bnd {o : Option α} {a : α} {f : α → Option β} {r : Option β} (h : o = some a) (k : f a = r) : Option.bind o f = r := by rw [h]; exact k
theorem condT {b : Bool} {x y r : α} (h : b = true) (k : x = r) : cond b x y = r := by rw [h]; exact k
theorem condF {b : Bool} {x y r : α} (h : b = false) (k : y = r) : cond b x y = r := by rw [h]; exact k
end
theorem i8' : (8 : Int).toNat = 8 := rfl
section
variable {σ τ α : Type}
def it (step : Nat → τ → τ) : Nat → τ → τ
  | 0, t => t
  | n + 1, t => step n (it step n t)
theorem whileP_n {F : σ → Option (σ ⊕ α)} (mk : Nat → τ → σ) (step : Nat → τ → τ) {n : Nat} {t0 : τ} {s0 : σ} (h0 : s0 = mk 0 t0)
    (hs : ∀ i t, i < n → F (mk i t) = some (.inl (mk (i + 1) (step i t)))) {o : Option α} (he : F (mk n (it step n t0)) = o.map .inr) : whileP F s0 = o := by
  have key : ∀ m, m ≤ n → whileP F (mk 0 t0) = whileP F (mk m (it step m t0)) := by
    intro m hm
    induction m with
    | zero => rfl
    | succ m ih =>
      rw [ih (by omega), whileP_eq, hs m _ (by omega)]
      rfl
  rw [h0, key n (Nat.le_refl _), whileP_eq, he]
  cases o <;> rfl
end
noncomputable def i_fx1 {α : Type}  (s6 : Int × (List UInt8) × Int) (kk : Option α) : Option ((Int × (List UInt8) × Int) ⊕ α) :=
  cond (decide (0 ≤ s6.2.2)) (Option.bind (idx s6.2.1 s6.2.2) (fun y8 => Option.bind (u8P (IntKind.wrap .u8 (bits .and .i64 s6.1 255))) (fun y9 => Option.bind (some (s6.2.1.set (s6.2.2.toNat) y9)) (fun y10 => some (.inl (((s6.1 / 2 ^ (8 : Int).toNat), y10, IntKind.wrap .i64 (s6.2.2 - 1)))))))) (Option.map .inr kk)
theorem i_Fixed_open (a0 : Int) (a1 : Int) : i_Fixed a0 a1 =
  Option.bind (i_within a1 1 7) (fun y1 => gb (!((!y1) || (decide (a0 < 0)))) (shlP .i64 1 (IntKind.wrap .i64 (8 * a1))) (fun y2 => cond (((!y1) || (decide (a0 < 0))) || (decide (y2 ≤ a0))) (some ByteArray.empty) (Option.bind (mkP 1 a1 (0 : UInt8)) (fun y4 => whileP (fun s6 : Int × (List UInt8) × Int => i_fx1  s6 (some (strP s6.2.1))) (a0, y4, IntKind.wrap .i64 (a1 - 1)))))) := rfl
def be (k n : Nat) : List UInt8 := (List.range k).map fun j => UInt8.ofNat (n / 256 ^ (k - 1 - j))
theorem be_len (k n : Nat) : (be k n).length = k := by unfold be; simp
def fil (k n i : Nat) : List UInt8 := (List.range k).map fun j => if k - i ≤ j then UInt8.ofNat (n / 256 ^ (k - 1 - j)) else 0
theorem fil_len (k n i : Nat) : (fil k n i).length = k := by unfold fil; simp
theorem fil_get (k n i j : Nat) (h : j < k) : (fil k n i)[j]? = some (if k - i ≤ j then UInt8.ofNat (n / 256 ^ (k - 1 - j)) else 0) := by
  unfold fil; rw [List.getElem?_map, List.getElem?_range h]; rfl
theorem fil_set (k n i : Nat) (h : i < k) : (fil k n i).set (k - 1 - i) (UInt8.ofNat (n / 256 ^ i)) = fil k n (i + 1) := by
  apply List.ext_getElem?
  intro j
  rw [List.getElem?_set, fil_len]
  by_cases hj : j < k
  · rw [fil_get _ _ _ _ hj, fil_get _ _ _ _ hj]
    by_cases he : k - 1 - i = j
    · subst he
      rw [if_pos rfl, if_pos hj, if_pos (by omega), show k - 1 - (k - 1 - i) = i by omega]
    · rw [if_neg he]
      by_cases h1 : k - i ≤ j
      · rw [if_pos h1, if_pos (by omega)]
      · rw [if_neg h1, if_neg (by omega)]
  · have h1 : ∀ m, (fil k n m)[j]? = none := fun m => List.getElem?_eq_none (by rw [fil_len]; omega)
    rw [h1, h1, if_neg (by omega)]
theorem fil_all (k n : Nat) : fil k n k = be k n := by
  unfold fil be
  exact List.map_congr_left fun j hj => by rw [if_pos (by omega)]
theorem fil_zero (k n : Nat) : fil k n 0 = List.replicate k 0 := by
  apply List.ext_getElem?
  intro j
  by_cases hj : j < k
  · rw [fil_get _ _ _ _ hj, if_neg (by omega), List.getElem?_replicate, if_pos hj]
  · rw [List.getElem?_eq_none (by rw [fil_len]; omega), List.getElem?_eq_none (by simp; omega)]
theorem and255 {m : Nat} (h : m < 9223372036854775808) : bits .and .i64 (m : Int) 255 = ((m % 256 : Nat) : Int) := by
  show IntKind.wrap .i64 (((BitVec.ofInt 64 (m : Int)) &&& (BitVec.ofInt 64 255)).toNat : Int) = _
  rw [BitVec.toNat_and, show (BitVec.ofInt 64 255).toNat = 2 ^ 8 - 1 by decide, Nat.and_two_pow_sub_one_eq_mod, BitVec.toNat_ofInt]
  rw [wrap64_in (by unfold inR; omega)]
  omega
theorem u8_mod (m : Nat) : u8P (IntKind.wrap .u8 ((m % 256 : Nat) : Int)) = some (UInt8.ofNat m) := by
  rw [IntKind.wrap_u8, show ((m % 256 : Nat) : Int) % 256 = ((m % 256 : Nat) : Int) by omega]
  unfold u8P
  rw [if_pos (by omega), show (((m % 256 : Nat) : Int)).toNat = m % 256 by omega]
  congr 1
  apply UInt8.toNat_inj.1
  simp
theorem u8_and {m : Nat} (h : m < 9223372036854775808) : u8P (IntKind.wrap .u8 (bits .and .i64 (m : Int) 255)) = some (UInt8.ofNat m) := by rw [and255 h, u8_mod]
theorem i_fx1_step {α : Type} {k n i : Nat} (hi : i < k) (hk : k ≤ 7) (hn : n < 256 ^ k) (kk : Option α) :
    i_fx1 (((n / 256 ^ i : Nat) : Int), fil k n i, (k : Int) - 1 - (i : Int)) kk = some (.inl (((n / 256 ^ (i + 1) : Nat) : Int), fil k n (i + 1), (k : Int) - 1 - ((i + 1 : Nat) : Int))) := by
  have hn' : n < 9223372036854775808 := by
    have : (256 : Nat) ^ k ≤ 256 ^ 7 := Nat.pow_le_pow_right (by omega) hk
    have h7 : (256 : Nat) ^ 7 = 72057594037927936 := by decide
    omega
  unfold i_fx1
  refine condT (decide_eq_true (by show 0 ≤ (k : Int) - 1 - (i : Int); omega)) ?_
  have hx : (k : Int) - 1 - (i : Int) = ((k - 1 - i : Nat) : Int) := by omega
  refine bnd (a := if k - i ≤ k - 1 - i then UInt8.ofNat (n / 256 ^ (k - 1 - (k - 1 - i))) else 0) (by show idx (fil k n i) ((k : Int) - 1 - (i : Int)) = _; rw [hx, idx_nat]; exact fil_get _ _ _ _ (by omega)) ?_
  refine bnd (u8_and (Nat.lt_of_le_of_lt (Nat.div_le_self _ _) hn')) ?_
  refine bnd (a := fil k n (i + 1)) (by show some ((fil k n i).set ((k : Int) - 1 - (i : Int)).toNat _) = _; rw [hx, show (((k - 1 - i : Nat) : Int)).toNat = k - 1 - i by omega, fil_set _ _ _ hi]) ?_
  show some (Sum.inl ((((n / 256 ^ i : Nat) : Int) / 2 ^ (8 : Int).toNat), _, IntKind.wrap .i64 ((k : Int) - 1 - (i : Int) - 1))) = _
  rw [wrap64_in (by unfold inR; omega), show (k : Int) - 1 - (i : Int) - 1 = (k : Int) - 1 - ((i + 1 : Nat) : Int) by omega, i8', Nat.pow_succ, ← Nat.div_div_eq_div_mul]
  rfl
theorem i_fx1_end {α : Type} (m : Int) (l : List UInt8) {x : Int} (hx : x = -1) (kk : Option α) : i_fx1 (m, l, x) kk = kk.map .inr := by
  subst hx
  unfold i_fx1
  exact condF (decide_eq_false (by show ¬ (0 : Int) ≤ -1; omega)) rfl
theorem i_Fixed_eq {k n : Nat} (h0 : 0 < k) (hk : k ≤ 7) (hn : n < 256 ^ k) {a b : Int} (ha : a = (n : Int)) (hb : b = (k : Int)) : i_Fixed a b = some (strP (be k n)) := by
  subst ha hb
  rw [i_Fixed_open, within_eq]
  refine bnd rfl ?_
  rw [show decide (1 ≤ (k : Int) ∧ (k : Int) ≤ 7) = true from decide_eq_true (by omega), show decide ((n : Int) < 0) = false from decide_eq_false (by omega)]
  have h2 : shlP .i64 1 (IntKind.wrap .i64 (8 * (k : Int))) = some ((256 ^ k : Nat) : Int) := by
    rw [wrap64_in (by unfold inR; omega)]
    unfold shlP
    have h7 : (256 : Nat) ^ k ≤ 256 ^ 7 := Nat.pow_le_pow_right (by omega) hk
    have h77 : (256 : Nat) ^ 7 = 72057594037927936 := by decide
    have e : (256 : Nat) ^ k = 2 ^ (8 * k) := by rw [Nat.pow_mul]
    have e2 : (2 : Int) ^ (8 * k) = ((256 ^ k : Nat) : Int) := by rw [e]; simp
    rw [if_pos ⟨by omega, by show (8 * (k : Int)) ≤ 64; omega⟩, show (8 * (k : Int)).toNat = 8 * k by omega, Int.one_mul, e2, wrap64_in (by unfold inR; omega)]
  have gy : ∀ (o : Option Int) (q : Int → Option ByteArray), gb (!(!true || false)) o q = o.bind q := fun _ _ => rfl
  rw [h2, gy]
  refine bnd rfl ?_
  refine condF (by show ((!true || false) || decide (((256 ^ k : Nat) : Int) ≤ (n : Int))) = false; rw [decide_eq_false (by omega)]; rfl) ?_
  refine bnd (a := List.replicate k 0) (by unfold mkP; rw [if_pos (by omega), show ((k : Int)).toNat = k by omega]) ?_
  refine whileP_n (fun (i : Nat) (_ : Unit) => (((n / 256 ^ i : Nat) : Int), fil k n i, (k : Int) - 1 - (i : Int))) (fun _ _ => ()) (n := k) (t0 := ()) ?_ (fun i t hi => i_fx1_step hi hk hn _) ?_
  · rw [fil_zero, wrap64_in (by unfold inR; omega), Nat.pow_zero, Nat.div_one]
    simp
  · refine (i_fx1_end _ _ (by omega) _).trans ?_
    rw [fil_all]
end Go.Proofs.SL
namespace Go.Proofs.SL
open Go
def CurOk (d : D_l1Cur) : Prop := 0 ≤ d.2.1 ∧ d.2.1 ≤ (d.1.length : Int) ∧ d.1.length ≤ 4611686018427387904
theorem and255i (x : Int) : 0 ≤ bits .and .i64 x 255 ∧ bits .and .i64 x 255 ≤ 255 := and_mask x 255 (by omega)
theorem byte_ok {d : D_l1Cur} (h : CurOk d) : ∃ n d', s_l1Byte d = some (n, d') ∧ (0 ≤ n ∧ n ≤ 255) ∧ CurOk d' ∧ d'.1 = d.1 := by
  obtain ⟨b, i, q⟩ := d
  obtain ⟨h1, h2, h3⟩ := h
  dsimp only at h1 h2 h3
  unfold s_l1Byte
  dsimp only
  by_cases hi : i < (b.length : Int)
  · obtain ⟨k, rfl⟩ := Int.eq_ofNat_of_zero_le h1
    have hk : b[k]? = some (b[k]'(by omega)) := List.getElem?_eq_getElem _
    rw [decide_eq_true hi, cond_true, idx_nat, hk]
    refine ⟨_, _, rfl, and255i _, ⟨?_, ?_, h3⟩, rfl⟩
    · dsimp only; rw [wrap_succ (by omega)]; omega
    · dsimp only; rw [wrap_succ (by omega)]; omega
  · rw [decide_eq_false hi, cond_false]
    exact ⟨_, _, rfl, and255i _, ⟨h1, h2, h3⟩, rfl⟩
theorem tmod_lt {a n : Int} (h : 0 ≤ a) (hn : 0 < n) : 0 ≤ a.tmod n ∧ a.tmod n < n := by
  rw [Int.tmod_eq_emod_of_nonneg h]
  exact ⟨Int.emod_nonneg _ (by omega), Int.emod_lt_of_pos _ hn⟩
theorem below_ok {d : D_l1Cur} (h : CurOk d) (n : Int) : ∃ x d', s_l1Below d n = some (x, d') ∧ (0 ≤ x ∧ (0 < n → x < n) ∧ (n ≤ 0 → x = 0)) ∧ CurOk d' := by
  unfold s_l1Below
  simp only [Prod.eta]
  by_cases h0 : n ≤ 0
  · rw [decide_eq_true h0, cond_true]
    exact ⟨_, _, rfl, ⟨Int.le_refl _, fun h => by omega, fun _ => rfl⟩, h⟩
  · rw [decide_eq_false h0, cond_false]
    have hr : ∀ a, 0 ≤ a → ∃ x, remP a n = some x ∧ (0 ≤ x ∧ (0 < n → x < n) ∧ (n ≤ 0 → x = 0)) := fun a ha => by
      have := tmod_lt ha (show 0 < n by omega)
      exact ⟨_, by unfold remP; rw [if_neg (by omega)], this.1, fun _ => this.2, fun h => by omega⟩
    by_cases h1 : n ≤ 256
    · rw [decide_eq_true h1, cond_true]
      obtain ⟨y, d1, e1, g1, c1, _⟩ := byte_ok h
      obtain ⟨x, ex, gx⟩ := hr y g1.1
      rw [e1, Option.bind_some]
      dsimp only
      rw [ex]
      exact ⟨x, d1, rfl, gx, c1⟩
    · rw [decide_eq_false h1, cond_false]
      obtain ⟨y1, d1, e1, g1, c1, _⟩ := byte_ok h
      obtain ⟨y2, d2, e2, g2, c2, _⟩ := byte_ok c1
      obtain ⟨y3, d3, e3, g3, c3, _⟩ := byte_ok c2
      obtain ⟨y4, d4, e4, g4, c4, _⟩ := byte_ok c3
      simp only [e1, e2, e3, e4, Option.bind_some]
      obtain ⟨x, ex, gx⟩ := hr (IntKind.wrap .i64 (IntKind.wrap .i64 (IntKind.wrap .i64 (IntKind.wrap .i64 (y1 * 16777216) + IntKind.wrap .i64 (y2 * 65536)) + IntKind.wrap .i64 (y3 * 256)) + y4)) (by
        rw [wrap64_in (n := y1 * 16777216) (by unfold inR; omega), wrap64_in (n := y2 * 65536) (by unfold inR; omega), wrap64_in (n := y3 * 256) (by unfold inR; omega), wrap64_in (n := y1 * 16777216 + y2 * 65536) (by unfold inR; omega), wrap64_in (n := y1 * 16777216 + y2 * 65536 + y3 * 256) (by unfold inR; omega), wrap64_in (by unfold inR; omega)]
        omega)
      rw [ex]
      exact ⟨x, d4, rfl, gx, c4⟩
theorem below_ok' {d : D_l1Cur} (h : CurOk d) (n : Int) : ∃ x d', s_l1Below d n = some (x, d') ∧ (0 ≤ x ∧ (0 < n → x < n) ∧ (n ≤ 0 → x = 0)) ∧ CurOk d' ∧ d'.1 = d.1 := by
  unfold s_l1Below
  simp only [Prod.eta]
  by_cases h0 : n ≤ 0
  · rw [decide_eq_true h0, cond_true]
    exact ⟨_, _, rfl, ⟨Int.le_refl _, fun h => by omega, fun _ => rfl⟩, h, rfl⟩
  · rw [decide_eq_false h0, cond_false]
    have hr : ∀ a, 0 ≤ a → ∃ x, remP a n = some x ∧ (0 ≤ x ∧ (0 < n → x < n) ∧ (n ≤ 0 → x = 0)) := fun a ha => by
      have := tmod_lt ha (show 0 < n by omega)
      exact ⟨_, by unfold remP; rw [if_neg (by omega)], this.1, fun _ => this.2, fun h => by omega⟩
    by_cases h1 : n ≤ 256
    · rw [decide_eq_true h1, cond_true]
      obtain ⟨y, d1, e1, g1, c1, f1⟩ := byte_ok h
      obtain ⟨x, ex, gx⟩ := hr y g1.1
      rw [e1, Option.bind_some]
      dsimp only
      rw [ex]
      exact ⟨x, d1, rfl, gx, c1, f1⟩
    · rw [decide_eq_false h1, cond_false]
      obtain ⟨y1, d1, e1, g1, c1, f1⟩ := byte_ok h
      obtain ⟨y2, d2, e2, g2, c2, f2⟩ := byte_ok c1
      obtain ⟨y3, d3, e3, g3, c3, f3⟩ := byte_ok c2
      obtain ⟨y4, d4, e4, g4, c4, f4⟩ := byte_ok c3
      simp only [e1, e2, e3, e4, Option.bind_some]
      obtain ⟨x, ex, gx⟩ := hr (IntKind.wrap .i64 (IntKind.wrap .i64 (IntKind.wrap .i64 (IntKind.wrap .i64 (y1 * 16777216) + IntKind.wrap .i64 (y2 * 65536)) + IntKind.wrap .i64 (y3 * 256)) + y4)) (by
        rw [wrap64_in (n := y1 * 16777216) (by unfold inR; omega), wrap64_in (n := y2 * 65536) (by unfold inR; omega), wrap64_in (n := y3 * 256) (by unfold inR; omega), wrap64_in (n := y1 * 16777216 + y2 * 65536) (by unfold inR; omega), wrap64_in (n := y1 * 16777216 + y2 * 65536 + y3 * 256) (by unfold inR; omega), wrap64_in (by unfold inR; omega)]
        omega)
      rw [ex]
      exact ⟨x, d4, rfl, gx, c4, by rw [f4, f3, f2, f1]⟩
theorem once_ok {d : D_l1Cur} (h : CurOk d) (n : Int) : ∃ x d', s_l1Once d n = some (x, d') ∧ CurOk d' := by
  unfold s_l1Once
  simp only [Prod.eta]
  obtain ⟨x, d', e, _, c⟩ := below_ok h n
  rw [e]
  exact ⟨_, d', rfl, c⟩
theorem u8P_wrap (z : Int) : ∃ b, u8P (IntKind.wrap .u8 z) = some b := by
  rw [IntKind.wrap_u8]
  exact ⟨_, if_pos ⟨Int.emod_nonneg _ (by omega), Int.emod_lt_of_pos _ (by omega)⟩⟩
theorem text_ok {d : D_l1Cur} (h : CurOk d) {n : Int} (h0 : 0 ≤ n) (hn : n ≤ 1000000) : ∃ s d', s_l1Text d n = some (s, d') ∧ (s.size : Int) ≤ n ∧ CurOk d' := by
  unfold s_l1Text
  simp only [Prod.eta, Option.bind_some]
  obtain ⟨y3, d3, e3, _, c3⟩ := below_ok h 4
  rw [e3, Option.bind_some]
  dsimp only
  rw [wrap64_in (by unfold inR; omega)]
  obtain ⟨y4, d4, e4, g4, c4⟩ := below_ok c3 (n + 1)
  rw [e4, Option.bind_some]
  dsimp only
  have hy := g4.2.1 (by omega)
  refine (fun ⟨r, hr, hq⟩ => ⟨r.1, r.2, hr, hq⟩ : (∃ r : ByteArray × D_l1Cur, _ = some r ∧ ((r.1.size : Int) ≤ n ∧ CurOk r.2)) → _) (whileP_rule (fun s : List UInt8 × Int × Int × Int => 0 ≤ s.2.1 ∧ (s.1.length : Int) + s.2.1 ≤ n ∧ CurOk (d4.1, s.2.2.1, s.2.2.2)) (fun s => s.2.1.toNat) _ ?_ ([], y4, d4.2.1, d4.2.2) ⟨g4.1, by simp; omega, c4⟩)
  · rintro ⟨out, k, i, q⟩ ⟨h1, h2, h3⟩
    dsimp only at h1 h2 h3 ⊢
    by_cases hk : 0 < k
    · left
      obtain ⟨y7, d7, e7, g7, c7, e71⟩ := byte_ok h3
      simp only [decide_eq_true hk, cond_true, e7, Option.bind_some]
      have ho : ∀ b : UInt8, appP out [b] = some (out ++ [b]) := fun b => appP_ok (by simp; omega)
      have hfin : ∀ b : UInt8, 0 ≤ IntKind.wrap .i64 (k - 1) ∧ (((out ++ [b]).length : Nat) : Int) + IntKind.wrap .i64 (k - 1) ≤ n ∧ CurOk (d4.1, d7.2.1, d7.2.2) := fun b => by
        rw [wrap64_in (by unfold inR; omega), List.length_append]
        refine ⟨by omega, by simp; omega, ?_⟩
        have := c7
        unfold CurOk at this ⊢
        dsimp only at e71 ⊢
        rw [e71] at this
        exact this
      have hm : (IntKind.wrap .i64 (k - 1)).toNat < k.toNat := by rw [wrap64_in (by unfold inR; omega)]; omega
      have fin : ∀ z : Int, ∃ s', (Option.bind (u8P (IntKind.wrap .u8 z)) fun y => Option.bind (appP out [y]) fun y' => some (Sum.inl (β := ByteArray × D_l1Cur) (y', IntKind.wrap .i64 (k - 1), d7.2.1, d7.2.2))) = some (.inl s') ∧ (0 ≤ s'.2.1 ∧ (s'.1.length : Int) + s'.2.1 ≤ n ∧ CurOk (d4.1, s'.2.2.1, s'.2.2.2)) ∧ s'.2.1.toNat < k.toNat := fun z => by
        obtain ⟨b, hb⟩ := u8P_wrap z
        rw [hb, Option.bind_some, ho, Option.bind_some]
        exact ⟨_, rfl, hfin b, hm⟩
      cases decide (y3 = 1) <;> cases decide (y3 = 2) <;> exact fin _
    · right
      simp only [decide_eq_false hk, cond_false]
      refine ⟨_, rfl, ?_, h3⟩
      dsimp only
      show ((out.length : Nat) : Int) ≤ n
      omega
theorem text_ok' {d : D_l1Cur} (h : CurOk d) {n : Int} (h0 : 0 ≤ n) (hn : n ≤ 1000000) : ∃ s d', s_l1Text d n = some (s, d') ∧ (s.size : Int) ≤ n ∧ CurOk d' ∧ d'.1 = d.1 := by
  unfold s_l1Text
  simp only [Prod.eta, Option.bind_some]
  obtain ⟨y3, d3, e3, _, c3, f3⟩ := below_ok' h 4
  rw [e3, Option.bind_some]
  dsimp only
  rw [wrap64_in (by unfold inR; omega)]
  obtain ⟨y4, d4, e4, g4, c4, f4⟩ := below_ok' c3 (n + 1)
  rw [e4, Option.bind_some]
  dsimp only
  have hy := g4.2.1 (by omega)
  refine (fun ⟨r, hr, hq⟩ => ⟨r.1, r.2, hr, hq⟩ : (∃ r : ByteArray × D_l1Cur, _ = some r ∧ ((r.1.size : Int) ≤ n ∧ CurOk r.2 ∧ r.2.1 = d.1)) → _) (whileP_rule (fun s : List UInt8 × Int × Int × Int => 0 ≤ s.2.1 ∧ (s.1.length : Int) + s.2.1 ≤ n ∧ CurOk (d4.1, s.2.2.1, s.2.2.2)) (fun s => s.2.1.toNat) _ ?_ ([], y4, d4.2.1, d4.2.2) ⟨g4.1, by simp; omega, c4⟩)
  · rintro ⟨out, k, i, q⟩ ⟨h1, h2, h3⟩
    dsimp only at h1 h2 h3 ⊢
    by_cases hk : 0 < k
    · left
      obtain ⟨y7, d7, e7, g7, c7, e71⟩ := byte_ok h3
      simp only [decide_eq_true hk, cond_true, e7, Option.bind_some]
      have ho : ∀ b : UInt8, appP out [b] = some (out ++ [b]) := fun b => appP_ok (by simp; omega)
      have hfin : ∀ b : UInt8, 0 ≤ IntKind.wrap .i64 (k - 1) ∧ (((out ++ [b]).length : Nat) : Int) + IntKind.wrap .i64 (k - 1) ≤ n ∧ CurOk (d4.1, d7.2.1, d7.2.2) := fun b => by
        rw [wrap64_in (by unfold inR; omega), List.length_append]
        refine ⟨by omega, by simp; omega, ?_⟩
        have := c7
        unfold CurOk at this ⊢
        dsimp only at e71 ⊢
        rw [e71] at this
        exact this
      have hm : (IntKind.wrap .i64 (k - 1)).toNat < k.toNat := by rw [wrap64_in (by unfold inR; omega)]; omega
      have fin : ∀ z : Int, ∃ s', (Option.bind (u8P (IntKind.wrap .u8 z)) fun y => Option.bind (appP out [y]) fun y' => some (Sum.inl (β := ByteArray × D_l1Cur) (y', IntKind.wrap .i64 (k - 1), d7.2.1, d7.2.2))) = some (.inl s') ∧ (0 ≤ s'.2.1 ∧ (s'.1.length : Int) + s'.2.1 ≤ n ∧ CurOk (d4.1, s'.2.2.1, s'.2.2.2)) ∧ s'.2.1.toNat < k.toNat := fun z => by
        obtain ⟨b, hb⟩ := u8P_wrap z
        rw [hb, Option.bind_some, ho, Option.bind_some]
        exact ⟨_, rfl, hfin b, hm⟩
      cases decide (y3 = 1) <;> cases decide (y3 = 2) <;> exact fin _
    · right
      simp only [decide_eq_false hk, cond_false]
      refine ⟨_, rfl, ?_, h3, by dsimp only; rw [f4, f3]⟩
      dsimp only
      show ((out.length : Nat) : Int) ≤ n
      omega
theorem new_ok {l : List UInt8} (h : l.length ≤ 1048576) : ∃ d, s_l1New l = some d ∧ CurOk d := by
  unfold s_l1New
  refine whileP_rule (fun s : Int × Int => 0 ≤ s.2 ∧ s.2 ≤ (l.length : Int)) (fun s => (l.length - s.2.toNat)) (fun d : D_l1Cur => CurOk d) ?_ (IntKind.wrap .i64 (10101 + (l.length : Int)), 0) ⟨by simp, by simp⟩
  · rintro ⟨q, i⟩ ⟨h1, h2⟩
    dsimp only at h1 h2 ⊢
    by_cases hi : i < (l.length : Int)
    · rw [decide_eq_true hi, Bool.true_and]
      by_cases h4 : i < 4000
      · left
        obtain ⟨k, rfl⟩ := Int.eq_ofNat_of_zero_le h1
        have hk : l[k]? = some (l[k]'(by omega)) := List.getElem?_eq_getElem _
        rw [decide_eq_true h4, cond_true, idx_nat, hk]
        refine ⟨_, rfl, ?_, ?_⟩
        · dsimp only; rw [wrap_succ (by omega)]; omega
        · dsimp only; rw [wrap_succ (by omega)]; omega
      · right
        rw [decide_eq_false h4, cond_false]
        exact ⟨_, rfl, by dsimp only; simp, by dsimp only; simp, by dsimp only; omega⟩
    · right
      rw [decide_eq_false hi, Bool.false_and, cond_false]
      exact ⟨_, rfl, by dsimp only; simp, by dsimp only; simp, by dsimp only; omega⟩
end Go.Proofs.SL
namespace Go.Proofs.SL
open Go
def byt (s : ByteArray) (i : Nat) : UInt8 := if h : i < s.size then s[i] else 0
theorem sidx_byt {s : ByteArray} {i : Nat} (h : i < s.size) : sidx s (i : Int) = some ((byt s i).toNat : Int) := by
  unfold sidx byt; rw [dif_pos ⟨by omega, by simpa using h⟩, dif_pos h]; simp
theorem ssl_ok {s : ByteArray} {a b : Int} (h : 0 ≤ a ∧ a ≤ b ∧ b ≤ (s.size : Int)) : sslP s a b = some (s.extract a.toNat b.toNat) := if_pos h
theorem cutSize (s : ByteArray) (a b : Nat) : (s.extract a b).size ≤ b - a := by rw [ByteArray.size_extract]; omega
theorem spoil_ok {d : D_l1Cur} (h : CurOk d) {s : ByteArray} (hs : s.size ≤ 1000000) : ∃ t d', s_l1Spoil d s = some (t, d') ∧ t.size ≤ 1000010 ∧ CurOk d' := by
  unfold s_l1Spoil
  simp only [Prod.eta]
  by_cases h0 : (s.size : Int) = 0
  · rw [decide_eq_true h0, cond_true]
    obtain ⟨t, d', e, g, c⟩ := text_ok h (n := 3) (by omega) (by omega)
    rw [e]
    exact ⟨t, d', rfl, by omega, c⟩
  · rw [decide_eq_false h0, cond_false]
    obtain ⟨k, d1, e1, g1, c1⟩ := below_ok h (s.size : Int)
    have hk := g1.2.1 (by omega)
    have hk0 := g1.1
    obtain ⟨q, d2, e2, g2, c2⟩ := below_ok c1 4
    rw [e1, Option.bind_some]
    dsimp only
    rw [e2, Option.bind_some]
    dsimp only
    have w1 : IntKind.wrap .i64 (k + 1) = k + 1 := wrap64_in (by unfold inR; omega)
    have s1 := ssl_ok (s := s) (a := 0) (b := k) (by omega)
    have s2 := ssl_ok (s := s) (a := k + 1) (b := (s.size : Int)) (by omega)
    have s3 := ssl_ok (s := s) (a := k) (b := (s.size : Int)) (by omega)
    have z1 := cutSize s (0 : Int).toNat k.toNat
    have z2 := cutSize s (k + 1).toNat (s.size : Int).toNat
    have z3 := cutSize s k.toNat (s.size : Int).toNat
    rw [w1, s1, s2, s3]
    simp only [Option.bind_some]
    cases decide (q = 0) with
    | true =>
      rw [cond_true, catP_ok (by omega)]
      exact ⟨_, d2, rfl, by rw [ByteArray.size_append]; omega, c2⟩
    | false =>
      rw [cond_false]
      cases decide (q = 1) with
      | true =>
        rw [cond_true]
        obtain ⟨y, d3, e3, g3, c3, _⟩ := byte_ok c2
        obtain ⟨b, hb⟩ := u8P_wrap y
        rw [e3, Option.bind_some]
        dsimp only
        rw [hb, Option.bind_some]
        have zb : (strP [b]).size = 1 := rfl
        rw [catP_ok (by omega), Option.bind_some, catP_ok (by rw [ByteArray.size_append]; omega)]
        exact ⟨_, d3, rfl, by rw [ByteArray.size_append, ByteArray.size_append]; omega, c3⟩
      | false =>
        rw [cond_false]
        cases decide (q = 2) with
        | true => exact ⟨_, d2, rfl, by omega, c2⟩
        | false =>
          rw [cond_false]
          obtain ⟨kn, rfl⟩ := Int.eq_ofNat_of_zero_le hk0
          obtain ⟨y, d3, e3, g3, c3⟩ := below_ok c2 255
          rw [sidx_byt (show kn < s.size by omega), Option.bind_some, e3, Option.bind_some]
          dsimp only
          obtain ⟨b, hb⟩ := u8P_wrap (bits .xor .i64 (IntKind.wrap .i64 ((byt s kn).toNat : Int)) (IntKind.wrap .i64 (1 + y)))
          rw [hb, Option.bind_some]
          have zb : (strP [b]).size = 1 := rfl
          rw [catP_ok (by omega), Option.bind_some, catP_ok (by rw [ByteArray.size_append]; omega)]
          exact ⟨_, d3, rfl, by rw [ByteArray.size_append, ByteArray.size_append]; omega, c3⟩
end Go.Proofs.SL
namespace Go.Proofs.SL
open Go
theorem whileP_is {σ α : Type} {f : σ → Option (σ ⊕ α)} {r : α} {s : σ} (I : σ → Prop) (μ : σ → Nat) (h : ∀ s, I s → (∃ s', f s = some (.inl s') ∧ I s' ∧ μ s' < μ s) ∨ f s = some (.inr r)) (hs : I s) : whileP f s = some r := by
  obtain ⟨a, ha, rfl⟩ := whileP_rule I μ (· = r) (fun s hs => (h s hs).imp id fun h => ⟨r, h, rfl⟩) s hs
  exact ha
theorem at_ok {l : List UInt8} {i : Int} (h : l.length ≤ 1048576) (h0 : 0 ≤ i) (h1 : i ≤ 1000) : ∃ x, w_at l i = some x ∧ 0 ≤ x := by
  unfold w_at
  obtain ⟨k, rfl⟩ := Int.eq_ofNat_of_zero_le h0
  by_cases hi : (k : Int) < (l.length : Int)
  · have hk : l[k]? = some (l[k]'(by omega)) := List.getElem?_eq_getElem _
    rw [decide_eq_true hi, cond_true, idx_nat, hk]
    refine ⟨_, rfl, ?_⟩
    have := (l[k]'(by omega)).toNat_lt
    rw [wrap64_in (by unfold inR; omega)]; omega
  · rw [decide_eq_false hi, cond_false]
    refine ⟨_, rfl, (tmod_lt ?_ (by omega)).1⟩
    rw [wrap64_in (n := (k : Int) * 37) (by unfold inR; omega), wrap64_in (n := (l.length : Int) * 11) (by unfold inR; omega), wrap64_in (by unfold inR; omega)]
    omega
end Go.Proofs.SL
namespace Go.Proofs.SL
open Go
abbrev Bs := List UInt8
theorem str_list (s : ByteArray) : ∃ l : Bs, s = strP l := ⟨s.data.toList, by unfold strP; simp⟩
theorem strP_app (a b : Bs) : strP a ++ strP b = strP (a ++ b) := by
  apply ByteArray.ext
  rw [ByteArray.data_append]
  exact List.append_toArray ..
theorem strP_size (a : Bs) : (strP a).size = a.length := rfl
theorem strP_inj {a b : Bs} : strP a = strP b ↔ a = b := by
  constructor
  · intro h
    have := congrArg (fun s => s.data.toList) h
    simpa [strP] using this
  · rintro rfl; rfl
theorem strP_nil : ByteArray.empty = strP [] := rfl
theorem strP_extract (l : Bs) (a b : Nat) : (strP l).extract a b = strP ((l.drop a).take (b - a)) := by
  apply ByteArray.ext
  rw [ByteArray.data_extract]
  unfold strP
  simp [List.take_drop]
theorem sidx_list {l : Bs} {k : Nat} {b : UInt8} (h : l[k]? = some b) : sidx (strP l) (k : Int) = some (b.toNat : Int) := by
  have hk := (List.getElem?_eq_some_iff.1 h).1
  unfold sidx
  rw [dif_pos ⟨by omega, by simpa [strP_size] using hk⟩]
  congr 2
  have := (List.getElem?_eq_some_iff.1 h).2
  rw [← this]
  simp [strP]
  rfl
theorem ssl_list {l : Bs} {a b : Nat} (h : a ≤ b) (hb : b ≤ l.length) : sslP (strP l) (a : Int) (b : Int) = some (strP ((l.drop a).take (b - a))) := by
  rw [ssl_ok ⟨by omega, by omega, by rw [strP_size]; omega⟩, strP_extract]
  simp
/-- A number in groups of seven bits, the least first. -/
def varL (n : Nat) : Bs := if h : n < 128 then [UInt8.ofNat n] else UInt8.ofNat (128 + n % 128) :: varL (n / 128)
termination_by n
decreasing_by omega
theorem or128 : ∀ x : Fin 128, bits .or .i64 ((x.val : Nat) : Int) 128 = ((128 + x.val : Nat) : Int) := by decide
theorem and127 {m : Nat} (h : m < 9223372036854775808) : bits .and .i64 (m : Int) 127 = ((m % 128 : Nat) : Int) := by
  show IntKind.wrap .i64 (((BitVec.ofInt 64 (m : Int)) &&& (BitVec.ofInt 64 127)).toNat : Int) = _
  rw [BitVec.toNat_and, show (BitVec.ofInt 64 127).toNat = 2 ^ 7 - 1 by decide, Nat.and_two_pow_sub_one_eq_mod, BitVec.toNat_ofInt]
  rw [wrap64_in (by unfold inR; omega)]
  omega
theorem u8_nat {m : Nat} (h : m < 256) : u8P (IntKind.wrap .u8 (m : Int)) = some (UInt8.ofNat m) := by
  have := u8_mod m
  rw [show m % 256 = m by omega] at this; exact this
theorem varL_lt {n : Nat} (h : n < 128) : varL n = [UInt8.ofNat n] := by rw [varL, dif_pos h]
theorem varL_ge {n : Nat} (h : ¬ n < 128) : varL n = UInt8.ofNat (128 + n % 128) :: varL (n / 128) := by rw [varL, dif_neg h]
theorem varL_len : ∀ (k n : Nat), n < 128 ^ (k + 1) → 1 ≤ (varL n).length ∧ (varL n).length ≤ k + 1
  | 0, n, h => by
    rw [varL, dif_pos (by simpa using h)]; simp
  | k + 1, n, h => by
    rw [varL]
    split
    · simp
    · have := varL_len k (n / 128) (by
        rw [Nat.div_lt_iff_lt_mul (by omega), ← Nat.pow_succ]; exact h)
      rw [List.length_cons]; omega
theorem varL_7 {n : Nat} (h : n ≤ 562949953421311) : 1 ≤ (varL n).length ∧ (varL n).length ≤ 7 := varL_len 6 n (by
  have : (128 : Nat) ^ 7 = 562949953421312 := by decide
  omega)
/-- The loop of a number in groups of seven bits. -/
theorem var_loop {n : Nat} (h : n ≤ 562949953421311) {f : Int × Bs → Option ((Int × Bs) ⊕ ByteArray)}
    (h1 : ∀ (m : Nat) (acc : Bs), 128 ≤ m → m ≤ n → acc.length ≤ 7 → f ((m : Int), acc) = some (.inl (((m / 128 : Nat) : Int), acc ++ [UInt8.ofNat (128 + m % 128)])))
    (h2 : ∀ (m : Nat) (acc : Bs), m < 128 → acc.length ≤ 7 → f ((m : Int), acc) = some (.inr (strP (acc ++ [UInt8.ofNat m])))) : whileP f ((n : Int), []) = some (strP (varL n)) := by
  refine whileP_is (fun s : Int × Bs => ∃ m : Nat, s.1 = (m : Int) ∧ m ≤ n ∧ s.2 ++ varL m = varL n) (fun s => s.1.toNat) ?_ ⟨n, rfl, Nat.le_refl _, rfl⟩
  rintro ⟨m', acc⟩ ⟨m, rfl, hm, he⟩
  dsimp only at he ⊢
  have hl : acc.length ≤ 7 := by
    have := congrArg List.length he
    rw [List.length_append] at this
    have := (varL_7 h).2
    omega
  by_cases h0 : m < 128
  · right
    rw [h2 m acc h0 hl, ← he, varL, dif_pos h0]
  · left
    refine ⟨_, h1 m acc (by omega) hm hl, ⟨m / 128, rfl, by omega, ?_⟩, ?_⟩
    · dsimp only
      rw [← he, List.append_assoc]
      conv => rhs; rw [varL, dif_neg h0]
      rfl
    · dsimp only; omega
theorem i_Var_eq {n : Nat} (h : n ≤ 562949953421311) : i_Var (n : Int) = some (strP (varL n)) := by
  unfold i_Var
  rw [within_eq, Option.bind_some, show decide (0 ≤ (n : Int) ∧ (n : Int) ≤ 562949953421311) = true from decide_eq_true (by omega), Bool.not_true, cond_false, Option.bind_some]
  refine var_loop h (fun m acc hm hn hl => ?_) (fun m acc hm hl => ?_)
  · dsimp only
    rw [decide_eq_true (by omega), cond_true, and127 (by omega), or128 ⟨m % 128, by omega⟩, u8_nat (by dsimp only; omega), Option.bind_some, appP_ok (by simp; omega), Option.bind_some]
    congr 4
  · dsimp only
    rw [decide_eq_false (by omega), cond_false, u8_nat (by omega), Option.bind_some, appP_ok (by simp; omega)]
    rfl
theorem s_Var_eq {n : Nat} (h : n ≤ 562949953421311) : s_Var (n : Int) = some (strP (varL n)) := by
  unfold s_Var
  rw [l1In_eq, Option.bind_some, show decide (0 ≤ (n : Int) ∧ (n : Int) ≤ 562949953421311) = true from decide_eq_true (by omega), Bool.not_true, cond_false, Option.bind_some]
  refine var_loop h (fun m acc hm hn hl => ?_) (fun m acc hm hl => ?_)
  · dsimp only
    have e1 : (m : Int).tmod 128 = ((m % 128 : Nat) : Int) := by rw [Int.tmod_eq_emod_of_nonneg (by omega)]; omega
    have e2 : (m : Int).tdiv 128 = ((m / 128 : Nat) : Int) := by rw [Int.tdiv_eq_ediv_of_nonneg (by omega)]; omega
    rw [decide_eq_true (by omega), cond_true, e1, e2, wrap64_in (n := 128 + _) (by unfold inR; omega), show (128 : Int) + ((m % 128 : Nat) : Int) = ((128 + m % 128 : Nat) : Int) by omega, u8_nat (by omega), Option.bind_some, appP_ok (by simp; omega), Option.bind_some, wrap64_in (by unfold inR; omega)]
  · dsimp only
    rw [decide_eq_false (by omega), cond_false, u8_nat (by omega), Option.bind_some, appP_ok (by simp; omega)]
    rfl
theorem i_Var_any (n : Int) : ∃ l : Bs, i_Var n = some (strP l) ∧ (l = [] ∨ ∃ m : Nat, n = (m : Int) ∧ m ≤ 562949953421311 ∧ l = varL m) := by
  by_cases h : 0 ≤ n ∧ n ≤ 562949953421311
  · obtain ⟨m, rfl⟩ := Int.eq_ofNat_of_zero_le h.1
    exact ⟨_, i_Var_eq (by omega), .inr ⟨m, rfl, by omega, rfl⟩⟩
  · refine ⟨[], ?_, .inl rfl⟩
    unfold i_Var
    rw [within_eq, Option.bind_some, decide_eq_false h]; rfl
theorem s_Var_any (n : Int) : ∃ l : Bs, s_Var n = some (strP l) ∧ (l = [] ∨ ∃ m : Nat, n = (m : Int) ∧ m ≤ 562949953421311 ∧ l = varL m) := by
  by_cases h : 0 ≤ n ∧ n ≤ 562949953421311
  · obtain ⟨m, rfl⟩ := Int.eq_ofNat_of_zero_le h.1
    exact ⟨_, s_Var_eq (by omega), .inr ⟨m, rfl, by omega, rfl⟩⟩
  · refine ⟨[], ?_, .inl rfl⟩
    unfold s_Var
    rw [l1In_eq, Option.bind_some, decide_eq_false h]; rfl
/-- No number's bytes begin another's. -/
theorem varL_pre : ∀ (n m : Nat) (r s : Bs), varL n ++ r = varL m ++ s → n = m := by
  intro n
  induction n using Nat.strongRecOn with
  | ind n ih =>
    intro m r s h
    by_cases hn : n < 128 <;> by_cases hm : m < 128
    · rw [varL_lt hn, varL_lt hm] at h
      have := (List.cons.inj h).1
      have := congrArg UInt8.toNat this
      simp at this; omega
    · rw [varL_lt hn, varL_ge hm] at h
      have := (List.cons.inj h).1
      have := congrArg UInt8.toNat this
      simp at this; omega
    · rw [varL_ge hn, varL_lt hm] at h
      have := (List.cons.inj h).1
      have := congrArg UInt8.toNat this
      simp at this; omega
    · rw [varL_ge hn, varL_ge hm] at h
      obtain ⟨h1, h2⟩ := List.cons.inj h
      have h1 := congrArg UInt8.toNat h1
      simp at h1
      have := ih (n / 128) (by omega) (m / 128) r s h2
      omega
end Go.Proofs.SL
namespace Go.Proofs.SL
open Go
section
variable {σ α : Type} {f : σ → Option (σ ⊕ α)}
theorem whileP_step {s s' : σ} (h : f s = some (.inl s')) : whileP f s = whileP f s' := by rw [whileP_eq, h]
theorem whileP_stop {s : σ} {a : α} (h : f s = some (.inr a)) : whileP f s = some a := by rw [whileP_eq, h]
/-- A loop within a loop. -/
theorem whileP_sum {β γ : Type} {f : σ → Option (σ ⊕ (β ⊕ γ))} {P : β → Prop} {Q : γ → Prop} (I : σ → Prop) (μ : σ → Nat)
    (h : ∀ s, I s → (∃ s', f s = some (.inl s') ∧ I s' ∧ μ s' < μ s) ∨ (∃ b, f s = some (.inr (.inl b)) ∧ P b) ∨ ∃ c, f s = some (.inr (.inr c)) ∧ Q c) (s : σ) (hs : I s) :
    (∃ b, whileP f s = some (.inl b) ∧ P b) ∨ ∃ c, whileP f s = some (.inr c) ∧ Q c := by
  obtain ⟨a, ha, hq⟩ := whileP_rule I μ (fun a : β ⊕ γ => (∃ b, a = .inl b ∧ P b) ∨ ∃ c, a = .inr c ∧ Q c) (fun s hs => by
    rcases h s hs with h1 | ⟨b, h1, h2⟩ | ⟨c, h1, h2⟩
    · exact .inl h1
    · exact .inr ⟨_, h1, .inl ⟨b, rfl, h2⟩⟩
    · exact .inr ⟨_, h1, .inr ⟨c, rfl, h2⟩⟩) s hs
  rcases hq with ⟨b, rfl, h2⟩ | ⟨c, rfl, h2⟩
  · exact .inl ⟨b, ha, h2⟩
  · exact .inr ⟨c, ha, h2⟩
end
/-- What reading a number yields: nothing, or a number whose bytes stand in front. -/
def RV (l : Bs) (r : Int × Int) : Prop := r.2 = 0 ∨ ∃ m k : Nat, r = ((m : Int), (k : Int)) ∧ m ≤ 562949953421311 ∧ 1 ≤ k ∧ k ≤ l.length ∧ varL m = l.take k
theorem ssl_take {l : Bs} {b : Nat} (hb : b ≤ l.length) : sslP (strP l) 0 (b : Int) = some (strP (l.take b)) := by
  have := ssl_list (l := l) (a := 0) (b := b) (Nat.zero_le _) hb
  simpa using this
theorem ssl_one {l : Bs} (h : 1 ≤ l.length) : sslP (strP l) 0 1 = some (strP (l.take 1)) := ssl_take h
theorem ssl_two {l : Bs} (h : 2 ≤ l.length) : sslP (strP l) 0 2 = some (strP (l.take 2)) := ssl_take h
theorem take_ne {l : Bs} {k : Nat} (h1 : 1 ≤ k) (h2 : k ≤ l.length) : l.take k ≠ [] := by
  intro h
  have := congrArg List.length h
  rw [List.length_take, List.length_nil] at this
  omega
theorem rv_check {l : Bs} {k : Nat} (h1 : 1 ≤ k) (h2 : k ≤ l.length) {n : Int} {v : Bs} (hv : v = [] ∨ ∃ m : Nat, n = (m : Int) ∧ m ≤ 562949953421311 ∧ v = varL m) (he : strP v = strP (l.take k)) : RV l (n, (k : Int)) := by
  have he := strP_inj.1 he
  rcases hv with rfl | ⟨m, rfl, hm, rfl⟩
  · exact (take_ne h1 h2 he.symm).elim
  · exact .inr ⟨m, k, rfl, hm, h1, h2, he⟩
theorem i_ReadVar_sound (l : Bs) : ∃ r, i_ReadVar (strP l) = some r ∧ RV l r := by
  unfold i_ReadVar
  refine whileP_rule (fun s : Int × Int => ∃ k : Nat, s.2 = (k : Int) ∧ k ≤ 7) (fun s => (7 - s.2).toNat) (RV l) ?_ (0, 0) ⟨0, rfl, by omega⟩
  rintro ⟨n, k'⟩ ⟨k, rfl, hk⟩
  dsimp only
  rw [strP_size]
  by_cases hc : k < l.length ∧ k < 7
  · obtain ⟨hc1, hc2⟩ := hc
    have hx : l[k]? = some l[k] := List.getElem?_eq_getElem hc1
    rw [decide_eq_true (by omega), decide_eq_true (by omega), Bool.true_and, cond_true, sidx_list hx, Option.bind_some]
    unfold shlP
    rw [wrap64_in (n := 7 * (k : Int)) (by unfold inR; omega), if_pos ⟨by omega, by show (7 * (k : Int)) ≤ (64 : Nat); omega⟩, Option.bind_some, Option.bind_some]
    rw [wrap64_in (n := (k : Int) + 1) (by unfold inR; omega)]
    generalize bits .or .i64 n _ = n'
    by_cases hb : (l[k].toNat : Int) < 128
    · right
      obtain ⟨v, hv1, hv2⟩ := i_Var_any n'
      rw [decide_eq_true hb, cond_true, hv1, Option.bind_some, show (k : Int) + 1 = ((k + 1 : Nat) : Int) by omega, ssl_take (by omega), Option.bind_some]
      by_cases he : strP v = strP (l.take (k + 1))
      · rw [decide_eq_true he]
        exact ⟨_, rfl, rv_check (by omega) (by omega) hv2 he⟩
      · rw [decide_eq_false he]
        exact ⟨_, rfl, .inl rfl⟩
    · left
      rw [decide_eq_false hb, cond_false]
      exact ⟨_, rfl, ⟨k + 1, by dsimp only; omega, by omega⟩, by dsimp only; omega⟩
  · right
    have : (decide ((k : Int) < (l.length : Int)) && decide ((k : Int) < 7)) = false := by
      rw [Bool.and_eq_false_iff, decide_eq_false_iff_not, decide_eq_false_iff_not]; omega
    rw [this, cond_false]
    exact ⟨_, rfl, .inl rfl⟩
theorem s_ReadVar_sound (l : Bs) (hl : l.length ≤ 1099511627776) : ∃ r, s_ReadVar (strP l) = some r ∧ RV l r := by
  unfold s_ReadVar
  refine whileP_rule (fun s : Int => ∃ k : Nat, s = (k : Int) ∧ 1 ≤ k ∧ k ≤ 8) (fun s => (8 - s).toNat) (RV l) ?_ 1 ⟨1, rfl, by omega, by omega⟩
  rintro k' ⟨k, rfl, hk1, hk⟩
  rw [strP_size]
  by_cases hc : k ≤ 7 ∧ k ≤ l.length
  · obtain ⟨hc1, hc2⟩ := hc
    rw [decide_eq_true (by omega), decide_eq_true (by omega), Bool.true_and, cond_true, wrap64_in (n := (k : Int) - 1) (by unfold inR; omega), wrap64_in (n := (k : Int) + 1) (by unfold inR; omega)]
    refine whileP_sum (fun s : Int × Int => ∃ j : Nat, s.2 = (j : Int) - 1 ∧ j ≤ k) (fun s => (s.2 + 1).toNat) ?_ (0, (k : Int) - 1) ⟨k, rfl, Nat.le_refl _⟩
    rintro ⟨n, j'⟩ ⟨j, hj, hjk⟩
    dsimp only at hj ⊢
    subst hj
    by_cases h0 : 1 ≤ j
    · left
      have hx : l[j - 1]? = some (l[j - 1]'(by omega)) := List.getElem?_eq_getElem _
      rw [decide_eq_true (by omega), cond_true, show (j : Int) - 1 = ((j - 1 : Nat) : Int) by omega, sidx_list hx, Option.bind_some, wrap64_in (n := ((j - 1 : Nat) : Int) - 1) (by unfold inR; omega)]
      exact ⟨_, rfl, ⟨j - 1, rfl, by omega⟩, by dsimp only; omega⟩
    · right
      obtain ⟨v, hv1, hv2⟩ := s_Var_any n
      rw [decide_eq_false (by omega), cond_false, hv1, Option.bind_some, ssl_take hc2, Option.bind_some]
      by_cases he : strP v = strP (l.take k)
      · rw [decide_eq_true he]
        exact .inr ⟨_, rfl, rv_check hk1 hc2 hv2 he⟩
      · rw [decide_eq_false he]
        exact .inl ⟨_, rfl, ⟨k + 1, by omega, by omega, by omega⟩, by omega⟩
  · right
    have : (decide ((k : Int) ≤ 7) && decide ((k : Int) ≤ (l.length : Int))) = false := by
      rw [Bool.and_eq_false_iff, decide_eq_false_iff_not, decide_eq_false_iff_not]; omega
    rw [this, cond_false]
    exact ⟨_, rfl, .inl rfl⟩
/-! What is written is read. -/
theorem iv1 : ∀ x : Fin 128, bits .or .i64 0 (IntKind.wrap .i64 (IntKind.wrap .i64 (bits .and .u8 ((x.val : Nat) : Int) 127) * 2 ^ (0 : Int).toNat)) = ((x.val : Nat) : Int) := by decide +kernel
theorem iv2 : ∀ x : Fin 73, bits .or .i64 (bits .or .i64 0 (IntKind.wrap .i64 (IntKind.wrap .i64 (bits .and .u8 ((128 + x.val : Nat) : Int) 127) * 2 ^ (0 : Int).toNat))) (IntKind.wrap .i64 (IntKind.wrap .i64 (bits .and .u8 (1 : Int) 127) * 2 ^ (7 : Int).toNat)) = ((128 + x.val : Nat) : Int) := by decide +kernel
theorem sidx0 {l : Bs} {b : UInt8} (h : l[0]? = some b) : sidx (strP l) 0 = some (b.toNat : Int) := sidx_list h
theorem sidx1 {l : Bs} {b : UInt8} (h : l[1]? = some b) : sidx (strP l) 1 = some (b.toNat : Int) := sidx_list h
theorem u8n {m : Nat} (h : m < 256) : (UInt8.ofNat m).toNat = m := by simp; omega
theorem i_ReadVar_hit {m : Nat} {t : Bs} (hm : m ≤ 200) : ∃ r, i_ReadVar (strP (varL m ++ t)) = some r ∧ r.2 ≠ 0 := by
  unfold i_ReadVar
  rw [strP_size]
  by_cases h : m < 128
  · have hv := varL_lt h
    have hx : (varL m ++ t)[0]? = some (UInt8.ofNat m) := by rw [hv]; rfl
    have hl : 1 ≤ (varL m ++ t).length := by rw [hv]; simp
    have ht : (varL m ++ t).take 1 = varL m := by rw [hv]; rfl
    refine ⟨((m : Int), 1), whileP_stop ?_, by show (1 : Int) ≠ 0; decide⟩
    dsimp only
    rw [decide_eq_true (show (0 : Int) < _ by omega), show decide ((0 : Int) < 7) = true from rfl, Bool.true_and, cond_true, sidx0 hx, Option.bind_some, u8n (by omega)]
    unfold shlP
    rw [show IntKind.wrap .i64 (7 * 0) = 0 from rfl, if_pos ⟨by decide, by decide⟩, Option.bind_some, iv1 ⟨m, h⟩, Option.bind_some, decide_eq_true (show (m : Int) < 128 by omega), cond_true]
    dsimp only
    rw [i_Var_eq (by omega), Option.bind_some, show IntKind.wrap .i64 (0 + 1) = ((1 : Nat) : Int) from rfl, ssl_take hl, Option.bind_some, ht]
    simp
  · have hv := varL_ge h
    rw [varL_lt (show m / 128 < 128 by omega), show m / 128 = 1 by omega] at hv
    have hx : (varL m ++ t)[0]? = some (UInt8.ofNat (128 + m % 128)) := by rw [hv]; rfl
    have hx1 : (varL m ++ t)[1]? = some (UInt8.ofNat 1) := by rw [hv]; rfl
    have hl : 2 ≤ (varL m ++ t).length := by rw [hv]; simp
    have ht : (varL m ++ t).take 2 = varL m := by rw [hv]; rfl
    obtain ⟨x, rfl⟩ : ∃ x : Nat, m = 128 + x := ⟨m - 128, by omega⟩
    have e : 128 + (128 + x) % 128 = 128 + x := by omega
    rw [e] at hx
    refine ⟨(((128 + x : Nat) : Int), 2), (whileP_step (s' := (bits .or .i64 0 (IntKind.wrap .i64 (IntKind.wrap .i64 (bits .and .u8 ((128 + x : Nat) : Int) 127) * 2 ^ (0 : Int).toNat)), 1)) ?_).trans (whileP_stop ?_), by show (2 : Int) ≠ 0; decide⟩
    · dsimp only
      rw [decide_eq_true (show (0 : Int) < _ by omega), show decide ((0 : Int) < 7) = true from rfl, Bool.true_and, cond_true, sidx0 hx, Option.bind_some, u8n (by omega)]
      unfold shlP
      rw [show IntKind.wrap .i64 (7 * 0) = 0 from rfl, if_pos ⟨by decide, by decide⟩, Option.bind_some, Option.bind_some, decide_eq_false (show ¬ (((128 + x : Nat) : Int) < 128) by omega), cond_false]
      rfl
    · dsimp only
      rw [decide_eq_true (show (1 : Int) < _ by omega), show decide ((1 : Int) < 7) = true from rfl, Bool.true_and, cond_true, sidx1 hx1, Option.bind_some, u8n (show 1 < 256 by omega)]
      unfold shlP
      rw [show IntKind.wrap .i64 (7 * 1) = 7 from rfl, if_pos ⟨by decide, by decide⟩, Option.bind_some, show (((1 : Nat) : Int)) = 1 from rfl, iv2 ⟨x, by omega⟩, Option.bind_some, show decide ((1 : Int) < 128) = true from rfl, cond_true]
      dsimp only
      rw [i_Var_eq (by omega), Option.bind_some, show IntKind.wrap .i64 (1 + 1) = ((2 : Nat) : Int) from rfl, ssl_take hl, Option.bind_some, ht]
      simp
theorem s_ReadVar_hit {m : Nat} {t : Bs} (hm : m ≤ 200) : ∃ r, s_ReadVar (strP (varL m ++ t)) = some r ∧ r.2 ≠ 0 := by
  unfold s_ReadVar
  rw [strP_size]
  by_cases h : m < 128
  · have hv := varL_lt h
    have hx : (varL m ++ t)[0]? = some (UInt8.ofNat m) := by rw [hv]; rfl
    have hl : 1 ≤ (varL m ++ t).length := by rw [hv]; simp
    have ht : (varL m ++ t).take 1 = varL m := by rw [hv]; rfl
    refine ⟨((m : Int), 1), whileP_stop ?_, by show (1 : Int) ≠ 0; decide⟩
    rw [show decide ((1 : Int) ≤ 7) = true from rfl, decide_eq_true (show (1 : Int) ≤ _ by omega), Bool.true_and, cond_true, show IntKind.wrap .i64 (1 - 1) = 0 from rfl]
    refine (whileP_step (s' := ((m : Int), -1)) ?_).trans (whileP_stop ?_)
    · dsimp only
      rw [show decide ((0 : Int) ≤ 0) = true from rfl, cond_true, sidx0 hx, Option.bind_some, u8n (by omega), wrap64_in (n := (m : Int)) (by unfold inR; omega), Int.tmod_eq_emod_of_nonneg (by omega), show IntKind.wrap .i64 (0 * 128) = 0 from rfl, wrap64_in (by unfold inR; omega)]
      congr 3
      omega
    · dsimp only
      rw [show decide ((0 : Int) ≤ -1) = false from rfl, cond_false, s_Var_eq (by omega), Option.bind_some, ssl_one hl, Option.bind_some, ht]
      simp
  · have hv := varL_ge h
    rw [varL_lt (show m / 128 < 128 by omega), show m / 128 = 1 by omega] at hv
    have hx : (varL m ++ t)[0]? = some (UInt8.ofNat (128 + m % 128)) := by rw [hv]; rfl
    have hx1 : (varL m ++ t)[1]? = some (UInt8.ofNat 1) := by rw [hv]; rfl
    have hl : 2 ≤ (varL m ++ t).length := by rw [hv]; simp
    have ht : (varL m ++ t).take 2 = varL m := by rw [hv]; rfl
    have ht1 : (varL m ++ t).take 1 = [UInt8.ofNat (128 + m % 128)] := by rw [hv]; rfl
    refine ⟨((m : Int), 2), (whileP_step (s' := 2) ?_).trans (whileP_stop ?_), by show (2 : Int) ≠ 0; decide⟩
    · rw [show decide ((1 : Int) ≤ 7) = true from rfl, decide_eq_true (show (1 : Int) ≤ _ by omega), Bool.true_and, cond_true, show IntKind.wrap .i64 (1 - 1) = 0 from rfl]
      refine (whileP_step (s' := (((m % 128 : Nat) : Int), -1)) ?_).trans (whileP_stop ?_)
      · dsimp only
        rw [show decide ((0 : Int) ≤ 0) = true from rfl, cond_true, sidx0 hx, Option.bind_some, u8n (by omega), wrap64_in (n := ((128 + m % 128 : Nat) : Int)) (by unfold inR; omega), Int.tmod_eq_emod_of_nonneg (by omega), show IntKind.wrap .i64 (0 * 128) = 0 from rfl, wrap64_in (n := 0 + _) (by unfold inR; omega)]
        congr 3
        omega
      · dsimp only
        rw [show decide ((0 : Int) ≤ -1) = false from rfl, cond_false, s_Var_eq (by omega), Option.bind_some, ssl_one (by omega), Option.bind_some, ht1, varL_lt (by omega), decide_eq_false ?_]
        · rfl
        · intro he
          have := congrArg UInt8.toNat (List.cons.inj (strP_inj.1 he)).1
          rw [u8n (by omega), u8n (by omega)] at this
          omega
    · rw [show decide ((2 : Int) ≤ 7) = true from rfl, decide_eq_true (show (2 : Int) ≤ _ by omega), Bool.true_and, cond_true, show IntKind.wrap .i64 (2 - 1) = 1 from rfl]
      refine (whileP_step (s' := (1, 0)) ?_).trans ((whileP_step (s' := ((m : Int), -1)) ?_).trans (whileP_stop ?_))
      · dsimp only
        rw [show decide ((0 : Int) ≤ 1) = true from rfl, cond_true, sidx1 hx1, Option.bind_some, u8n (show 1 < 256 by omega)]
        rfl
      · dsimp only
        rw [show decide ((0 : Int) ≤ 0) = true from rfl, cond_true, sidx0 hx, Option.bind_some, u8n (by omega), wrap64_in (n := ((128 + m % 128 : Nat) : Int)) (by unfold inR; omega), Int.tmod_eq_emod_of_nonneg (by omega), show IntKind.wrap .i64 (1 * 128) = 128 from rfl, wrap64_in (n := 128 + _) (by unfold inR; omega)]
        congr 3
        omega
      · dsimp only
        rw [show decide ((0 : Int) ≤ -1) = false from rfl, cond_false, s_Var_eq (by omega), Option.bind_some, ssl_two hl, Option.bind_some, ht]
        simp
end Go.Proofs.SL
namespace Go.Proofs.SL
open Go
theorem xor_bd {a b : Int} (ha : 0 ≤ a ∧ a < 4294967296) (hb : 0 ≤ b ∧ b < 4294967296) : 0 ≤ bits .xor .i64 a b ∧ bits .xor .i64 a b < 4294967296 := by
  obtain ⟨m, rfl⟩ := Int.eq_ofNat_of_zero_le ha.1
  obtain ⟨n, rfl⟩ := Int.eq_ofNat_of_zero_le hb.1
  show 0 ≤ IntKind.wrap .i64 (((BitVec.ofInt 64 (m : Int)) ^^^ (BitVec.ofInt 64 (n : Int))).toNat : Int) ∧ IntKind.wrap .i64 (((BitVec.ofInt 64 (m : Int)) ^^^ (BitVec.ofInt 64 (n : Int))).toNat : Int) < 4294967296
  have h1 : (BitVec.ofInt 64 (m : Int)).toNat = m := by rw [BitVec.toNat_ofInt]; omega
  have h2 : (BitVec.ofInt 64 (n : Int)).toNat = n := by rw [BitVec.toNat_ofInt]; omega
  rw [BitVec.toNat_xor, h1, h2]
  have := Nat.xor_lt_two_pow (n := 32) (show m < 2 ^ 32 by omega) (show n < 2 ^ 32 by omega)
  rw [wrap64_in (by unfold inR; omega)]
  omega
theorem and1 {m : Nat} (h : m < 9223372036854775808) : bits .and .i64 (m : Int) 1 = ((m % 2 : Nat) : Int) := by
  show IntKind.wrap .i64 (((BitVec.ofInt 64 (m : Int)) &&& (BitVec.ofInt 64 1)).toNat : Int) = _
  rw [BitVec.toNat_and, show (BitVec.ofInt 64 1).toNat = 2 ^ 1 - 1 by decide, Nat.and_two_pow_sub_one_eq_mod, BitVec.toNat_ofInt]
  rw [wrap64_in (by unfold inR; omega)]
  omega
def In32 (c : Int) : Prop := 0 ≤ c ∧ c < 4294967296
/-- One bit of the sum, one byte of it. -/
def halfC (c : Int) : Int := if c % 2 = 1 then bits .xor .i64 (c / 2) 2197175160 else c / 2
def byteC (c : Int) (b : UInt8) : Int := Nat.repeat halfC 8 (bits .xor .i64 c (b.toNat : Int))
def crcC (l : Bs) : Int := l.foldl byteC 4294967295
def crcL (l : Bs) : Int := 4294967295 - crcC l
theorem half_in {c : Int} (h : In32 c) : In32 (halfC c) := by
  unfold In32 at *
  unfold halfC
  split
  · exact xor_bd (by omega) (by omega)
  · omega
theorem rep_in {c : Int} (h : In32 c) : ∀ n, In32 (Nat.repeat halfC n c)
  | 0 => h
  | n + 1 => half_in (rep_in h n)
theorem byte_in {c : Int} (h : In32 c) (b : UInt8) : In32 (byteC c b) := rep_in (xor_bd h (by have := b.toNat_lt; omega)) 8
theorem fold_in : ∀ (l : Bs) {c : Int}, In32 c → In32 (l.foldl byteC c)
  | [], _, h => h
  | b :: l, _, h => fold_in l (byte_in h b)
theorem crc_in (l : Bs) : In32 (crcC l) := fold_in l (by unfold In32; omega)
section
variable {β : Type}
/-- The loop over the eight bits of a byte. -/
theorem bit_loop {f : Int × Int → Option ((Int × Int) ⊕ β)} {r : Int → β} {c : Int} (hc : In32 c)
    (h1 : ∀ (m : Int) (i : Nat), In32 m → i < 8 → f (m, (i : Int)) = some (.inl (halfC m, ((i + 1 : Nat) : Int)))) (h2 : ∀ m, f (m, 8) = some (.inr (r m))) : whileP f (c, 0) = some (r (Nat.repeat halfC 8 c)) := by
  refine whileP_is (fun s : Int × Int => ∃ i : Nat, s.2 = (i : Int) ∧ i ≤ 8 ∧ s.1 = Nat.repeat halfC i c) (fun s => (8 - s.2).toNat) ?_ ⟨0, rfl, by omega, rfl⟩
  rintro ⟨m, i'⟩ ⟨i, rfl, hi, rfl⟩
  dsimp only
  by_cases h : i < 8
  · left
    exact ⟨_, h1 _ i (rep_in hc i) h, ⟨i + 1, rfl, by omega, rfl⟩, by dsimp only; omega⟩
  · right
    obtain rfl : i = 8 := by omega
    exact h2 _
/-- The loop over the bytes. -/
theorem byte_loop {f : Int × Int → Option ((Int × Int) ⊕ Int)} {l : Bs}
    (h1 : ∀ (c : Int) (k : Nat) (b : UInt8), In32 c → l[k]? = some b → f (c, (k : Int)) = some (.inl (byteC c b, ((k + 1 : Nat) : Int)))) (h2 : ∀ c, In32 c → f (c, (l.length : Int)) = some (.inr (4294967295 - c))) : whileP f (4294967295, 0) = some (crcL l) := by
  refine whileP_is (fun s : Int × Int => ∃ k : Nat, s.2 = (k : Int) ∧ k ≤ l.length ∧ s.1 = (l.take k).foldl byteC 4294967295) (fun s => ((l.length : Int) - s.2).toNat) ?_ ⟨0, rfl, Nat.zero_le _, rfl⟩
  rintro ⟨c, k'⟩ ⟨k, rfl, hk, rfl⟩
  dsimp only
  have hin : In32 ((l.take k).foldl byteC 4294967295) := fold_in _ (by unfold In32; omega)
  by_cases h : k < l.length
  · left
    have hx : l[k]? = some l[k] := List.getElem?_eq_getElem h
    refine ⟨_, h1 _ k _ hin hx, ⟨k + 1, rfl, by omega, ?_⟩, by dsimp only; omega⟩
    dsimp only
    rw [List.take_add_one, hx, List.foldl_append]; rfl
  · right
    obtain rfl : k = l.length := by omega
    rw [h2 _ hin, List.take_length]; rfl
end
theorem i_Crc_eq {l : Bs} (hl : l.length ≤ 1099511627776) : i_Crc (strP l) = some (crcL l) := by
  unfold i_Crc
  rw [strP_size]
  refine byte_loop (fun c k b hc hb => ?_) (fun c hc => ?_)
  · have hk := (List.getElem?_eq_some_iff.1 hb).1
    dsimp only
    rw [decide_eq_true (show (k : Int) < _ by omega), cond_true, sidx_list hb, Option.bind_some]
    have hbl := b.toNat_lt
    rw [wrap64_in (n := (b.toNat : Int)) (by unfold inR; omega), wrap64_in (n := (k : Int) + 1) (by unfold inR; omega)]
    refine bit_loop (c := bits .xor .i64 c (b.toNat : Int)) (r := fun m => (Sum.inl (m, ((k + 1 : Nat) : Int)) : (Int × Int) ⊕ Int)) (xor_bd hc (by omega)) (fun m i hm hi => ?_) (fun m => ?_)
    · dsimp only
      obtain ⟨n, rfl⟩ := Int.eq_ofNat_of_zero_le hm.1
      have hn := hm.2
      rw [decide_eq_true (show (i : Int) < 8 by omega), cond_true, and1 (by omega), wrap64_in (n := (i : Int) + 1) (by unfold inR; omega)]
      unfold halfC
      show (cond _ (some (Sum.inl (bits .xor .i64 ((n : Int) / 2) 2197175160, _))) (some (Sum.inl ((n : Int) / 2, _))) : Option ((Int × Int) ⊕ _)) = _
      by_cases h : n % 2 = 1
      · rw [decide_eq_true (by omega), cond_true, if_pos (by omega)]; rfl
      · rw [decide_eq_false (by omega), cond_false, if_neg (by omega)]; rfl
    · dsimp only
      rfl
  · dsimp only
    rw [decide_eq_false (by omega), cond_false]
    have := hc.1; have := hc.2
    rw [wrap64_in (by unfold inR; omega)]; rfl
theorem s_Crc_eq {l : Bs} (hl : l.length ≤ 1099511627776) : s_Crc (strP l) = some (crcL l) := by
  unfold s_Crc
  rw [strP_size]
  refine byte_loop (fun c k b hc hb => ?_) (fun c hc => ?_)
  · have hk := (List.getElem?_eq_some_iff.1 hb).1
    dsimp only
    rw [decide_eq_true (show (k : Int) < _ by omega), cond_true, sidx_list hb, Option.bind_some]
    have hbl := b.toNat_lt
    rw [wrap64_in (n := (b.toNat : Int)) (by unfold inR; omega), wrap64_in (n := (k : Int) + 1) (by unfold inR; omega)]
    refine bit_loop (c := bits .xor .i64 c (b.toNat : Int)) (r := fun m => (Sum.inl (m, ((k + 1 : Nat) : Int)) : (Int × Int) ⊕ Int)) (xor_bd hc (by omega)) (fun m i hm hi => ?_) (fun m => ?_)
    · dsimp only
      obtain ⟨n, rfl⟩ := Int.eq_ofNat_of_zero_le hm.1
      have hn := hm.2
      rw [decide_eq_true (show (i : Int) < 8 by omega), cond_true, Int.tmod_eq_emod_of_nonneg (by omega), Int.tdiv_eq_ediv_of_nonneg (by omega), wrap64_in (n := (i : Int) + 1) (by unfold inR; omega), wrap64_in (n := (n : Int) / 2) (by unfold inR; omega)]
      unfold halfC
      by_cases h : (n : Int) % 2 = 1
      · rw [decide_eq_true h, cond_true, if_pos h]; rfl
      · rw [decide_eq_false h, cond_false, if_neg h]; rfl
    · dsimp only
      rfl
  · dsimp only
    rw [decide_eq_false (by omega), cond_false]
    have := hc.1; have := hc.2
    rw [wrap64_in (by unfold inR; omega)]; rfl
theorem crcL_in (l : Bs) : 0 ≤ crcL l ∧ crcL l < 4294967296 := by
  have := crc_in l
  unfold In32 at this
  unfold crcL; omega
def crcN (l : Bs) : Nat := (crcL l).toNat
theorem crcN_eq (l : Bs) : crcL l = (crcN l : Int) := by have := crcL_in l; unfold crcN; omega
theorem crcN_lt (l : Bs) : crcN l < 4294967296 := by have := crcL_in l; unfold crcN; omega
theorem be_succ (k n : Nat) : be (k + 1) n = UInt8.ofNat (n / 256 ^ k) :: be k n := by
  unfold be
  rw [List.range_succ_eq_map, List.map_cons, List.map_map]
  congr 1
  refine List.map_congr_left fun j hj => ?_
  show UInt8.ofNat (n / 256 ^ (k + 1 - 1 - (j + 1))) = _
  rw [show k + 1 - 1 - (j + 1) = k - 1 - j by omega]
theorem s_Fixed_eq {n : Nat} (hn : n < 4294967296) : s_Fixed (n : Int) 4 = some (strP (be 4 n)) := by
  unfold s_Fixed
  rw [l1In_eq, Option.bind_some, show decide ((1 : Int) ≤ 4 ∧ (4 : Int) ≤ 7) = true from by decide, show decide ((n : Int) < 0) = false from decide_eq_false (by omega), Bool.not_true, Bool.or_false, cond_false]
  refine whileP_is (fun s : Int × ByteArray × Int => ∃ i : Nat, s.2.2 = (i : Int) ∧ i ≤ 4 ∧ s.2.1 = strP (be i n) ∧ s.1 = ((n / 256 ^ i : Nat) : Int)) (fun s => (4 - s.2.2).toNat) ?_ ⟨0, rfl, by omega, rfl, by simp⟩
  rintro ⟨m, out, i'⟩ ⟨i, rfl, hi, rfl, rfl⟩
  dsimp only
  by_cases h : i < 4
  · left
    have hb : n / 256 ^ i ≤ n := Nat.div_le_self _ _
    generalize hq : n / 256 ^ i = q at hb ⊢
    rw [decide_eq_true (by omega), cond_true, Int.tmod_eq_emod_of_nonneg (by omega), Int.tdiv_eq_ediv_of_nonneg (by omega), show (q : Int) % 256 = ((q % 256 : Nat) : Int) by omega, u8_mod, Option.bind_some, Option.bind_some, catP_ok (by rw [strP_size, strP_size, be_len]; simp; omega), Option.bind_some, strP_app, wrap64_in (n := (q : Int) / 256) (by unfold inR; omega), wrap64_in (n := (i : Int) + 1) (by unfold inR; omega)]
    refine ⟨_, rfl, ⟨i + 1, rfl, by omega, ?_, ?_⟩, by dsimp only; omega⟩
    · dsimp only; rw [be_succ, hq]; rfl
    · dsimp only
      rw [Nat.pow_succ, ← Nat.div_div_eq_div_mul, hq]; omega
  · right
    obtain rfl : i = 4 := by omega
    have h256 : (256 : Nat) ^ 4 = 4294967296 := by decide
    rw [show decide (((4 : Nat) : Int) < 4) = false from rfl, cond_false, decide_eq_false (by rw [h256]; omega)]
    rfl
def szL (x : Bs) : Bs := varL x.length ++ x
def frL (x : Bs) : Bs := be 4 (crcN (szL x)) ++ szL x
theorem szL_len {x : Bs} (h : x.length ≤ 200) : (szL x).length ≤ 207 := by
  unfold szL; rw [List.length_append]
  have := (varL_7 (n := x.length) (by omega)).2
  omega
theorem frL_len {x : Bs} (h : x.length ≤ 200) : 5 ≤ (frL x).length ∧ (frL x).length ≤ 211 := by
  unfold frL
  have h1 := szL_len h
  have h2 := (varL_7 (n := x.length) (by omega)).1
  rw [List.length_append, be_len]
  unfold szL at *
  rw [List.length_append] at *
  omega
def frameL (x : Bs) : Bs := if 200 < x.length then [] else frL x
theorem i_sized_eq {x : Bs} (h : x.length ≤ 200) : i_sized (strP x) = some (strP (szL x)) := by
  unfold i_sized
  have := (varL_7 (n := x.length) (by omega)).2
  rw [strP_size, i_Var_eq (by omega), Option.bind_some, catP_ok (by rw [strP_size, strP_size]; omega), Option.bind_some, strP_app]; rfl
theorem s_l4Piece_eq {x : Bs} (h : x.length ≤ 200) : s_l4Piece (strP x) = some (strP (szL x)) := by
  unfold s_l4Piece
  have := (varL_7 (n := x.length) (by omega)).2
  rw [strP_size, s_Var_eq (by omega), Option.bind_some, catP_ok (by rw [strP_size, strP_size]; omega), Option.bind_some, strP_app]; rfl
theorem i_Frame_eq (x : Bs) : i_Frame (strP x) = some (strP (frameL x)) := by
  unfold i_Frame frameL
  rw [strP_size]
  by_cases h : 200 < x.length
  · rw [decide_eq_true (by omega), cond_true, if_pos h]; rfl
  · have hl := szL_len (x := x) (by omega)
    rw [decide_eq_false (by omega), cond_false, if_neg h, i_sized_eq (by omega), Option.bind_some, i_Crc_eq (by omega), Option.bind_some,
      i_Fixed_eq (k := 4) (n := crcN (szL x)) (b := 4) (by decide) (by decide) (by have := crcN_lt (szL x); omega) (crcN_eq _) rfl, Option.bind_some, Option.bind_some, catP_ok (by rw [strP_size, strP_size, be_len]; omega), Option.bind_some, strP_app]
    rfl
theorem s_Frame_eq (x : Bs) : s_Frame (strP x) = some (strP (frameL x)) := by
  unfold s_Frame frameL
  rw [strP_size]
  by_cases h : 200 < x.length
  · rw [decide_eq_true (by omega), cond_true, if_pos h]; rfl
  · have hl := szL_len (x := x) (by omega)
    rw [decide_eq_false (by omega), cond_false, if_neg h, s_l4Piece_eq (by omega), Option.bind_some, s_Crc_eq (by omega), Option.bind_some, crcN_eq,
      s_Fixed_eq (crcN_lt _), Option.bind_some, catP_ok (by rw [strP_size, strP_size, be_len]; omega), Option.bind_some, strP_app]
    rfl
end Go.Proofs.SL
namespace Go.Proofs.SL
open Go
/-- A frame stands in front of the text. -/
def Fr (x t : Bs) : Prop := x.length ≤ 200 ∧ frL x <+: t
theorem szL_pre {x y r s : Bs} (h : szL x ++ r = szL y ++ s) : x = y := by
  unfold szL at h
  rw [List.append_assoc, List.append_assoc] at h
  have hn := varL_pre _ _ _ _ h
  rw [hn] at h
  have := List.append_cancel_left h
  exact (List.append_inj this hn).1
theorem Fr_one {x y t : Bs} (hx : Fr x t) (hy : Fr y t) : x = y := by
  obtain ⟨_, r, hr⟩ := hx
  obtain ⟨_, s, hs⟩ := hy
  unfold frL at hr hs
  rw [← hs, List.append_assoc, List.append_assoc] at hr
  exact szL_pre (List.append_inj hr (by rw [be_len, be_len])).2
theorem ssl_drop {l : Bs} {a : Nat} (h : a ≤ l.length) {n : Int} (hn : n = (l.length : Int)) : sslP (strP l) (a : Int) n = some (strP (l.drop a)) := by
  subst hn
  rw [ssl_list h (Nat.le_refl _)]
  congr 2
  rw [List.take_of_length_le (by rw [List.length_drop]; omega)]
/-- Reading a text with its length in front. -/
theorem sz_read {l : Bs} {r : Int × Int} (h : RV l r) (hit : ∀ m t, m ≤ 200 → l = varL m ++ t → r.2 ≠ 0) :
    (r.2 = 0 ∧ ∀ x, x.length ≤ 200 → ¬ szL x <+: l) ∨ ∃ m k : Nat, r = ((m : Int), (k : Int)) ∧ 1 ≤ k ∧ k ≤ l.length ∧ varL m = l.take k ∧ m ≤ 562949953421311 ∧ ∀ x, x.length ≤ 200 → szL x <+: l → m ≤ (l.drop k).length ∧ x = (l.drop k).take m := by
  by_cases h0 : r.2 = 0
  · refine .inl ⟨h0, fun x hx ⟨s, hs⟩ => ?_⟩
    unfold szL at hs
    rw [List.append_assoc] at hs
    exact hit _ _ hx hs.symm h0
  · rcases h with h | ⟨m, k, rfl, hm, hk1, hk2, hv⟩
    · exact (h0 h).elim
    · refine .inr ⟨m, k, rfl, hk1, hk2, hv, hm, fun x hx ⟨s, hs⟩ => ?_⟩
      have e : l = varL m ++ l.drop k := by rw [hv, List.take_append_drop]
      unfold szL at hs
      rw [List.append_assoc] at hs
      have hn := varL_pre _ _ _ _ (hs.trans e)
      rw [hn] at hs
      have h2 := List.append_cancel_left (hs.trans e)
      rw [← h2, List.length_append, hn]
      refine ⟨by omega, ?_⟩
      rw [List.take_append_of_le_length (by omega), List.take_of_length_le (by omega)]
theorem szL_take {l : Bs} {m k : Nat} (hv : varL m = l.take k) (hm : m ≤ (l.drop k).length) : szL ((l.drop k).take m) = l.take (k + m) := by
  unfold szL
  rw [List.length_take, Nat.min_eq_left hm, hv, ← List.take_add]
/-- A frame stands in front exactly where reading says so. -/
theorem Fr_iff {x t : Bs} (h5 : 4 ≤ t.length) : Fr x t ↔ x.length ≤ 200 ∧ be 4 (crcN (szL x)) = t.take 4 ∧ szL x <+: t.drop 4 := by
  unfold Fr frL
  refine and_congr_right fun _ => ⟨fun ⟨s, hs⟩ => ?_, fun ⟨h1, s, hs⟩ => ⟨s, ?_⟩⟩
  · subst hs
    rw [List.append_assoc, List.take_append_of_le_length (by rw [be_len]; omega), List.drop_append_of_le_length (by rw [be_len]; omega)]
    rw [List.take_of_length_le (by rw [be_len]; omega), List.drop_of_length_le (by rw [be_len]; omega)]
    exact ⟨rfl, s, rfl⟩
  · rw [h1, List.append_assoc, hs, List.take_append_drop]
theorem i_scan_text_eq {l : Bs} (hl : l.length ≤ 1099511627776) : ∃ x bad, i_scan_text (strP l, false) = some (strP x, bad) ∧ (bad.2 = true ∧ (∀ y, y.length ≤ 200 → ¬ szL y <+: l) ∨ bad.2 = false ∧ szL x <+: l ∧ (∀ y, y.length ≤ 200 → szL y <+: l → y = x)) := by
  unfold i_scan_text i_scan_num
  obtain ⟨r, hr, hv⟩ := i_ReadVar_sound l
  have hit : ∀ m t, m ≤ 200 → l = varL m ++ t → r.2 ≠ 0 := fun m t hm e => by
    obtain ⟨r', h1, h2⟩ := i_ReadVar_hit (m := m) (t := t) hm
    rw [← e, hr] at h1; cases h1; exact h2
  rw [hr, Option.bind_some]
  rcases sz_read hv hit with ⟨h0, hno⟩ | ⟨m, k, rfl, hk1, hk2, hvm, hm, hall⟩
  · rw [decide_eq_true h0, Bool.false_or, cond_true, Option.bind_some]
    unfold i_scan_cut
    exact ⟨[], _, rfl, .inl ⟨rfl, hno⟩⟩
  · dsimp only
    rw [decide_eq_false (show ¬ (k : Int) = 0 by omega), Bool.false_or, cond_false, strP_size, ssl_drop hk2 rfl, Option.bind_some, Option.bind_some]
    unfold i_scan_cut
    dsimp only
    rw [Bool.not_false, gb_true, within_eq, Option.bind_some, strP_size, Bool.false_or]
    by_cases hmm : m ≤ (l.drop k).length
    · rw [show decide (0 ≤ (m : Int) ∧ (m : Int) ≤ ((l.drop k).length : Int)) = true from decide_eq_true (by omega), Bool.not_true, cond_false, ssl_take hmm, Option.bind_some, ssl_drop hmm rfl, Option.bind_some]
      refine ⟨(l.drop k).take m, _, rfl, .inr ⟨rfl, ?_, fun y hy hp => (hall y hy hp).2⟩⟩
      rw [szL_take hvm hmm]
      exact List.take_prefix _ _
    · rw [show decide (0 ≤ (m : Int) ∧ (m : Int) ≤ ((l.drop k).length : Int)) = false from decide_eq_false (by omega), Bool.not_false, cond_true]
      exact ⟨[], _, rfl, .inl ⟨rfl, fun y hy hp => hmm (hall y hy hp).1⟩⟩
theorem i_frameAt_eq {t : Bs} (ht : t.length ≤ 1099511627776) : (∃ x, i_frameAt (strP t) = some (strP x, true) ∧ Fr x t) ∨ (i_frameAt (strP t) = some (ByteArray.empty, false) ∧ ∀ x, ¬ Fr x t) := by
  unfold i_frameAt
  rw [strP_size]
  by_cases h5 : t.length < 5
  · rw [decide_eq_true (by omega), cond_true]
    refine .inr ⟨rfl, fun x ⟨h1, h2⟩ => ?_⟩
    have := (frL_len h1).1
    have := h2.length_le
    omega
  rw [decide_eq_false (by omega), cond_false]
  have hd : sslP (strP t) 4 (t.length : Int) = some (strP (t.drop 4)) := ssl_drop (a := 4) (by omega) rfl
  rw [hd, Option.bind_some]
  obtain ⟨x, bad, h1, h2⟩ := i_scan_text_eq (l := t.drop 4) (by rw [List.length_drop]; omega)
  rw [h1, Option.bind_some, i_Frame_eq, Option.bind_some]
  dsimp only
  rcases h2 with ⟨h2, h3⟩ | ⟨h2, h3, h4⟩
  · rw [h2, Bool.true_or, Bool.true_or, Bool.not_true, gb_false, Bool.true_or, cond_true]
    exact .inr ⟨rfl, fun y hy => h3 y hy.1 ((Fr_iff (by omega)).1 hy).2.2⟩
  · rw [h2, Bool.false_or]
    have hno : ∀ y, Fr y t → y = x := fun y hy => h4 y hy.1 ((Fr_iff (by omega)).1 hy).2.2
    by_cases h200 : 200 < x.length
    · rw [show frameL x = [] by unfold frameL; rw [if_pos h200], decide_eq_true (by rfl), Bool.true_or, Bool.not_true, gb_false, Bool.true_or, cond_true]
      exact .inr ⟨rfl, fun y hy => by have := hno y hy; subst this; have := hy.1; omega⟩
    · have hfl := frL_len (x := x) (by omega)
      rw [show frameL x = frL x by unfold frameL; rw [if_neg h200], strP_size, decide_eq_false (by rw [strP_nil, strP_inj]; intro e; rw [e] at hfl; simp at hfl), Bool.false_or]
      by_cases hsz : t.length < (frL x).length
      · rw [decide_eq_true (by omega), Bool.not_true, gb_false, Bool.true_or, cond_true]
        refine .inr ⟨rfl, fun y hy => ?_⟩
        have := hno y hy; subst this
        have := hy.2.length_le; omega
      · rw [decide_eq_false (by omega), Bool.not_false, gb_true, ssl_take (by omega), Option.bind_some, Bool.false_or]
        by_cases he : t.take (frL x).length = frL x
        · rw [he, decide_eq_true rfl, Bool.not_true, cond_false]
          exact .inl ⟨x, rfl, by omega, by rw [← he]; exact List.take_prefix _ _⟩
        · rw [decide_eq_false (by rw [strP_inj]; exact he), Bool.not_false, cond_true]
          refine .inr ⟨rfl, fun y hy => ?_⟩
          have := hno y hy; subst this
          exact he (List.prefix_iff_eq_take.1 hy.2).symm
end Go.Proofs.SL
namespace Go.Proofs.SL
open Go
/-- All frames at the front of a text. -/
def Un (t : Bs) (ts : List Bs) (e : Nat) : Prop := (∀ x, x ∈ ts → x.length ≤ 200) ∧ ts.flatMap frL = t.take e ∧ e ≤ t.length ∧ ∀ x, ¬ Fr x (t.drop e)
theorem Un_head {t y : Bs} {s : List Bs} {e : Nat} (h : Un t (y :: s) e) : Fr y t ∧ Un (t.drop (frL y).length) s (e - (frL y).length) ∧ (frL y).length ≤ e := by
  obtain ⟨h1, h2, h3, h4⟩ := h
  rw [List.flatMap_cons] at h2
  have hl : (frL y).length ≤ e := by
    have := congrArg List.length h2
    rw [List.length_append, List.length_take] at this; omega
  refine ⟨⟨h1 y (List.mem_cons_self ..), ?_⟩, ⟨fun x hx => h1 x (List.mem_cons_of_mem _ hx), ?_, by rw [List.length_drop]; omega, ?_⟩, hl⟩
  · exact (List.prefix_append (frL y) (s.flatMap frL)).trans (by rw [h2]; exact List.take_prefix _ _)
  · have := congrArg (List.drop (frL y).length) h2
    rw [List.drop_left, List.drop_take] at this
    exact this
  · rw [List.drop_drop, show (frL y).length + (e - (frL y).length) = e by omega]; exact h4
theorem Un_pre : ∀ (ts' ts : List Bs) (t : Bs) (e : Nat), Un t ts e → (∀ x, x ∈ ts' → x.length ≤ 200) → ts'.flatMap frL <+: t → ts' <+: ts
  | [], _, _, _, _, _, _ => List.nil_prefix
  | x :: r, ts, t, e, h, hx, hp => by
    rw [List.flatMap_cons] at hp
    have hF : Fr x t := ⟨hx x (List.mem_cons_self ..), (List.prefix_append _ _).trans hp⟩
    cases ts with
    | nil =>
      obtain ⟨h1, h2, h3, h4⟩ := h
      have : e = 0 ∨ t.length = 0 := by
        have := congrArg List.length h2
        rw [List.length_take] at this
        simp at this; omega
      have he : e = 0 := by omega
      subst he
      exact (h4 x hF).elim
    | cons y s =>
      obtain ⟨hy, hu, _⟩ := Un_head h
      have e1 := Fr_one hF hy
      subst e1
      obtain ⟨q, hq⟩ := hp
      rw [List.append_assoc] at hq
      have := Un_pre r s (t.drop (frL x).length) _ hu (fun z hz => hx z (List.mem_cons_of_mem _ hz)) (by rw [← hq, List.drop_left]; exact List.prefix_append _ _)
      exact List.cons_prefix_cons.2 ⟨rfl, this⟩
theorem Un_uniq {t : Bs} {ts ts' : List Bs} {e e' : Nat} (h : Un t ts e) (h' : Un t ts' e') : ts = ts' ∧ e = e' := by
  have p1 := Un_pre ts' ts t e h h'.1 (by rw [h'.2.1]; exact List.take_prefix _ _)
  have p2 := Un_pre ts ts' t e' h' h.1 (by rw [h.2.1]; exact List.take_prefix _ _)
  have := p2.eq_of_length_le p1.length_le
  subst this
  refine ⟨rfl, ?_⟩
  have e1 := congrArg List.length (h.2.1.symm.trans h'.2.1)
  rw [List.length_take, List.length_take] at e1
  have := h.2.2.1; have := h'.2.2.1
  omega
theorem Un_cut {t : Bs} {ts ts' : List Bs} {e c e' : Nat} (h : Un t ts e) (h' : Un (t.take c) ts' e') : ts' <+: ts :=
  Un_pre ts' ts t e h h'.1 (by rw [h'.2.1]; exact (List.take_prefix _ _).trans (List.take_prefix _ _))
abbrev USt := List ByteArray × Int
theorem unframe_loop {f : USt → Option (USt ⊕ USt)} {t : Bs}
    (h : ∀ (acc : List Bs) (off : Nat), off ≤ t.length → acc.length ≤ off → (∃ x, f (acc.map strP, (off : Int)) = some (.inl ((acc ++ [x]).map strP, ((off + (frL x).length : Nat) : Int))) ∧ Fr x (t.drop off)) ∨ (f (acc.map strP, (off : Int)) = some (.inr (acc.map strP, (off : Int))) ∧ ∀ x, ¬ Fr x (t.drop off))) :
    ∃ ts e, whileP f ([], 0) = some (ts.map strP, ((e : Nat) : Int)) ∧ Un t ts e := by
  obtain ⟨r, hr, ts, e, rfl, hu⟩ := whileP_rule (fun s : USt => ∃ (acc : List Bs) (off : Nat), s = (acc.map strP, (off : Int)) ∧ off ≤ t.length ∧ acc.length ≤ off ∧ (∀ x, x ∈ acc → x.length ≤ 200) ∧ acc.flatMap frL = t.take off) (fun s => ((t.length : Int) - s.2).toNat) (fun r : USt => ∃ ts e, r = (ts.map strP, ((e : Nat) : Int)) ∧ Un t ts e) (by
    rintro s ⟨acc, off, rfl, h1, h2, h3, h4⟩
    rcases h acc off h1 h2 with ⟨x, hx, hF⟩ | ⟨hx, hF⟩
    · left
      have hl := hF.2.length_le
      rw [List.length_drop] at hl
      have h5 := (frL_len hF.1).1
      refine ⟨_, hx, ⟨acc ++ [x], off + (frL x).length, rfl, by omega, by rw [List.length_append]; simp; omega, ?_, ?_⟩, by dsimp only; omega⟩
      · intro y hy
        rcases List.mem_append.1 hy with hy | hy
        · exact h3 y hy
        · rw [List.mem_singleton.1 hy]; exact hF.1
      · rw [List.flatMap_append, h4, List.flatMap_singleton, List.take_add, ← List.prefix_iff_eq_take.1 hF.2]
    · right
      exact ⟨_, hx, acc, off, rfl, h3, h4, h1, hF⟩) ([], 0) ⟨[], 0, rfl, Nat.zero_le _, Nat.le_refl _, by simp, by simp⟩
  exact ⟨ts, e, hr, hu⟩
theorem i_Unframe_eq {t : Bs} (ht : t.length ≤ 1000000000) : ∃ ts e, i_Unframe (strP t) = some (ts.map strP, ((e : Nat) : Int)) ∧ Un t ts e := by
  unfold i_Unframe
  rw [Option.bind_some]
  refine unframe_loop (fun acc off ho ha => ?_)
  dsimp only
  rw [strP_size, ssl_drop ho rfl, Option.bind_some]
  have hdl : (t.drop off).length ≤ 1099511627776 := by rw [List.length_drop]; omega
  rcases i_frameAt_eq hdl with ⟨x, h1, h2⟩ | ⟨h1, h2⟩
  · left
    refine ⟨x, ?_, h2⟩
    have hl := h2.2.length_le
    rw [List.length_drop] at hl
    rw [h1, Option.bind_some]
    dsimp only
    rw [Bool.not_true, cond_false, appP_ok (by simp; omega), Option.bind_some, i_Frame_eq, Option.bind_some, show frameL x = frL x by unfold frameL; rw [if_neg (by have := h2.1; omega)], strP_size, wrap64_in (by unfold inR; omega), List.map_append]
    rfl
  · right
    refine ⟨?_, h2⟩
    rw [h1]
    rfl
theorem sameTexts_refl {l : List ByteArray} (h : l.length ≤ 9223372036854775807) : w_sameTexts l l = some true := by
  unfold w_sameTexts
  rw [decide_eq_true (show (l.length : Int) = (l.length : Int) from rfl), Bool.not_true, cond_false]
  rw [whileP_all (n := l.length) (fun _ => true) (some false) (some true)]
  · rw [show ((List.range l.length).all fun _ => true) = true by simp]; rfl
  · intro k hk
    have hx : l[k]? = some l[k] := List.getElem?_eq_getElem hk
    generalize l[k] = x at hx
    simp only [lt_dec hk, cond_true, idx_nat, hx, Option.bind_some, decide_true, Bool.not_true, cond_false, wrap_succ (show k < 9223372036854775807 by omega), if_true]
  · simp only [ge_dec]; rfl
theorem s_l4Take_eq {t : Bs} (ht : t.length ≤ 1000000000) {p : Nat} (hp : p ≤ 1000000004) :
    (∃ r, s_l4Take (strP t) (p : Int) = some r ∧ r.2 < 0 ∧ (p ≤ t.length → ∀ y, y.length ≤ 200 → ¬ szL y <+: t.drop p)) ∨
    ∃ (x : Bs), s_l4Take (strP t) (p : Int) = some (strP x, ((p + (szL x).length : Nat) : Int)) ∧ p ≤ t.length ∧ szL x <+: t.drop p ∧ x.length ≤ 562949953421311 ∧ ∀ y, y.length ≤ 200 → szL y <+: t.drop p → y = x := by
  unfold s_l4Take s_l4Vars
  rw [Option.bind_some, strP_size]
  by_cases hpt : p ≤ t.length
  · obtain ⟨r, hr, hv⟩ := s_ReadVar_sound (t.drop p) (by rw [List.length_drop]; omega)
    have hit : ∀ m s, m ≤ 200 → t.drop p = varL m ++ s → r.2 ≠ 0 := fun m s hm e => by
      obtain ⟨r', h1, h2⟩ := s_ReadVar_hit (m := m) (t := s) hm
      rw [← e, hr] at h1; cases h1; exact h2
    have hhead : (decide ((p : Int) < 0) || decide ((t.length : Int) < (p : Int))) = false := by
      rw [Bool.or_eq_false_iff, decide_eq_false_iff_not, decide_eq_false_iff_not]; omega
    rcases sz_read hv hit with ⟨h0, hno⟩ | ⟨m, k, rfl, hk1, hk2, hvm, hm, hall⟩
    · left
      rw [whileP_stop (s := ((p : Int), ([] : List Int), 0)) (a := (([] : List Int), -1)) (by
        dsimp only
        rw [show decide ((0 : Int) < 1) = true from rfl, cond_true, hhead, cond_false, ssl_drop hpt rfl, Option.bind_some, hr, Option.bind_some, decide_eq_true h0, cond_true]
        rfl), Option.bind_some]
      dsimp only
      rw [show decide ((-1 : Int) < 0) = true from rfl, Bool.not_true, gb_false, Bool.true_or, cond_true]
      exact ⟨_, rfl, by decide, fun _ => hno⟩
    · rw [whileP_step (s := ((p : Int), ([] : List Int), 0)) (s' := (((p + k : Nat) : Int), [(m : Int)], 1)) (by
        dsimp only
        rw [show decide ((0 : Int) < 1) = true from rfl, cond_true, hhead, cond_false, ssl_drop hpt rfl, Option.bind_some, hr, Option.bind_some]
        dsimp only
        rw [List.length_drop] at hk2
        rw [decide_eq_false (by omega), cond_false, appP_ok (by simp), Option.bind_some, wrap64_in (n := (p : Int) + (k : Int)) (by unfold inR; omega)]
        rfl), whileP_stop (a := ([(m : Int)], ((p + k : Nat) : Int))) (by rfl), Option.bind_some]
      dsimp only
      rw [List.length_drop] at hk2
      rw [decide_eq_false (show ¬ (((p + k : Nat) : Int) < 0) by omega), Bool.not_false, gb_true, show idx [(m : Int)] 0 = some (m : Int) from rfl, Option.bind_some, Bool.false_or, wrap64_in (n := (t.length : Int) - _) (by unfold inR; omega)]
      by_cases hmm : m ≤ ((t.drop p).drop k).length
      · right
        have hmm' := hmm
        rw [List.length_drop, List.length_drop] at hmm'
        have e1 := szL_take hvm hmm
        have e2 : (szL (((t.drop p).drop k).take m)).length = k + m := by rw [e1, List.length_take, List.length_drop]; omega
        rw [decide_eq_false (by omega), cond_false, Option.bind_some, wrap64_in (n := ((p + k : Nat) : Int) + (m : Int)) (by unfold inR; omega), show ((p + k : Nat) : Int) + (m : Int) = ((p + (k + m) : Nat) : Int) by omega, ssl_list (by omega) (by omega), Option.bind_some, Option.bind_some]
        refine ⟨((t.drop p).drop k).take m, ?_, hpt, by rw [e1]; exact List.take_prefix _ _, by rw [List.length_take]; omega, fun y hy hpy => (hall y hy hpy).2⟩
        rw [e2, List.drop_drop, show p + (k + m) - (p + k) = m by omega, wrap64_in (by unfold inR; omega), show ((p + k : Nat) : Int) + (m : Int) = ((p + (k + m) : Nat) : Int) by omega]
      · left
        rw [List.length_drop, List.length_drop] at hmm
        rw [decide_eq_true (by omega), cond_true]
        refine ⟨_, rfl, by decide, fun _ y hy hpy => ?_⟩
        have := (hall y hy hpy).1
        rw [List.length_drop, List.length_drop] at this
        exact hmm this
  · left
    have hhead : (decide ((p : Int) < 0) || decide ((t.length : Int) < (p : Int))) = true := by
      rw [Bool.or_eq_true, decide_eq_true_eq, decide_eq_true_eq]; omega
    rw [whileP_stop (s := ((p : Int), ([] : List Int), 0)) (a := (([] : List Int), -1)) (by
      dsimp only
      rw [show decide ((0 : Int) < 1) = true from rfl, cond_true, hhead]
      rfl), Option.bind_some]
    dsimp only
    rw [show decide ((-1 : Int) < 0) = true from rfl, Bool.not_true, gb_false, Bool.true_or, cond_true]
    exact ⟨_, rfl, by decide, fun h => (hpt h).elim⟩
theorem s_Unframe_eq {t : Bs} (ht : t.length ≤ 1000000000) : ∃ ts e, s_Unframe (strP t) = some (ts.map strP, ((e : Nat) : Int)) ∧ Un t ts e := by
  unfold s_Unframe
  rw [Option.bind_some]
  refine unframe_loop (fun acc off ho ha => ?_)
  dsimp only
  rw [wrap64_in (by unfold inR; omega), show (off : Int) + 4 = ((off + 4 : Nat) : Int) by omega]
  have hs := s_l4Take_eq (t := t) ht (p := off + 4) (by omega)
  have hdd : (t.drop off).drop 4 = t.drop (off + 4) := by rw [List.drop_drop]
  rcases hs with ⟨r, hr, h0, hno⟩ | ⟨x, hx, hpt, hpre, hxl, hall⟩
  · right
    rw [hr, Option.bind_some, decide_eq_true h0]
    refine ⟨rfl, fun y hy => ?_⟩
    have hl := hy.2.length_le
    have h5 := (frL_len hy.1).1
    rw [List.length_drop] at hl
    have := ((Fr_iff (t := t.drop off) (by rw [List.length_drop]; omega)).1 hy).2.2
    rw [hdd] at this
    exact hno (by omega) y hy.1 this
  · rw [hx, Option.bind_some]
    dsimp only
    have hone : ∀ y, Fr y (t.drop off) → y = x := fun y hy => by
      have := ((Fr_iff (t := t.drop off) (by rw [List.length_drop]; omega)).1 hy).2.2
      rw [hdd] at this
      exact hall y hy.1 this
    have hle := hpre.length_le
    rw [List.length_drop] at hle
    rw [decide_eq_false (by omega), Bool.not_false, gb_true, s_Frame_eq, Option.bind_some, Bool.false_or]
    by_cases h200 : 200 < x.length
    · right
      rw [show frameL x = [] by unfold frameL; rw [if_pos h200], show decide (strP [] = ByteArray.empty) = true from decide_eq_true rfl]
      refine ⟨rfl, fun y hy => ?_⟩
      have := hone y hy; subst this
      have := hy.1; omega
    · have hfl := frL_len (x := x) (by omega)
      have hff : (frL x).length = 4 + (szL x).length := by unfold frL; rw [List.length_append, be_len]
      rw [show frameL x = frL x by unfold frameL; rw [if_neg h200], decide_eq_false (show ¬ strP (frL x) = ByteArray.empty by rw [strP_nil, strP_inj]; intro e; rw [e] at hfl; simp at hfl), Bool.not_false, gb_true, Option.bind_some, gb_true, ssl_list (by omega) (by omega), Option.bind_some, Bool.false_or]
      rw [show off + 4 + (szL x).length - off = (frL x).length by omega]
      by_cases he : (t.drop off).take (frL x).length = frL x
      · left
        rw [he, decide_eq_true rfl, Bool.not_true, cond_false, appP_ok (by simp; omega), Option.bind_some]
        refine ⟨x, ?_, by omega, by rw [← he]; exact List.take_prefix _ _⟩
        rw [List.map_append, show off + 4 + (szL x).length = off + (frL x).length by omega]
        rfl
      · right
        rw [decide_eq_false (by rw [strP_inj]; exact fun e => he e.symm), Bool.not_false, cond_true]
        refine ⟨rfl, fun y hy => ?_⟩
        have := hone y hy; subst this
        exact he (List.prefix_iff_eq_take.1 hy.2).symm
end Go.Proofs.SL
namespace Go.Proofs.SL
open Go
set_option maxHeartbeats 2000000
abbrev T_Seg := Int × ByteArray
abbrev T_Log := (TL T_Seg) × Int × Int
end Go.Proofs.SL
namespace Go.Proofs.SL
open Go
variable {Γ : Cx} {l : Envl} {M M' M1 M2 F Mr : List HP} {Q : Post} {K : Kont} {w0 w : World} {S0 S : List Nat} {P : Program}
variable {rest : List Oper} {d : Nat} {ty : TypeId} {pos : String} {af : Array Edge}
/-- Elements that can be read, without their row. -/
structure EL (τ : Type) where
  els : List τ
instance {τ δ : Type} [GT τ δ] : GT (EL τ) Unit where
  sz := 1
  pos := by decide
  cells _ := [.bool false]
  len _ := rfl
  one _ v hv := by simp at hv; subst hv; rfl
  rd w S t := ∀ x, x ∈ t.els → GT.rd w S x
  fp _ := []
  ow _ _ := False
  dat _ := ()
  rd_mono h hm := fun x hx => GT.rd_mono (h x hx) hm
  ow_st _ h := h
  ow_rd h _ := h.elim
section
variable {τ δ : Type} [GT τ δ] {t : τ}
theorem no_fp (hw : Holds w0 S0 (M1 ++ M2) w) {h : HP} (hm : h ∈ M2) : ∀ k, k ∈ h.fp → k ∉ fps M1 := fun k hk hk1 => by
  have hnd := hw.nodup
  rw [fps_append] at hnd
  exact (List.nodup_append.1 hnd).2.2 k hk1 k (List.mem_flatMap.2 ⟨_, hm, hk⟩) rfl
theorem RdT.els {xs : List τ} (h : elsT xs ∈ M) : RdT Γ M (EL.mk xs) := fun w hw x hx => GT.ow_rd (hw.prs _ h x hx) fun _ _ h => by cases h
theorem RdT.elOf {X : TL τ} {j : Nat} {x : τ} (h : RdT Γ M (EL.mk X.els)) (hi : X.els[j]? = some x) : RdT Γ M x := fun w hw => h w hw x (List.mem_of_getElem? hi)
theorem RdX.els {xs : List τ} (h : elsT xs ∈ M2) : RdX Γ M1 M2 (EL.mk xs) := fun w hw x hx => GT.ow_rd (hw.prs _ (List.mem_append_right _ h) x hx) fun k hk => no_fp hw h k (List.mem_flatMap.2 ⟨x, hx, hk⟩)
theorem RdX.elOf {X : TL τ} {j : Nat} {x : τ} (h : RdX Γ M1 M2 (EL.mk X.els)) (hi : X.els[j]? = some x) : RdX Γ M1 M2 x := fun w hw => h w hw x (List.mem_of_getElem? hi)
end
/-! Evidence of one world, out of parts -/
structure PC (Mr : List HP) (w : World) (S : List Nat) : Prop where
  prs : ∀ h, h ∈ Mr → h.pr w
  ds : ∀ k, k ∈ fps Mr → k ∉ S
theorem PC.fp (h : PC Mr w S) {x : HP} (hm : x ∈ Mr) : ∀ k, k ∈ x.fp → k ∉ S := fun k hk => h.ds k (List.mem_flatMap.2 ⟨x, hm, hk⟩)
def RdP {τ δ : Type} [GT τ δ] (Mr : List HP) (w : World) (S : List Nat) (t : τ) : Prop := PC Mr w S → GT.rd w S t
section
variable {τ δ : Type} [GT τ δ] {t : τ}
theorem RdP.old (h : GT.rd w S t) : RdP Mr w S t := fun _ => h
theorem RdP.tree (h : treeH t ∈ Mr) : RdP Mr w S t := fun hp => GT.ow_rd (hp.prs _ h) (hp.fp h)
theorem RdP.of {X : TL τ} {j : Nat} {x : τ} (h : RdP Mr w S X) (hi : X.els[j]? = some x) : RdP Mr w S x := fun hp => (h hp).2.2.1 x (List.mem_of_getElem? hi)
theorem RdP.pair {α β δ ε : Type} [GT α δ] [GT β ε] {a : α} {b : β} (h1 : RdP Mr w S a) (h2 : RdP Mr w S b) : RdP Mr w S (a, b) := fun hp => ⟨h1 hp, h2 hp⟩
theorem RdP.int {n : Int} : RdP Mr w S n := fun _ => trivial
theorem RdP.bool {n : Bool} : RdP Mr w S n := fun _ => trivial
theorem RdP.str {n : ByteArray} : RdP Mr w S n := fun _ => trivial
theorem RdP.u8 {n : UInt8} : RdP Mr w S n := fun _ => trivial
theorem RdP.nil (e : TypeId) : RdP Mr w S (TL.nil τ e) := fun _ => nil_rd e
theorem RdP.map {α δ' : Type} [GT α δ'] {a : α} (f : ∀ w S, GT.rd w S a → GT.rd w S t) (h : RdP Mr w S a) : RdP Mr w S t := fun hp => f w _ (h hp)
theorem RdP.els {xs : List τ} (h : elsT xs ∈ Mr) : RdP Mr w S (EL.mk xs) := fun hp x hx => GT.ow_rd (hp.prs _ h x hx) fun k hk => hp.fp h k (List.mem_flatMap.2 ⟨x, hx, hk⟩)
theorem RdP.elOf {X : TL τ} {j : Nat} {x : τ} (h : RdP Mr w S (EL.mk X.els)) (hi : X.els[j]? = some x) : RdP Mr w S x := fun hp => h hp x (List.mem_of_getElem? hi)
end
/-! A flat slice that is read alone, in a block of one's own -/
section
variable {τ δ : Type} [GT τ δ] [FlatT τ]
theorem flat_rd (x : τ) (w : World) (S : List Nat) : GT.rd w S x := GT.ow_rd ((FlatT.flat x).ow w) fun k hk => by rw [(FlatT.flat x).fp] at hk; cases hk
def slB (Y : TL τ) : List Nat := match Y.a with | none => [] | some a => [a.block]
theorem rd_block {Y : TL τ} {w w' : World} {S S' : List Nat} (h : GT.rd w S Y) (hb : ∀ k, k ∈ slB Y → w'.heap[k]? = w.heap[k]?) (hs : ∀ k, k ∈ slB Y → k ∉ S') : GT.rd w' S' Y :=
  ⟨h.1, h.2.1, fun x _ => flat_rd x _ _, h.2.2.2.1, fun a ha => ⟨(h.2.2.2.2 a ha).1, fun j v hv => by
    have h1 := (h.2.2.2.2 a ha).2 j v hv
    have h2 : a.block ∈ slB Y := by unfold slB; rw [ha]; simp
    exact ⟨by rw [World.cell?_of_block (w := w) (a := ⟨a.block, a.off + j, none⟩) (hb _ h2)]; exact h1.1, hs _ h2⟩⟩⟩
def flH (Y : TL τ) : HP := ⟨slB Y, fun w => GT.rd w [] Y, fun _ _ hb h => rd_block h hb fun _ _ h => by cases h⟩
theorem RdT.fl {Y : TL τ} (h : flH Y ∈ M) : RdT Γ M Y := fun _ hw => hw.prs _ h
theorem RdX.fl {Y : TL τ} (h : flH Y ∈ M2) : RdX Γ M1 M2 Y := fun _ hw => rd_block (hw.prs (flH Y) (List.mem_append_right _ h)) (fun _ _ => rfl) (no_fp hw h)
theorem RdP.fl {Y : TL τ} (h : flH Y ∈ Mr) : RdP Mr w S Y := fun hp => rd_block (hp.prs (flH Y) h) (fun _ _ => rfl) (hp.fp h)
theorem fps_flat' (xs : List τ) : xs.flatMap GT.fp = [] := List.flatMap_eq_nil_iff.2 fun x _ => (FlatT.flat x).fp
end
section
variable {τ δ : Type} [GT τ δ]
theorem slB_slc (X : TL τ) (lo hi : Nat) : slB (slc X lo hi) = slB X := by
  unfold slB slc
  dsimp only
  cases ha : X.a with
  | none => simp
  | some a =>
    split
    · rename_i h; split at h <;> simp at h
    · rename_i b h
      split at h
      · cases h; rfl
      · simp only [Option.map_some, Option.some.injEq] at h
        subst h
        unfold Addr.add; split <;> rfl
end
section
variable {τ δ : Type} [GT τ δ] [FlatT τ]
theorem fl_of_tree {X : TL τ} (p : Pick (treeH X) M M1) (h : Holds w0 S0 M w) : Holds w0 S0 (flH X :: M1) w := by
  have h1 := h.perm p.perm
  refine h1.reFp (List.Perm.of_eq ?_) fun y hy => ?_
  · rw [fps_cons, fps_cons]
    show (slB X ++ X.els.flatMap GT.fp) ++ fps M1 = slB X ++ fps M1
    rw [fps_flat', List.append_nil]
  · rcases List.mem_cons.1 hy with rfl | hy
    · exact GT.ow_rd (h1.prs (treeH X) (List.mem_cons_self ..)) fun _ _ h => by cases h
    · exact h1.prs _ (List.mem_cons_of_mem _ hy)
theorem fl_slc {X Y : TL τ} {a b : Int} {r : List δ} (he : Y = slc X a.toNat b.toNat) (hs : slcP (GT.dat X) a b = some r) (p : Pick (flH X) M M1) (h : Holds w0 S0 M w) : Holds w0 S0 (flH Y :: M1) w := by
  have h1 := h.perm p.perm
  refine h1.reFp (List.Perm.of_eq ?_) fun y hy => ?_
  · rw [fps_cons, fps_cons]
    show slB X ++ fps M1 = slB Y ++ fps M1
    rw [he, slB_slc]
  · rcases List.mem_cons.1 hy with rfl | hy
    · exact slcE_rd he hs _ _ (h1.prs (flH X) (List.mem_cons_self ..))
    · exact h1.prs _ (List.mem_cons_of_mem _ hy)
end
section
variable {τ δ : Type} [GT τ δ]
end
theorem dat_u8 (x : UInt8) : (GT.dat x : UInt8) = x := rfl
end Go.Proofs.SL
namespace Go.Proofs.SL
open Go
variable {Γ : Cx} {l : Envl} {M M' M1 M2 F : List HP} {Q : Post} {K : Kont} {w0 w : World} {S0 : List Nat} {P : Program}
variable {rest : List Oper} {d : Nat} {ty : TypeId} {pos : String} {af : Array Edge}
theorem Spec.pre {f : FuncId} {args : Array Value} {R : Value → List HP → Prop} (hc : ∀ w1 S, Holds w1 S M w → Holds w1 S M' w) (h : Spec P f args w M' R) : Spec P f args w M R := fun hw => by
  have h2 : Holds w (fps M) (M' ++ []) w := by simpa using hc _ _ hw
  exact (h (Holds.split h2)).mono fun e w'' ⟨v, M'', h3, h4, h5⟩ => ⟨v, M'', h3, h4, by simpa using Holds.frame h2 h5⟩
section
variable {ops : Array Oper} {Msh pool pool' : List HP} {E : Fl} {rs : List (Option Nat × Rel)} {cs0 : List Nat} {KD : RKont}
end
end Go.Proofs.SL
