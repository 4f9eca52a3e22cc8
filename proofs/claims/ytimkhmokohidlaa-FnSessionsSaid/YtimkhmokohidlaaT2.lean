/- The texts of the proof, part 2: the base, walks of functions, plain Lean. -/
import Derived.Test.YtimkhmokohidlaaT1
import Derived.Sort.Grow
import Derived.Sort.EncStr
import Derived.Lib.SlicesCompact
import Derived.Laws.StructEq
import Derived.Test.YtimkhmokohidlaaRows
namespace Go.Proofs.SL
open Go
variable {Γ : Cx} {l : Envl} {M M' M1 M2 F : List HP} {Q : Post} {K : Kont} {w0 w : World} {S0 : List Nat}
variable {rest : List Oper} {d : Nat} {ty : TypeId} {pos : String} {af : Array Edge}
variable {ops : Array Oper} {Msh pool : List HP} {E : Fl} {rs : List (Option Nat × Rel)} {cs0 : List Nat} {KD : List (Option Nat × Rel) → List Nat → List HP → Prop} {gd : Option (Nat × Bool)}
def optD (E : Fl) (x : Option Operand) (c : Prop) (n i : Int) : Prop := match x with
  | none => n = i
  | some o => ∃ k, OpV E o c (.int k i)
theorem optD.none {c : Prop} {n : Int} : optD E Option.none c n n := rfl
theorem optD.some {o : Operand} {c : Prop} {n i : Int} {k : IntKind} (h : OpV E o c (.int k i)) : optD E (Option.some o) c n i := ⟨k, h⟩
section
variable {τ δ : Type} [GT τ δ]
/-- A slice of one's own, its element i opened: the element's cells stand as they are named, what it owned is elsewhere. -/
def holeH (X : TL τ) (i : Nat) (cs : List Value) : HP := ⟨[X.g] ++ (X.els.eraseIdx i).flatMap GT.fp,
  fun w => cs.length = GT.sz τ ∧ i < X.els.length ∧ X.els.length ≤ X.cap ∧ X.cap ≤ maxLen ∧ X.a = some ⟨X.g, 0, none⟩ ∧ (∀ x, x ∈ X.els.eraseIdx i → GT.ow w x) ∧
    w.heap[X.g]? = some (.cells (rowCells (X.els.take i) ++ (cs ++ (rowCells (X.els.drop (i + 1)) ++ X.tail))).toArray X.e (0, 0)) ∧ X.els.length * GT.sz τ + X.tail.length = X.cap * GT.sz τ,
  fun w w' h hp => ⟨hp.1, hp.2.1, hp.2.2.1, hp.2.2.2.1, hp.2.2.2.2.1, fun x hx => GT.ow_st (fun k hk => h k (List.mem_append_right _ (List.mem_flatMap.2 ⟨x, hx, hk⟩))) (hp.2.2.2.2.2.1 x hx), by
    rw [h X.g (by simp)]; exact hp.2.2.2.2.2.2.1, hp.2.2.2.2.2.2.2⟩⟩
theorem row_parts (xs : List τ) {i : Nat} {x : τ} (hi : xs[i]? = some x) : rowCells xs = rowCells (xs.take i) ++ (GT.cells x ++ rowCells (xs.drop (i + 1))) := by
  obtain ⟨hlt, hx⟩ := List.getElem?_eq_some_iff.1 hi
  have h1 : xs = xs.take i ++ xs[i] :: xs.drop (i + 1) := by rw [← List.drop_eq_getElem_cons hlt, List.take_append_drop]
  conv => lhs; rw [h1]
  rw [rowCells_append, rowCells_cons, hx]
theorem perm_el (xs : List τ) {i : Nat} {x : τ} (hi : xs[i]? = some x) : List.Perm xs (x :: xs.eraseIdx i) := by
  obtain ⟨hlt, hx⟩ := List.getElem?_eq_some_iff.1 hi
  rw [List.eraseIdx_eq_take_drop_succ]
  have : xs = xs.take i ++ x :: xs.drop (i + 1) := by rw [← hx, ← List.drop_eq_getElem_cons hlt, List.take_append_drop]
  conv => lhs; rw [this]
  exact List.perm_middle
theorem hole_open {X : TL τ} {i : Nat} {x : τ} (hi : X.els[i]? = some x) (p : Pick (treeH X) M M1) (h : Holds w0 S0 M w) : Holds w0 S0 (treeH x :: holeH X i (GT.cells x) :: M1) w := by
  have h := h.perm p.perm
  have ht : GT.ow w X := h.prs _ (List.mem_cons_self ..)
  have hlt := (List.getElem?_eq_some_iff.1 hi).1
  obtain ⟨r1, r2, r3, r4, r5⟩ := ht
  obtain ⟨g, ha⟩ := (ow_facts (w := w) (L := X) ⟨r1, r2, r3, r4, r5⟩).2 (by omega)
  have hg : X.g = g := by unfold TL.g; rw [ha]; rfl
  subst hg
  obtain ⟨h1, h2, h3, h4⟩ := r5 _ ha
  refine h.reFp ?_ fun y hy => ?_
  · simp only [fps_cons]
    show List.Perm (((match X.a with | none => [] | some a => [a.block]) ++ X.els.flatMap GT.fp) ++ fps M1) (GT.fp x ++ (([X.g] ++ (X.els.eraseIdx i).flatMap GT.fp) ++ fps M1))
    rw [ha]
    have hp := (perm_el X.els hi).flatMap_right GT.fp
    rw [List.flatMap_cons] at hp
    show List.Perm (([X.g] ++ X.els.flatMap GT.fp) ++ fps M1) _
    rw [← List.append_assoc, ← List.append_assoc]
    refine List.Perm.append_right _ ?_
    refine (hp.append_left [X.g]).trans ?_
    rw [← List.append_assoc]
    exact List.perm_append_comm.append_right _
  · rcases List.mem_cons.1 hy with rfl | hy
    · exact r3 x (List.mem_of_getElem? hi)
    rcases List.mem_cons.1 hy with rfl | hy
    · refine ⟨GT.len x, hlt, r1, r2, ha, fun z hz => r3 z ((perm_el X.els hi).mem_iff.2 (List.mem_cons_of_mem _ hz)), ?_, h4⟩
      rw [row_parts X.els hi] at h3
      simpa [List.append_assoc] using h3
    · exact h.prs _ (List.mem_cons_of_mem _ hy)
theorem hole_close {X : TL τ} {i : Nat} {x' : τ} {cs : List Value} (hc : cs = GT.cells x') (p : Pick (holeH X i cs) M M1) (q : Pick (treeH x') M1 M2) (h : Holds w0 S0 M w) :
    Holds w0 S0 (treeH ({ X with els := X.els.set i x' } : TL τ) :: M2) w := by
  subst hc
  have h := h.perm (p.perm.trans (q.perm.cons _))
  obtain ⟨r1, r2, r3, r4, r5, r6, r7, r8⟩ := h.prs (holeH X i (GT.cells x')) (List.mem_cons_self ..)
  have hx := h.prs (treeH x') (List.mem_cons_of_mem _ (List.mem_cons_self ..))
  have hi : (X.els.set i x')[i]? = some x' := by rw [List.getElem?_set_self]; exact r2
  have he : (X.els.set i x').eraseIdx i = X.els.eraseIdx i := by
    rw [List.eraseIdx_eq_take_drop_succ, List.eraseIdx_eq_take_drop_succ, List.take_set_of_le (Nat.le_refl _), List.drop_set_of_lt (Nat.lt_succ_self _)]
  refine h.reFp ?_ fun y hy => ?_
  · simp only [fps_cons]
    show List.Perm (([X.g] ++ (X.els.eraseIdx i).flatMap GT.fp) ++ (GT.fp x' ++ fps M2)) (((match X.a with | none => [] | some a => [a.block]) ++ (X.els.set i x').flatMap GT.fp) ++ fps M2)
    rw [r5]
    have hp := (perm_el _ hi).flatMap_right GT.fp
    rw [List.flatMap_cons, he] at hp
    show List.Perm _ (([X.g] ++ (X.els.set i x').flatMap GT.fp) ++ fps M2)
    rw [← List.append_assoc]
    refine List.Perm.append_right _ ?_
    rw [List.append_assoc]
    exact ((List.perm_append_comm).trans hp.symm).append_left [X.g]
  · rcases List.mem_cons.1 hy with rfl | hy
    · refine ⟨by simpa using r3, r4, fun z hz => ?_, fun ha => ?_, fun a ha => ?_⟩
      · rcases List.mem_cons.1 ((perm_el _ hi).mem_iff.1 hz) with rfl | hz
        · exact hx
        · rw [he] at hz; exact r6 z hz
      · have ha' : X.a = none := ha
        rw [r5] at ha'; cases ha'
      · have ha' : X.a = some a := ha
        rw [r5] at ha'; cases ha'
        refine ⟨rfl, rfl, ?_, by simpa using r8⟩
        rw [row_parts _ hi, List.take_set_of_le (Nat.le_refl _), List.drop_set_of_lt (Nat.lt_succ_self _)]
        simpa [List.append_assoc] using r7
    · exact h.prs _ (List.mem_cons_of_mem _ (List.mem_cons_of_mem _ hy))
theorem dat_set (X : TL τ) (i : Nat) (x' : τ) : GT.dat ({ X with els := X.els.set i x' } : TL τ) = (GT.dat X).set i (GT.dat x') := by
  rw [dat_els, dat_els, List.map_set]
theorem RdC.hole {X : TL τ} {i : Nat} {cs : List Value} (h : holeH X i cs ∈ M) : RdC Γ M X.g (X.o + i * GT.sz τ) cs := fun w hw j v hv => by
  obtain ⟨r1, r2, r3, r4, r5, r6, r7, r8⟩ := hw.prs _ h
  have ho : X.o = 0 := by unfold TL.o; rw [r5]; rfl
  have hj := (List.getElem?_eq_some_iff.1 hv).1
  have hl : (rowCells (X.els.take i)).length = i * GT.sz τ := by rw [length_rowCells, List.length_take, Nat.min_eq_left (by omega)]
  rw [ho, Nat.zero_add, cell_of_row _ _ _ _ _ _ r7]
  simp only [List.getElem?_toArray]
  rw [List.getElem?_append_right (by omega), hl, Nat.add_sub_cancel_left, List.getElem?_append_left hj]
  exact hv
/-- A store into the opened element. -/
theorem L_stH {x y : Operand} {T sz fo n : Nat} {v : Value} {X : TL τ} {i : Nat} {cs : List Value} (hx : ev l x = some (.pointer (some ⟨X.g, X.o + i * sz + fo, none⟩))) (hy : ev l y = some v)
    (hp : Pick (holeH X i cs) M M1) (hsz : GT.sz τ = sz) (hT : aggOf Γ.P T = some n ∨ (oneOf Γ.P T = true ∧ n = 1)) (hv : v.cells.toList.length = n) (h1 : ∀ u, u ∈ v.cells.toList → u.oneCell' = true) (hfit : fo + n ≤ cs.length)
    (hk : L Γ rest l (holeH X i (cs.take fo ++ v.cells.toList ++ cs.drop (fo + n)) :: M1) K) :
    L Γ ({ dst := none, op := .store T x y, type := ty, pos, after := af, guard := none } :: rest) l M K :=
  L_skip rfl rfl (fun a w ha hw => by
    subst hsz; subst hv
    have hw1 := hw.perm hp.perm
    obtain ⟨r1, r2, r3, r4, r5, r6, r7, r8⟩ := hw1.prs (holeH X i cs) (List.mem_cons_self ..)
    have ho : X.o = 0 := by unfold TL.o; rw [r5]; rfl
    have hl : (rowCells (X.els.take i)).length = i * GT.sz τ := by rw [length_rowCells, List.length_take, Nat.min_eq_left (by omega)]
    have hs := run_store_blk (P := Γ.P) (fo := i * GT.sz τ + fo) (vs := v.cells.toList) (ty := 0) r7 (by
      simp only [List.length_append, hl]; omega) h1
    have e : (rowCells (X.els.take i) ++ (cs ++ (rowCells (X.els.drop (i + 1)) ++ X.tail))).take (i * GT.sz τ + fo) ++ v.cells.toList ++ (rowCells (X.els.take i) ++ (cs ++ (rowCells (X.els.drop (i + 1)) ++ X.tail))).drop (i * GT.sz τ + fo + v.cells.toList.length)
        = rowCells (X.els.take i) ++ ((cs.take fo ++ v.cells.toList ++ cs.drop (fo + v.cells.toList.length)) ++ (rowCells (X.els.drop (i + 1)) ++ X.tail)) := by
      generalize rowCells (X.els.take i) = A at *
      generalize (rowCells (X.els.drop (i + 1)) ++ X.tail) = B at *
      rw [← hl]
      rw [List.take_append, List.take_of_length_le (by omega), Nat.add_sub_cancel_left, List.take_append_of_le_length (by omega)]
      rw [show A.length + fo + v.cells.toList.length = A.length + (fo + v.cells.toList.length) by omega, List.drop_append, List.drop_of_length_le (by omega), List.nil_append, Nat.add_sub_cancel_left, List.drop_append_of_le_length (by omega)]
      simp only [List.append_assoc]
    rw [e] at hs
    refine ⟨w.setRow X.g (rowCells (X.els.take i) ++ ((cs.take fo ++ v.cells.toList ++ cs.drop (fo + v.cells.toList.length)) ++ (rowCells (X.els.drop (i + 1)) ++ X.tail))).toArray, ?_, ?_⟩
    · have hx' := ha.eval hx
      rw [ho, Nat.zero_add] at hx'
      rcases hT with hT | ⟨hT, hn1⟩
      · have hcs : v.cells.size = v.cells.toList.length := by simp
        simp [execOp, hx', ha.eval hy, Instr.storeAt, Instr.sureAddr, storeVar, run_isAgg_agg hT, hs]
      · have hcs : v.cells.size = 1 := by rw [← hn1]; simp
        simp [execOp, hx', ha.eval hy, Instr.storeAt, Instr.sureAddr, storeVar, run_isAgg_one hT, hcs, hs]
    · refine Holds.swap hw1 rfl rfl rfl (by simp) (fun k hk hn => ?_) (fun k hk => ?_) ?_ ?_
      · exact setRow_other _ _ _ _ (fun e => hn (by simp [holeH, e]))
      · have hk' : k ∈ (holeH X i cs).fp := hk
        refine ⟨.inl hk', ?_⟩
        rw [size_setRow]
        exact (hw1.rng k (by rw [fps_cons]; exact List.mem_append_left _ hk')).2
      · have := hw1.nodup
        rw [fps_cons] at this
        exact (List.nodup_append.1 this).1
      · have hdis : ∀ k, k ∈ (X.els.eraseIdx i).flatMap GT.fp → k ≠ X.g := fun k hk e => by
          have := hw1.nodup
          rw [fps_cons] at this
          have h2 := (List.nodup_append.1 this).1
          have h3 : (X.g :: (X.els.eraseIdx i).flatMap GT.fp).Nodup := h2
          rw [List.nodup_cons] at h3
          exact h3.1 (e ▸ hk)
        refine ⟨?_, r2, r3, r4, r5, fun z hz => GT.ow_st (fun k hk => setRow_other _ _ _ _ (fun e => hdis k (List.mem_flatMap.2 ⟨z, hz, hk⟩) e)) (r6 z hz), setRow_heap _ _ _ _ _ _ r7, r8⟩
        simp only [List.length_append, List.length_take, List.length_drop]; omega) hk
/-- The address of an element of a slice with an opened element. -/
theorem L_idxH {x y : Operand} {T e sz by_ : Nat} {z : List Value} {k : IntKind} {i : Int} {j : Nat} {cs : List Value} {X : TL τ} {u : τ} (hn : Nat.blt d Γ.n = true) (hx : ev l x = some X.hdr) (hy : ev l y = some (.int k i))
    (ht : elOf Γ.P T = some (e, sz, by_, z)) (hm : holeH X j cs ∈ M) (hi : 0 ≤ i ∧ X.els[i.toNat]? = some u) (hk : L Γ rest ((d, .pointer (some ⟨X.g, X.o + i.toNat * sz, none⟩)) :: l) M K) :
    L Γ ({ dst := some d, op := .indexAddr T x y, type := ty, pos := pos, after := af, guard := none } :: rest) l M K :=
  L_pure hn (fun a' w ha hw => by
    obtain ⟨r1, r2, r3, r4, r5, r6, r7, r8⟩ := hw.prs _ hm
    have ho : X.o = 0 := by unfold TL.o; rw [r5]; rfl
    have h1 := ha.eval hx
    have h2 : X.hdr = .slice (some ⟨X.g, X.o, none⟩) X.els.length X.cap := by show Value.slice X.a X.els.length X.cap = _; rw [ho, ← r5]
    rw [h2] at h1
    simp [execOp, h1, ha.eval hy, run_indexAt ht X.g X.o X.els.length X.cap k i i.toNat (by omega) (List.getElem?_eq_some_iff.1 hi.2).1 w]) hk
end
end Go.Proofs.SL
namespace Go.Proofs.SL
open Go
theorem cells_int (n : Int) : GT.cells n = [.int .i64 n] := rfl
theorem cells_bool (b : Bool) : GT.cells b = [.bool b] := rfl
theorem cells_str (s : ByteArray) : GT.cells s = [.string s] := rfl
theorem cells_TL {τ δ : Type} [GT τ δ] (X : TL τ) : GT.cells X = [X.hdr] := rfl
theorem gnot {b : Bool} (h : b = false) : (!b) = true := by rw [h]; rfl
theorem gand {a b : Bool} (h : a = true) (h2 : b = true) : (a && b) = true := by rw [h, h2]; rfl
theorem allOne {cs : List Value} (h : cs.all Value.oneCell' = true) : ∀ v, v ∈ cs → v.oneCell' = true := List.all_eq_true.1 h
variable {Γ : Cx} {l : Envl} {M M' M1 M2 F : List HP} {Q : Post} {K : Kont} {w0 w : World} {S0 : List Nat}
variable {rest : List Oper} {d : Nat} {ty : TypeId} {pos : String} {af : Array Edge}
theorem RdT.now {τ δ : Type} [GT τ δ] {t : τ} (h : RdT Γ M t) (hw : Holds Γ.w0 Γ.S0 M w) : GT.rd w [] t := h w hw.sees
theorem RdT.nowS {τ δ : Type} [GT τ δ] {t : τ} (h : RdT Γ M t) (hw : Holds Γ.w0 Γ.S0 F w) (hs : ∀ x, x ∈ M → x ∈ F) : GT.rd w [] t := h w (hw.seesSub hs)
theorem addNilT {τ δ : Type} [GT τ δ] (e : TypeId) (h : Holds w0 S0 M w) : Holds w0 S0 (treeH (TL.nil τ e) :: M) w := h.addFlat (flat_nil e)
theorem L_mk0 (τ : Type) {δ : Type} [GT τ δ] {T e sz by_ : Nat} {z : List Value} (hn : Nat.blt d Γ.n = true) (ht : elOf Γ.P T = some (e, sz, by_, z))
    (hk : ∀ X : TL τ, GT.dat X = [] → L Γ rest ((d, X.hdr) :: l) (treeH X :: M) K) :
    L Γ ({ dst := some d, op := .buildSlice T 0 #[], type := ty, pos, after := af, guard := none } :: rest) l M K :=
  L_buildSlice0 τ hn ht (fun b => hk ⟨some ⟨b, 0, none⟩, 0, e, [], []⟩ rfl)
end Go.Proofs.SL
namespace Go.Proofs.SL
open Go
variable {Γ : Cx} {l : Envl} {M M' M1 M2 F : List HP} {Q : Post} {K : Kont} {w0 w : World} {S0 : List Nat}
variable {rest : List Oper} {d : Nat} {ty : TypeId} {pos : String} {af : Array Edge}
variable {ops : Array Oper} {Msh pool pool' : List HP} {E : Fl} {rs : List (Option Nat × Rel)} {cs0 : List Nat} {KD : List (Option Nat × Rel) → List Nat → List HP → Prop}
def RowV (cs : List Value) (e : TypeId) : Rel := fun v M => ∃ b, v = .slice (some ⟨b, 0, none⟩) 1 1 ∧ M = [blk b cs e]
theorem run_bs1 {P : Program} {T e sz by_ : Nat} {z : List Value} {v : Value} (ht : elOf P T = some (e, sz, by_, z)) (hz : z.length = sz) (hsz : 0 < sz) (hns : sz ≤ 65536) (hv : v.cells.toList.length = sz) (w : World) :
    (Instr.buildSlice T 1 #[(0, v)]).run P w = .ok (.slice (some ⟨w.heap.size, 0, none⟩) 1 1) (w.alloc (.cells v.cells.toList.toArray e (0, 0))) :=
  run_buildSlice (w := w) (n := 1) (ps := [(0, v)]) (cs := v.cells.toList) ht hz hsz (by omega) (by omega) (by
    simp only [fillL, Nat.zero_mul, Nat.one_mul, Nat.zero_add, hv, Nat.beq_refl, Bool.true_and, List.length_map, List.length_range, List.take_zero, List.nil_append]
    rw [show Nat.ble sz sz = true from Nat.ble_eq_true_of_le (Nat.le_refl _)]
    simp only []
    rw [List.drop_of_length_le (by simp), List.append_nil])
theorem D_bs1 {x : Operand} {T e sz by_ : Nat} {z : List Value} {v : Value} (hx : OpV E x True v) (ht : elOf Γ.P T = some (e, sz, by_, z)) (hz : z.length = sz) (hsz : 0 < sz) (hns : sz ≤ 65536) (hv : v.cells.toList.length = sz)
    (hk : DV Γ ops Msh pool ((d, RowV v.cells.toList e) :: E) ((some d, RowV v.cells.toList e) :: rs) cs0 rest KD) :
    DV Γ ops Msh pool E rs cs0 ({ dst := some d, op := .buildSlice T 1 #[(0, x)], type := ty, pos := pos, after := af, guard := none } :: rest) KD := by
  refine DV.mk (RowV v.cells.toList e) [] pool [] (by simp) rfl ?_ (by rw [dropE_nil]; exact hk)
  intro a w F Mk _ _ hw hm hfa hcf
  have hMk : Mk = [] := hcf
  subst hMk
  rw [dropE_nil] at hfa
  simp only [List.nil_append] at hw ⊢
  rw [if_pos (by simp [Region.wanted])]
  have e1 := hx.eval hfa (by simp [Op.operands]) trivial
  have h1 : (execOp a.eval { dst := some d, op := .buildSlice T 1 #[(0, x)], type := ty, pos := pos, after := af, guard := none }).run Γ.P w = .ok (.value (.slice (some ⟨w.heap.size, 0, none⟩) 1 1)) (w.alloc (.cells v.cells.toList.toArray e (0, 0))) := by
    simp only [execOp]
    have : (#[(0, x)] : Array (Nat × Operand)).map (fun (i, x) => (i, a.eval x)) = #[(0, v)] := by simp [e1]
    rw [this]
    simp [run_bs1 ht hz hsz hns hv]
  rw [h1]
  exact ⟨[blk w.heap.size v.cells.toList e], ⟨_, rfl, rfl⟩, Holds.new (show Holds Γ.w0 Γ.S0 F w by simpa using hw) rfl⟩
section
variable {τ δ : Type} [GT τ δ]
def OwnV (r : List δ) : Rel := fun v M => ∃ X : TL τ, v = X.hdr ∧ GT.dat X = r ∧ M = [treeH X]
theorem D_app1F [FlatT τ] {s : Operand} {t T e sz by_ : Nat} {z : List Value} {X : TL τ} {T' : TypeId} (y : τ) {r : List δ}
    (hs : OpV (dropE [t] E) s True X.hdr) (hx : E.lookup t = some (RowV (GT.cells y) T')) (ht : elOf Γ.P T = some (e, sz, by_, z)) (hsz : GT.sz τ = sz) (hz : z.length = sz)
    (hp : Pick (treeH X) pool pool') (hr : appP (GT.dat X) [GT.dat y] = some r) (hb : by_ ≤ 32768)
    (hlin : linB ops { dst := some d, op := .call { callee := .builtin .append, args := #[s, .tmp t], argTypes := #[T, T] }, type := ty, pos := pos, after := af, guard := none } [t] = true)
    (hk : DV Γ ops Msh pool' ((d, OwnV (τ := τ) r) :: dropE [t] E) ((some d, OwnV (τ := τ) r) :: rs) ([t] ++ cs0) rest KD) :
    DV Γ ops Msh pool E rs cs0 ({ dst := some d, op := .call { callee := .builtin .append, args := #[s, .tmp t], argTypes := #[T, T] }, type := ty, pos := pos, after := af, guard := none } :: rest) KD := by
  refine DV.mk (OwnV (τ := τ) r) ([treeH X]) pool' ([t]) hp.perm hlin ?_ hk
  intro a w F Mk _ _ hw hm hfa hcf
  obtain ⟨Mx, Mk', rfl, hR, hnil⟩ := hcf
  have hnil : Mk' = [] := hnil
  subst hnil
  obtain ⟨b, hv, rfl⟩ := hR _ hx
  rw [if_pos (by simp [Region.wanted])]
  have e1 := hs.eval hfa (by simp [Op.operands, Call.operands]) trivial
  have e2 : a.eval (.tmp t) = .slice (some ⟨b, 0, none⟩) 1 1 := hv
  obtain ⟨hl, rfl⟩ := appP_some hr
  simp only [dat_els, List.length_map, List.length_cons, List.length_nil] at hl
  have hw1 : Holds Γ.w0 Γ.S0 (treeH X :: blk b (GT.cells y) T' :: F) w := by simpa using hw
  have hsrc : ∀ j v, (rowCells [y])[j]? = some v → w.cell? ((⟨b, 0, none⟩ : Addr).add j) = some v := fun j v hv => by
    rw [addr_add]
    exact RdC.blk (Γ := Γ) (M := treeH X :: blk b (GT.cells y) T' :: F) (List.mem_cons_of_mem _ (List.mem_cons_self ..)) w hw1.sees j v (by simpa [rowCells] using hv)
  obtain ⟨a', c', e', tl, w', h1, h2⟩ := append_rowE (P := Γ.P) (c := 1) ht hsz hz (tree_row hw1) hsrc (by simpa using hl) hb ty
  have h1' : (Builtin.append_ #[T, T] ty #[X.hdr, .slice (some ⟨b, 0, none⟩) 1 1]).run Γ.P w = .ok (TL.hdr (⟨a', c', e', X.els ++ [y], tl⟩ : TL τ)) w' := h1
  have h3 : (execOp a.eval { dst := some d, op := .call { callee := .builtin .append, args := #[s, .tmp t], argTypes := #[T, T] }, type := ty, pos := pos, after := af, guard := none }).run Γ.P w = .ok (.value (TL.hdr (⟨a', c', e', X.els ++ [y], tl⟩ : TL τ))) w' := by
    generalize TL.hdr (⟨a', c', e', X.els ++ [y], tl⟩ : TL τ) = vv at *
    generalize X.hdr = uu at *
    simp [execOp, resolve, invoke, builtin, e1, e2, h1']
  rw [h3]
  refine ⟨[treeH (⟨a', c', e', X.els ++ [y], tl⟩ : TL τ)], ⟨_, rfl, ?_, rfl⟩, ?_⟩
  · rw [dat_els, List.map_append]; rfl
  · refine row_tree ?_
    have h4 : Holds Γ.w0 Γ.S0 (elsT X.els :: elsT [y] :: rowH (⟨a', c', e', X.els ++ [y], tl⟩ : TL τ) :: F) w' := by
      have h5 := elsT_flat (xs := [y]) h2 (fun x _ => FlatT.flat x)
      have h6 : Holds Γ.w0 Γ.S0 (elsT X.els :: elsT [y] :: rowH (⟨a', c', e', X.els ++ [y], tl⟩ : TL τ) :: blk b (GT.cells y) T' :: F) w' :=
        h5.perm (((List.Perm.swap _ _ _).cons _).trans (List.Perm.swap _ _ _))
      exact h6.sub ⟨[blk b (GT.cells y) T'], by
        show List.Perm _ (([elsT X.els, elsT [y], rowH (⟨a', c', e', X.els ++ [y], tl⟩ : TL τ)] ++ F) ++ [blk b (GT.cells y) T'])
        rw [List.append_assoc]
        exact (List.perm_append_comm (l₁ := [blk b (GT.cells y) T']) (l₂ := F)).append_left [elsT X.els, elsT [y], rowH (⟨a', c', e', X.els ++ [y], tl⟩ : TL τ)]⟩
    exact (elsT_app h4).perm (List.Perm.swap _ _ _)
/-! A row whose elements are handed on -/
theorem RdC.row {X : TL τ} {j : Nat} {x : τ} (h : rowH X ∈ M) (hi : X.els[j]? = some x) : RdC Γ M X.g (X.o + j * GT.sz τ) (GT.cells x) := fun w hw k v hv => by
  obtain ⟨r1, r2, r3, r4⟩ := hw.prs _ h
  have hlt := (List.getElem?_eq_some_iff.1 hi).1
  have hk : k < GT.sz τ := by rw [← GT.len x]; exact (List.getElem?_eq_some_iff.1 hv).1
  cases ha : X.a with
  | none => have := (r3 ha).1; rw [this] at hlt; simp at hlt
  | some a =>
    obtain ⟨h1, h2, h3, h4⟩ := r4 a ha
    have hg : X.g = a.block := by unfold TL.g; rw [ha]; rfl
    have ho : X.o = 0 := by unfold TL.o; rw [ha]; exact h2
    rw [hg, ho, Nat.zero_add, cell_of_row _ _ _ _ _ _ h3]
    simp only [List.getElem?_toArray]
    have hc := rowCells_get X.els j k x hi hk
    rw [List.getElem?_append_left (by rw [hv] at hc; exact (List.getElem?_eq_some_iff.1 hc).1), hc]
    exact hv
theorem row_adr {X : TL τ} {j : Nat} {u : τ} (h : (rowH X).pr w) (hi : X.els[j]? = some u) : X.hdr = .slice (some ⟨X.g, X.o, none⟩) X.els.length X.cap := by
  obtain ⟨r1, r2, r3, r4⟩ := h
  have hlt := (List.getElem?_eq_some_iff.1 hi).1
  show Value.slice X.a X.els.length X.cap = _
  cases ha : X.a with
  | none => have := (r3 ha).1; rw [this] at hlt; simp at hlt
  | some a =>
    obtain ⟨h1, h2, h3, h4⟩ := r4 a ha
    obtain ⟨b, o, s⟩ := a
    have h1 : s = none := h1
    subst h1
    simp [TL.g, TL.o, ha]
theorem L_idxR {x y : Operand} {T e sz by_ : Nat} {z : List Value} {k : IntKind} {i : Int} {X : TL τ} {u : τ} (hn : Nat.blt d Γ.n = true) (hx : ev l x = some X.hdr) (hy : ev l y = some (.int k i))
    (ht : elOf Γ.P T = some (e, sz, by_, z)) (hm : rowH X ∈ M) (hi : 0 ≤ i ∧ X.els[i.toNat]? = some u) (hk : L Γ rest ((d, .pointer (some ⟨X.g, X.o + i.toNat * sz, none⟩)) :: l) M K) :
    L Γ ({ dst := some d, op := .indexAddr T x y, type := ty, pos := pos, after := af, guard := none } :: rest) l M K :=
  L_pure hn (fun a' w ha hw => by
    have h1 := ha.eval hx
    rw [row_adr (hw.prs _ hm) hi.2] at h1
    simp [execOp, h1, ha.eval hy, run_indexAt ht X.g X.o X.els.length X.cap k i i.toNat (by omega) (List.getElem?_eq_some_iff.1 hi.2).1 w]) hk
/-- The next element leaves the pool. -/
theorem els_next {X : TL τ} {i : Nat} {u : τ} (hi : X.els[i]? = some u) (p : Pick (elsT (X.els.drop i)) M M1) (h : Holds w0 S0 M w) : Holds w0 S0 (treeH u :: elsT (X.els.drop (i + 1)) :: M1) w := by
  have h1 := h.perm p.perm
  obtain ⟨hlt, hx⟩ := List.getElem?_eq_some_iff.1 hi
  have he : X.els.drop i = u :: X.els.drop (i + 1) := by rw [← hx, ← List.drop_eq_getElem_cons hlt]
  rw [he] at h1
  refine h1.reFp (List.Perm.of_eq ?_) fun y hy => ?_
  · simp only [fps_cons]
    show (u :: X.els.drop (i + 1)).flatMap GT.fp ++ fps M1 = GT.fp u ++ ((X.els.drop (i + 1)).flatMap GT.fp ++ fps M1)
    rw [List.flatMap_cons, List.append_assoc]
  · have h2 := h1.prs (elsT (u :: X.els.drop (i + 1))) (List.mem_cons_self ..)
    rcases List.mem_cons.1 hy with rfl | hy
    · exact h2 u (List.mem_cons_self ..)
    rcases List.mem_cons.1 hy with rfl | hy
    · exact fun x hx => h2 x (List.mem_cons_of_mem _ hx)
    · exact h1.prs _ (List.mem_cons_of_mem _ hy)
theorem els_start {X : TL τ} (p : Pick (treeH X) M M1) (h : Holds w0 S0 M w) : Holds w0 S0 (rowH X :: elsT (X.els.drop 0) :: M1) w := tree_row (h.perm p.perm)
theorem els_step {X : TL τ} {i : Int} {u : τ} (hi : 0 ≤ i ∧ X.els[i.toNat]? = some u) (hm : rowH X ∈ M) (p : Pick (elsT (X.els.drop (i.toNat + 1))) M M1) (h : Holds w0 S0 M w) :
    Holds w0 S0 (elsT (X.els.drop (IntKind.wrap .i64 (i + 1)).toNat) :: M1) w := by
  have h1 := h.perm p.perm
  have hlt := (List.getElem?_eq_some_iff.1 hi.2).1
  obtain ⟨r1, r2, _⟩ := h.prs _ hm
  simp only [maxLen] at r2
  rw [wrap64_in (by unfold inR; omega), show (i + 1).toNat = i.toNat + 1 by omega]
  exact h1
end
end Go.Proofs.SL
namespace Go.Proofs.SL
open Go
variable {Γ : Cx} {l : Envl} {M M' M1 M2 F : List HP} {Q : Post} {K : Kont} {rest : List Oper}
section
variable {τ δ : Type} [GT τ δ]
theorem L_close {X : TL τ} {i : Nat} {cs : List Value} (x' : τ) {r : List δ} (hc : cs = GT.cells x') (p : Pick (holeH X i cs) M M1) (q : Pick (treeH x') M1 M2) (hr : some ((GT.dat X).set i (GT.dat x')) = some r)
    (hk : ∀ X2 : TL τ, GT.dat X2 = r → X2.hdr = X.hdr → L Γ rest l (treeH X2 :: M2) K) : L Γ rest l M K :=
  L_conv (fun w h => hole_close hc p q h) (hk _ (by rw [dat_set]; exact Option.some.inj hr) (by show Value.slice X.a (X.els.set i x').length X.cap = Value.slice X.a X.els.length X.cap; rw [List.length_set]))
end
end Go.Proofs.SL
namespace Go.Proofs.SL
open Go
variable {Γ : Cx} {rest : List Oper} {d : Nat} {ty : TypeId} {pos : String} {af : Array Edge} {gd : Option (Nat × Bool)}
variable {ops : Array Oper} {Msh pool : List HP} {E : Fl} {rs : List (Option Nat × Rel)} {cs0 : List Nat} {KD : List (Option Nat × Rel) → List Nat → List HP → Prop}
theorem D_idxH {τ δ : Type} [GT τ δ] {x y : Operand} {T e sz by_ j : Nat} {z cs : List Value} {k : IntKind} {i : Int} {X : TL τ} {u : τ} {c : Prop} (hg : GC ops E { dst := some d, op := .indexAddr T x y, type := ty, pos := pos, after := af, guard := gd } c)
    (hx : OpV E x c X.hdr) (hy : OpV E y c (.int k i)) (ht : elOf Γ.P T = some (e, sz, by_, z)) (hm : holeH X j cs ∈ Msh) (hi : c → 0 ≤ i ∧ X.els[i.toNat]? = some u)
    (hk : DV Γ ops Msh pool ((d, FC c (.pointer (some ⟨X.g, X.o + i.toNat * sz, none⟩))) :: E) ((some d, FC c (.pointer (some ⟨X.g, X.o + i.toNat * sz, none⟩))) :: rs) cs0 rest KD) :
    DV Γ ops Msh pool E rs cs0 ({ dst := some d, op := .indexAddr T x y, type := ty, pos := pos, after := af, guard := gd } :: rest) KD :=
  DV_pure c _ hg (fun a w F hc hf hs => by
    have e1 := hx.eval hf (by simp [Op.operands]) hc
    have e2 := hy.eval hf (by simp [Op.operands]) hc
    obtain ⟨h0, h1⟩ := hi hc
    obtain ⟨r1, r2, r3, r4, r5, r6, r7, r8⟩ := hs.prs _ hm
    have ho : X.o = 0 := by unfold TL.o; rw [r5]; rfl
    have h2 : X.hdr = .slice (some ⟨X.g, X.o, none⟩) X.els.length X.cap := by show Value.slice X.a X.els.length X.cap = _; rw [ho, ← r5]
    rw [h2] at e1
    simp [execOp, e1, e2, run_indexAt ht X.g X.o X.els.length X.cap k i i.toNat (by omega) (List.getElem?_eq_some_iff.1 h1).1 w]) hk
end Go.Proofs.SL
namespace Go.Proofs.SL
open Go
variable {Γ : Cx} {rest : List Oper} {d : Nat} {ty : TypeId} {pos : String} {af : Array Edge} {gd : Option (Nat × Bool)}
variable {ops : Array Oper} {Msh pool : List HP} {E : Fl} {rs : List (Option Nat × Rel)} {cs0 : List Nat} {KD : List (Option Nat × Rel) → List Nat → List HP → Prop}
theorem D_idxR {τ δ : Type} [GT τ δ] {x y : Operand} {T e sz by_ : Nat} {z : List Value} {k : IntKind} {i : Int} {X : TL τ} {u : τ} {c : Prop} (hg : GC ops E { dst := some d, op := .indexAddr T x y, type := ty, pos := pos, after := af, guard := gd } c)
    (hx : OpV E x c X.hdr) (hy : OpV E y c (.int k i)) (ht : elOf Γ.P T = some (e, sz, by_, z)) (hm : rowH X ∈ Msh) (hi : c → 0 ≤ i ∧ X.els[i.toNat]? = some u)
    (hk : DV Γ ops Msh pool ((d, FC c (.pointer (some ⟨X.g, X.o + i.toNat * sz, none⟩))) :: E) ((some d, FC c (.pointer (some ⟨X.g, X.o + i.toNat * sz, none⟩))) :: rs) cs0 rest KD) :
    DV Γ ops Msh pool E rs cs0 ({ dst := some d, op := .indexAddr T x y, type := ty, pos := pos, after := af, guard := gd } :: rest) KD :=
  DV_pure c _ hg (fun a w F hc hf hs => by
    have e1 := hx.eval hf (by simp [Op.operands]) hc
    have e2 := hy.eval hf (by simp [Op.operands]) hc
    obtain ⟨h0, h1⟩ := hi hc
    rw [row_adr (hs.prs _ hm) h1] at e1
    simp [execOp, e1, e2, run_indexAt ht X.g X.o X.els.length X.cap k i i.toNat (by omega) (List.getElem?_eq_some_iff.1 h1).1 w]) hk
end Go.Proofs.SL
namespace Go.Proofs.SL
open Go
section
variable {α β σ τ : Type}
theorem wrap_succ {k : Nat} (h : k < 9223372036854775807) : IntKind.wrap .i64 ((k : Int) + 1) = ((k + 1 : Nat) : Int) := by rw [wrap64_in (by unfold inR; omega)]; omega
/-- What a walk along a list does. -/
def goE (step : τ → β → τ ⊕ Option α) (fin : τ → Option α) : List β → τ → Option α
  | [], t => fin t
  | x :: xs, t => match step t x with
    | .inl t' => goE step fin xs t'
    | .inr r => r
theorem whileP_go {f : σ → Option (σ ⊕ α)} {l : List β} (mk : Nat → τ → σ) (step : τ → β → τ ⊕ Option α) (fin : τ → Option α) (I : Nat → τ → Prop)
    (hs : ∀ k t x, l[k]? = some x → I k t → (∃ t', step t x = .inl t' ∧ f (mk k t) = some (.inl (mk (k + 1) t')) ∧ I (k + 1) t') ∨ (∃ r, step t x = .inr r ∧ f (mk k t) = r.map .inr))
    (he : ∀ t, I l.length t → f (mk l.length t) = (fin t).map .inr) : ∀ (xs : List β) (k : Nat) (t : τ), l.drop k = xs → I k t → k ≤ l.length → whileP f (mk k t) = goE step fin xs t
  | [], k, t, hd, hi, hk => by
    have hlen : k = l.length := by
      have := congrArg List.length hd
      simp at this; omega
    subst hlen
    rw [whileP_eq, he t hi]
    show _ = fin t
    cases fin t <;> rfl
  | x :: xs, k, t, hd, hi, hk => by
    have hx : l[k]? = some x := by
      have := congrArg (fun q => q[0]?) hd
      simpa [List.getElem?_drop] using this
    have hlt := (List.getElem?_eq_some_iff.1 hx).1
    have hd' : l.drop (k + 1) = xs := by
      have := congrArg List.tail hd
      simpa [List.tail_drop] using this
    rw [whileP_eq]
    rcases hs k t x hx hi with ⟨t', h1, h2, h3⟩ | ⟨r, h1, h2⟩
    · rw [h2]
      show whileP f (mk (k + 1) t') = _
      rw [whileP_go mk step fin I hs he xs (k + 1) t' hd' h3 (by omega)]
      simp only [goE, h1]
    · rw [h2]
      simp only [goE, h1]
      cases r <;> rfl
theorem whileP_for {f : σ → Option (σ ⊕ α)} {l : List β} (mk : Nat → τ → σ) (step : τ → β → τ ⊕ Option α) (fin : τ → Option α) (I : Nat → τ → Prop) (t0 : τ) {s0 : σ} (h0 : mk 0 t0 = s0) (hI : I 0 t0)
    (hs : ∀ k t x, l[k]? = some x → I k t → (∃ t', step t x = .inl t' ∧ f (mk k t) = some (.inl (mk (k + 1) t')) ∧ I (k + 1) t') ∨ (∃ r, step t x = .inr r ∧ f (mk k t) = r.map .inr))
    (he : ∀ t, I l.length t → f (mk l.length t) = (fin t).map .inr) : whileP f s0 = goE step fin l t0 := by
  subst h0
  exact whileP_go mk step fin I hs he l 0 t0 rfl hI (Nat.zero_le _)
theorem goE_app (xs acc : List β) (g : List β → Option α) : goE (fun (t : List β) x => (.inl (t ++ [x]) : List β ⊕ Option α)) g xs acc = g (acc ++ xs) := by
  induction xs generalizing acc with
  | nil => simp [goE]
  | cons x xs ih => simp only [goE]; rw [ih]; simp
/-- A walk without early ends. -/
theorem goE_fold (h : τ → β → τ) (g : τ → Option α) : ∀ (xs : List β) (t : τ), goE (fun t x => (.inl (h t x) : τ ⊕ Option α)) g xs t = g (xs.foldl h t)
  | [], t => rfl
  | x :: xs, t => by simp only [goE, List.foldl_cons]; exact goE_fold h g xs (h t x)
theorem appP_ok {δ : Type} {a b : List δ} (h : a.length + b.length ≤ 4294967296) : appP a b = some (a ++ b) := if_pos h
theorem catP_ok {a b : ByteArray} (h : a.size + b.size ≤ 9223372036854775807) : catP a b = some (a ++ b) := if_pos h
theorem lt_dec {k n : Nat} (h : k < n) : decide ((k : Int) < (n : Int)) = true := decide_eq_true (by omega)
theorem ge_dec {n : Nat} : decide ((n : Int) < (n : Int)) = false := decide_eq_false (by omega)
/-- A check of all places. -/
theorem whileP_all {f : Int → Option (Int ⊕ α)} {n : Nat} (b : Nat → Bool) (no yes : Option α)
    (h : ∀ k, k < n → f (k : Int) = if b k then some (.inl ((k + 1 : Nat) : Int)) else no.map .inr) (hn : f (n : Int) = yes.map .inr) : whileP f 0 = if (List.range n).all b then yes else no := by
  have key : ∀ m k, n - k = m → k ≤ n → whileP f (k : Int) = if (List.range' k (n - k)).all b then yes else no := by
    intro m
    induction m with
    | zero =>
      intro k hm hk
      have : k = n := by omega
      subst this
      rw [whileP_eq, hn, Nat.sub_self]
      cases yes <;> rfl
    | succ m ih =>
      intro k hm hk
      rw [whileP_eq, h k (by omega), show n - k = (n - (k + 1)) + 1 by omega, List.range'_succ, List.all_cons]
      cases hb : b k with
      | true =>
        simp only [if_true, Bool.true_and]
        exact ih (k + 1) (by omega) (by omega)
      | false =>
        simp only [Bool.false_and, Bool.false_eq_true, if_false]
        cases no <;> rfl
  have := key n 0 (by omega) (by omega)
  rw [Nat.sub_zero, ← List.range_eq_range'] at this
  exact this
/-- A search for the first that passes: what the loop yields where one does, or at the end. -/
theorem whileP_find {γ : Type} {f : Int → Option (Int ⊕ γ)} {l : List β} (p : β → Bool) (q : Int → Option γ) (hl : l.length ≤ 9223372036854775807)
    (hs : ∀ (k : Nat) x, l[k]? = some x → f (k : Int) = if p x then (q k).map .inr else some (.inl (IntKind.wrap .i64 ((k : Int) + 1)))) (he : f (l.length : Int) = (q (-1)).map .inr) : whileP f 0 = q (firstI p l) := by
  have key : ∀ (xs : List β) (k : Nat), l.drop k = xs → k ≤ l.length → (∀ j x, j < k → l[j]? = some x → p x = false) → whileP f (k : Int) = q (firstI p l) := by
    intro xs
    induction xs with
    | nil =>
      intro k hd hk hf
      have hlen : k = l.length := by have := congrArg List.length hd; simp at this; omega
      subst hlen
      rw [whileP_eq, he, firstI_miss (fun x hx => by
        obtain ⟨j, hj⟩ := List.getElem?_of_mem hx
        exact hf j x (List.getElem?_eq_some_iff.1 hj).1 hj)]
      cases q (-1) <;> rfl
    | cons x xs ih =>
      intro k hd hk hf
      have hx : l[k]? = some x := by
        have := congrArg (fun q => q[0]?) hd
        simpa [List.getElem?_drop] using this
      have hlt := (List.getElem?_eq_some_iff.1 hx).1
      rw [whileP_eq, hs k x hx]
      cases hp : p x with
      | true =>
        rw [firstI_hit (fun y hy => by
          obtain ⟨j, hj⟩ := List.getElem?_of_mem hy
          have hjl := (List.getElem?_eq_some_iff.1 hj).1
          rw [List.length_take] at hjl
          rw [List.getElem?_take_of_lt (by omega)] at hj
          exact hf j y (by omega) hj) hx hp]
        simp only [if_true]
        cases q (k : Int) <;> rfl
      | false =>
        simp only [Bool.false_eq_true, if_false]
        rw [wrap_succ (by omega)]
        refine ih (k + 1) ?_ (by omega) (fun j y hj hy => ?_)
        · have := congrArg List.tail hd
          simpa [List.tail_drop] using this
        · rcases Nat.lt_or_ge j k with h1 | h1
          · exact hf j y h1 hy
          · have : j = k := by omega
            subst this
            rw [hx] at hy; cases hy; exact hp
  exact key l 0 rfl (Nat.zero_le _) (fun j x hj => absurd hj (Nat.not_lt_zero _))
theorem all_range_get {l : List β} {p : β → Bool} : (List.range l.length).all (fun k => (l[k]?).all p) = l.all p := by
  rw [Bool.eq_iff_iff, List.all_eq_true, List.all_eq_true]
  constructor
  · intro h x hx
    obtain ⟨i, hi⟩ := List.getElem?_of_mem hx
    have := h i (List.mem_range.2 (List.getElem?_eq_some_iff.1 hi).1)
    rw [hi] at this; exact this
  · intro h k hk
    have hk := List.mem_range.1 hk
    rw [List.getElem?_eq_getElem hk]
    exact h _ (List.getElem_mem hk)
end
end Go.Proofs.SL
namespace Go.Proofs.SL
open Go
variable {Γ : Cx} {l : Envl} {M M' M1 M2 F : List HP} {Q : Post} {K : Kont} {w0 w : World} {S0 : List Nat} {P : Program}
variable {rest : List Oper} {d : Nat} {ty : TypeId} {pos : String} {af : Array Edge}
variable {ops : Array Oper} {Msh pool : List HP} {E : Fl} {rs : List (Option Nat × Rel)} {cs0 : List Nat} {KD : List (Option Nat × Rel) → List Nat → List HP → Prop} {gd : Option (Nat × Bool)}
section
variable {τ δ : Type} [GT τ δ]
theorem els_sub {xs ys zs : List τ} (hp : List.Perm xs (ys ++ zs)) (p : Pick (elsT xs) M M1) (h : Holds w0 S0 M w) : Holds w0 S0 (elsT ys :: M1) w := by
  have h1 := h.perm p.perm
  have h2 : Holds w0 S0 (elsT ys :: elsT zs :: M1) w := by
    refine h1.reFp ?_ fun x hx => ?_
    · simp only [fps_cons]
      show List.Perm (xs.flatMap GT.fp ++ fps M1) (ys.flatMap GT.fp ++ (zs.flatMap GT.fp ++ fps M1))
      rw [← List.append_assoc, ← List.flatMap_append]
      exact (hp.flatMap_right _).append_right _
    · have h3 := h1.prs (elsT xs) (List.mem_cons_self ..)
      rcases List.mem_cons.1 hx with rfl | hx
      · exact fun y hy => h3 y (hp.mem_iff.2 (List.mem_append_left _ hy))
      rcases List.mem_cons.1 hx with rfl | hx
      · exact fun y hy => h3 y (hp.mem_iff.2 (List.mem_append_right _ hy))
      · exact h1.prs _ (List.mem_cons_of_mem _ hx)
  exact h2.sub ⟨[elsT zs], (List.perm_append_comm (l₁ := [elsT zs]) (l₂ := M1)).cons _⟩
theorem raw_facts {X : TL τ} (h : GT.ow w X) (hx : X.els ≠ []) : X.a = some ⟨X.g, 0, none⟩ ∧ X.els.length ≤ X.cap ∧ X.cap ≤ maxLen ∧ X.els.length * GT.sz τ + X.tail.length = X.cap * GT.sz τ ∧ w.heap[X.g]? = some (.cells (rowCells X.els ++ X.tail).toArray X.e (0, 0)) := by
  obtain ⟨r1, r2, r3, r4, r5⟩ := h
  cases ha : X.a with
  | none => exact (hx (r4 ha).1).elim
  | some a =>
    obtain ⟨h1, h2, h3, h4⟩ := r5 a ha
    have hg : X.g = a.block := by unfold TL.g; rw [ha]; rfl
    obtain ⟨b, o, s⟩ := a
    have h1 : s = none := h1
    have h2 : o = 0 := h2
    subst h1; subst h2
    refine ⟨by rw [hg], r1, r2, h4, by rw [hg]; exact h3⟩
theorem raw_open {X : TL τ} (hx : X.els ≠ []) (p : Pick (treeH X) M M1) (h : Holds w0 S0 M w) : Holds w0 S0 (blk X.g (rowCells X.els ++ X.tail) X.e :: elsT X.els :: M1) w := by
  have h1 := h.perm p.perm
  have ht : GT.ow w X := h1.prs _ (List.mem_cons_self ..)
  obtain ⟨f1, _, _, _, f5⟩ := raw_facts ht hx
  refine h1.reFp (List.Perm.of_eq ?_) fun x hx => ?_
  · simp only [fps_cons]
    show ((match X.a with | none => [] | some a => [a.block]) ++ X.els.flatMap GT.fp) ++ fps M1 = [X.g] ++ (X.els.flatMap GT.fp ++ fps M1)
    rw [f1, List.append_assoc]
  · rcases List.mem_cons.1 hx with rfl | hx
    · exact f5
    rcases List.mem_cons.1 hx with rfl | hx
    · exact ht.2.2.1
    · exact h1.prs _ (List.mem_cons_of_mem _ hx)
theorem W_raw {c : Code} {X : TL τ} (hx : X.els ≠ []) (p : Pick (treeH X) M M1)
    (hk : X.a = some ⟨X.g, 0, none⟩ → X.els.length ≤ X.cap → X.cap ≤ maxLen → X.els.length * GT.sz τ + X.tail.length = X.cap * GT.sz τ → W Γ c l (blk X.g (rowCells X.els ++ X.tail) X.e :: elsT X.els :: M1) Q) : W Γ c l M Q :=
  W_fact (φ := X.a = some ⟨X.g, 0, none⟩ ∧ X.els.length ≤ X.cap ∧ X.cap ≤ maxLen ∧ X.els.length * GT.sz τ + X.tail.length = X.cap * GT.sz τ)
    (fun w h => by obtain ⟨f1, f2, f3, f4, _⟩ := raw_facts ((h.perm p.perm).prs (treeH X) (List.mem_cons_self ..)) hx; exact ⟨f1, f2, f3, f4⟩)
    (fun ⟨f1, f2, f3, f4⟩ => W_conv (fun w h => raw_open hx p h) (hk f1 f2 f3 f4))
theorem raw_close {g cap : Nat} {e : TypeId} {els : List τ} {tail cs : List Value} (hc : cs = rowCells els ++ tail) (h1 : els.length ≤ cap) (h2 : cap ≤ maxLen) (h3 : els.length * GT.sz τ + tail.length = cap * GT.sz τ)
    (p : Pick (blk g cs e) M M1) (q : Pick (elsT els) M1 M2) (h : Holds w0 S0 M w) : Holds w0 S0 (treeH (⟨some ⟨g, 0, none⟩, cap, e, els, tail⟩ : TL τ) :: M2) w := by
  subst hc
  have h4 := h.perm (p.perm.trans (q.perm.cons _))
  refine h4.reFp (List.Perm.of_eq ?_) fun x hx => ?_
  · simp only [fps_cons]
    show [g] ++ (els.flatMap GT.fp ++ fps M2) = ([g] ++ els.flatMap GT.fp) ++ fps M2
    rw [List.append_assoc]
  · rcases List.mem_cons.1 hx with rfl | hx
    · refine ⟨h1, h2, h4.prs (elsT els) (List.mem_cons_of_mem _ (List.mem_cons_self ..)), fun h => (by cases h), fun a ha => ?_⟩
      cases ha
      exact ⟨rfl, rfl, h4.prs (blk g _ e) (List.mem_cons_self ..), h3⟩
    · exact h4.prs _ (List.mem_cons_of_mem _ (List.mem_cons_of_mem _ hx))
end
/-! Headers -/
def slA (o c lo sz : Nat) : Nat := if c = lo then o else o + lo * sz
theorem run_slV {T e sz by_ : Nat} {z : List Value} {g o n c : Nat} {vlo vhi : Option Value} {a b : Int} (ht : elOf P T = some (e, sz, by_, z)) (hlo : (vlo = none ∧ a = 0) ∨ ∃ k, vlo = some (.int k a)) (hhi : (vhi = none ∧ b = (n : Int)) ∨ ∃ k, vhi = some (.int k b))
    (h0 : 0 ≤ a) (h1 : a ≤ b) (h2 : b ≤ (c : Int)) (w : World) : (Instr.sliceAt T (.slice (some ⟨g, o, none⟩) n c) vlo vhi none).run P w = .ok (.slice (some ⟨g, slA o c a.toNat sz, none⟩) (b.toNat - a.toNat) (c - a.toNat)) w := by
  unfold elOf at ht
  split at ht <;> (try cases ht)
  rename_i e' het
  split at ht <;> (try cases ht)
  rename_i i' hi'
  split at ht <;> cases ht
  have e1 := fun k w => run_sliceBound (P := P) (k := k) (code := .sliceAcap) (show 0 ≤ b by omega) (show b ≤ ((c : Nat) : Int) by omega) w
  have e2 := fun k w => run_sliceBound (P := P) (k := k) (code := .sliceB) h0 (show a ≤ ((b.toNat : Nat) : Int) by omega) w
  have hv : (if c = a.toNat then (⟨g, o, none⟩ : Addr) else (⟨g, o, none⟩ : Addr).add (a.toNat * i'.size)) = ⟨g, slA o c a.toNat i'.size, none⟩ := by
    unfold slA; split
    · rfl
    · rw [addr_add]
  rw [← hv]
  rcases hlo with ⟨rfl, rfl⟩ | ⟨k1, rfl⟩ <;> rcases hhi with ⟨rfl, rfl⟩ | ⟨k2, rfl⟩
  · simp [Instr.sliceAt, Instr.slice, underlying, het, Instr.sliceBounds, sizeOf, typeInfo, hi']
    split <;> rfl
  · simp [Instr.sliceAt, Instr.slice, underlying, het, Instr.sliceBounds, sizeOf, typeInfo, hi', e1]
    split <;> rfl
  · have e3 := fun k w => run_sliceBound (P := P) (k := k) (code := .sliceB) h0 (show a ≤ ((n : Nat) : Int) by omega) w
    simp [Instr.sliceAt, Instr.slice, underlying, het, Instr.sliceBounds, sizeOf, typeInfo, hi', e3]
    split <;> rfl
  · simp [Instr.sliceAt, Instr.slice, underlying, het, Instr.sliceBounds, sizeOf, typeInfo, hi', e1, e2]
    split <;> rfl
theorem L_slV {x : Operand} {lo hi : Option Operand} {T e sz by_ : Nat} {z : List Value} {g o n c : Nat} {a b : Int} (hn : Nat.blt d Γ.n = true) (hx : ev l x = some (.slice (some ⟨g, o, none⟩) n c)) (hlo : optI l lo 0 = some a) (hhi : optI l hi (n : Int) = some b)
    (ht : elOf Γ.P T = some (e, sz, by_, z)) (h0 : 0 ≤ a) (h1 : a ≤ b) (h2 : b ≤ (c : Int)) (hk : L Γ rest ((d, .slice (some ⟨g, slA o c a.toNat sz, none⟩) (b.toNat - a.toNat) (c - a.toNat)) :: l) M K) :
    L Γ ({ dst := some d, op := .slice T x lo hi none, type := ty, pos := pos, after := af, guard := none } :: rest) l M K :=
  L_pure hn (fun a' w ha hw => by
    have h3 := run_slV (P := Γ.P) (T := T) (g := g) (o := o) (n := n) (c := c) (vlo := lo.map a'.eval) (vhi := hi.map a'.eval) (a := a) (b := b) ht (by
      cases lo with
      | none => cases hlo; exact .inl ⟨rfl, rfl⟩
      | some q => obtain ⟨k, h⟩ := optI_some hlo; exact .inr ⟨k, by simp [ha.eval h]⟩) (by
      cases hi with
      | none => cases hhi; exact .inl ⟨rfl, rfl⟩
      | some q => obtain ⟨k, h⟩ := optI_some hhi; exact .inr ⟨k, by simp [ha.eval h]⟩) h0 h1 h2 w
    simp [execOp, ha.eval hx, h3]) hk
theorem D_slV {x : Operand} {lo hi : Option Operand} {T e sz by_ : Nat} {z : List Value} {g o n c : Nat} {a b : Int} {cc : Prop} (hg : GC ops E { dst := some d, op := .slice T x lo hi none, type := ty, pos := pos, after := af, guard := gd } cc)
    (hx : OpV E x cc (.slice (some ⟨g, o, none⟩) n c)) (hlo : optD E lo cc 0 a) (hhi : optD E hi cc (n : Int) b) (ht : elOf Γ.P T = some (e, sz, by_, z)) (h0 : 0 ≤ a) (h1 : a ≤ b) (h2 : b ≤ (c : Int))
    (hk : DV Γ ops Msh pool ((d, FC cc (.slice (some ⟨g, slA o c a.toNat sz, none⟩) (b.toNat - a.toNat) (c - a.toNat))) :: E) ((some d, FC cc (.slice (some ⟨g, slA o c a.toNat sz, none⟩) (b.toNat - a.toNat) (c - a.toNat))) :: rs) cs0 rest KD) :
    DV Γ ops Msh pool E rs cs0 ({ dst := some d, op := .slice T x lo hi none, type := ty, pos := pos, after := af, guard := gd } :: rest) KD :=
  DV_pure cc _ hg (fun a' w F hc hf hs => by
    have e0 := hx.eval hf (by simp [Op.operands]) hc
    have h3 := run_slV (P := Γ.P) (T := T) (g := g) (o := o) (n := n) (c := c) (vlo := lo.map a'.eval) (vhi := hi.map a'.eval) (a := a) (b := b) ht (by
      cases lo with
      | none => cases hlo; exact .inl ⟨rfl, rfl⟩
      | some q => obtain ⟨k, h⟩ := hlo; exact .inr ⟨k, by simp [OpV.eval h hf (by simp [Op.operands]) hc]⟩) (by
      cases hi with
      | none => cases hhi; exact .inl ⟨rfl, rfl⟩
      | some q => obtain ⟨k, h⟩ := hhi; exact .inr ⟨k, by simp [OpV.eval h hf (by simp [Op.operands]) hc]⟩) h0 h1 h2 w
    simp [execOp, e0, h3]) hk
/-- A slice with three bounds, of which only the check counts. -/
theorem L_sl3 {x lo hi mx : Operand} {T e sz by_ : Nat} {z : List Value} {g o n c : Nat} {a b m : Int} {k1 k2 k3 : IntKind} (hn : Nat.blt d Γ.n = true) (hx : ev l x = some (.slice (some ⟨g, o, none⟩) n c)) (hlo : ev l lo = some (.int k1 a)) (hhi : ev l hi = some (.int k2 b)) (hmx : ev l mx = some (.int k3 m))
    (ht : elOf Γ.P T = some (e, sz, by_, z)) (h0 : 0 ≤ a) (h1 : a ≤ b) (h2 : b ≤ m) (h3 : m ≤ (c : Int)) (hk : ∀ v, L Γ rest ((d, v) :: l) M K) :
    L Γ ({ dst := some d, op := .slice T x (some lo) (some hi) (some mx), type := ty, pos := pos, after := af, guard := none } :: rest) l M K := by
  unfold elOf at ht
  split at ht <;> (try cases ht)
  rename_i e' het
  split at ht <;> (try cases ht)
  rename_i i' hi'
  split at ht <;> cases ht
  refine L_pure hn (v := .slice (if m.toNat = a.toNat then some ⟨g, o, none⟩ else some ((⟨g, o, none⟩ : Addr).add (a.toNat * i'.size))) (b.toNat - a.toNat) (m.toNat - a.toNat)) (fun a' w ha hw => ?_) (hk _)
  have e1 := fun w => run_sliceBound (P := Γ.P) (k := k3) (code := .slice3Acap) (show 0 ≤ m by omega) (show m ≤ ((c : Nat) : Int) by omega) w
  have e2 := fun w => run_sliceBound (P := Γ.P) (k := k2) (code := .slice3B) (show 0 ≤ b by omega) (show b ≤ ((m.toNat : Nat) : Int) by omega) w
  have e3 := fun w => run_sliceBound (P := Γ.P) (k := k1) (code := .slice3C) h0 (show a ≤ ((b.toNat : Nat) : Int) by omega) w
  simp [execOp, ha.eval hx, ha.eval hlo, ha.eval hhi, ha.eval hmx, Instr.sliceAt, Instr.slice, underlying, het, Instr.sliceBounds, sizeOf, typeInfo, hi', e1, e2, e3]
/-! Cells -/
theorem cells_at {b : Nat} {cs : List Value} {T : TypeId} (hp : w.heap[b]? = some (.cells cs.toArray T (0, 0))) (o n : Nat) : ∀ j v, ((cs.drop o).take n)[j]? = some v → w.cell? ⟨b, o + j, none⟩ = some v := fun j v hv => by
  rw [cell_of_row _ _ _ _ _ _ hp]
  simp only [List.getElem?_toArray]
  rw [List.getElem?_take] at hv
  split at hv
  · rw [List.getElem?_drop] at hv; exact hv
  · cases hv
/-- append in place, out of the same block. -/
theorem L_appRaw {s x : Operand} {T e sz by_ g n m c c2 o : Nat} {z cs : List Value} {e2 : TypeId} (hn : Nat.blt d Γ.n = true) (hs : ev l s = some (.slice (some ⟨g, 0, none⟩) n c)) (hx : ev l x = some (.slice (some ⟨g, o, none⟩) m c2))
    (ht : elOf Γ.P T = some (e, sz, by_, z)) (hp : Pick (blk g cs e2) M M1) (hroom : n + m ≤ c) (h1 : o + m * sz ≤ cs.length) (h2 : n * sz + m * sz ≤ cs.length) (hone : ∀ u, u ∈ (cs.drop o).take (m * sz) → u.oneCell' = true)
    (hk : L Γ rest ((d, .slice (some ⟨g, 0, none⟩) (n + m) c) :: l) (blk g (cs.take (n * sz) ++ (cs.drop o).take (m * sz) ++ cs.drop (n * sz + m * sz)) e2 :: M1) K) :
    L Γ ({ dst := some d, op := .call { callee := .builtin .append, args := #[s, x], argTypes := #[T, T] }, type := ty, pos, after := af, guard := none } :: rest) l M K := by
  refine L_step rfl rfl (Nat.le_of_ble_eq_true hn) (fun a w ha hw => ?_) hk
  unfold elOf at ht
  split at ht <;> (try cases ht)
  rename_i e' het
  split at ht <;> (try cases ht)
  rename_i i' hi'
  split at ht <;> cases ht
  have hw1 := hw.perm hp.perm
  have hh : w.heap[g]? = some (.cells cs.toArray e2 (0, 0)) := hw1.prs (blk g cs e2) (List.mem_cons_self ..)
  have hl : ((cs.drop o).take (m * i'.size)).length = m * i'.size := by rw [List.length_take, List.length_drop]; omega
  have hr := run_append_roomE (P := Γ.P) w T ty e e2 i' het hi' g n c cs.toArray hh ⟨g, o, none⟩ m c2 ((cs.drop o).take (m * i'.size)) hl
    (fun j u hu => by rw [addr_add]; exact cells_at hh o (m * i'.size) j u hu) hone hroom (by rw [hl]; simpa using h2)
  rw [hl] at hr
  exact ⟨_, by simp [execOp, resolve, invoke, builtin, ha.eval hs, ha.eval hx, hr], setRow_blk hw1⟩
theorem flatten_rep (z : List Value) (n : Nat) : ((Array.range (n * z.length)).map (fun i => (z.toArray)[i % z.length]!)).toList = (List.replicate n z).flatten := by
  refine List.ext_getElem? fun i => ?_
  by_cases hz : z.length = 0
  · have : z = [] := List.eq_nil_of_length_eq_zero hz
    subst this; simp
  · have hpos : 0 < z.length := by omega
    by_cases hi : i < n * z.length
    · have h1 : i / z.length < n := Nat.div_lt_of_lt_mul (by rw [Nat.mul_comm]; exact hi)
      have h2 : i % z.length < z.length := Nat.mod_lt _ hpos
      simp only [Array.toList_map, Array.toList_range, List.getElem?_map, List.getElem?_range hi, Option.map_some]
      have key : ∀ (n i : Nat), i < n * z.length → ((List.replicate n z).flatten)[i]? = z[i % z.length]? := by
        intro n
        induction n with
        | zero => intro i h; simp at h
        | succ n ih =>
          intro i h
          rw [List.replicate_succ, List.flatten_cons]
          by_cases hlt : i < z.length
          · rw [List.getElem?_append_left hlt, Nat.mod_eq_of_lt hlt]
          · rw [List.getElem?_append_right (by omega), ih (i - z.length) (by rw [Nat.add_mul] at h; omega)]
            rw [← Nat.mod_eq_sub_mod (by omega)]
      rw [key n i hi, getElem!_pos z.toArray (i % z.length) (by simpa using h2)]
      simp [h2]
    · rw [List.getElem?_eq_none (by simpa using hi), List.getElem?_eq_none (by simp; omega)]
/-- An operation whose value is not kept. -/
theorem L_val0 {o : Oper} {v : Value} (hg : o.guard = none) (hd : o.dst = none)
    (he : ∀ a w, Env a Γ.n l → Holds Γ.w0 Γ.S0 M w → ∃ w', (execOp a.eval o).run Γ.P w = .ok (.value v) w' ∧ Holds Γ.w0 Γ.S0 M' w')
    (hk : L Γ rest l M' K) : L Γ (o :: rest) l M K := fun ops a w Q ha hw hq =>
  wpList_plain hg fun K' hK' => by
    obtain ⟨w', h1, h2⟩ := he a w ha hw
    unfold Oper.wp
    rw [h1, Oper.upon_value, hd]
    exact hK' _ _ (hk ops _ w' Q (by simpa [Act.put] using ha) h2 hq)
theorem run_clr {T e sz by_ g o n c : Nat} {z cs : List Value} {e2 : TypeId} (ht : elOf P T = some (e, sz, by_, z)) (hz : z.length = sz) (hone : ∀ u, u ∈ z → u.oneCell' = true)
    (hh : w.heap[g]? = some (.cells cs.toArray e2 (0, 0))) (h1 : o + n * sz ≤ cs.length) (hn : n ≠ 0) (ty : TypeId) :
    (Builtin.clear_ #[T] ty #[.slice (some ⟨g, o, none⟩) n c]).run P w = .ok (.tuple #[]) (w.setRow g (cs.take o ++ (List.replicate n z).flatten ++ cs.drop (o + n * sz)).toArray) := by
  unfold elOf at ht
  split at ht <;> (try cases ht)
  rename_i e' het
  split at ht <;> (try cases ht)
  rename_i i' hi'
  split at ht <;> cases ht
  rename_i z' hz'
  have hfl : ((List.replicate n z'.cells.toList).flatten).length = n * i'.size := by simp [hz]
  have hs := run_store_blk (P := P) (fo := o) (vs := (List.replicate n z'.cells.toList).flatten) (ty := 0) hh (by rw [hfl]; exact h1) (fun u hu => by
    obtain ⟨q, hq, hu⟩ := List.mem_flatten.1 hu
    rw [List.eq_of_mem_replicate hq] at hu
    exact hone u hu)
  rw [hfl] at hs
  have hzc : (Builtin.zeroCells z'.cells n).toList = (List.replicate n z'.cells.toList).flatten := flatten_rep z'.cells.toList n
  obtain ⟨k, rfl⟩ := Nat.exists_eq_succ_of_ne_zero hn
  simp only [Builtin.clear_]
  simp [underlying, het, zeroValue, typeInfo, hi', hz', hzc, hs]
/-- clear. -/
theorem L_clrRaw {x : Operand} {T e sz by_ g o n c : Nat} {z cs : List Value} {e2 : TypeId} (hx : ev l x = some (.slice (some ⟨g, o, none⟩) n c)) (ht : elOf Γ.P T = some (e, sz, by_, z)) (hz : z.length = sz) (hone : ∀ u, u ∈ z → u.oneCell' = true)
    (hp : Pick (blk g cs e2) M M1) (h1 : o + n * sz ≤ cs.length) (hn : n ≠ 0)
    (hk : L Γ rest l (blk g (cs.take o ++ (List.replicate n z).flatten ++ cs.drop (o + n * sz)) e2 :: M1) K) :
    L Γ ({ dst := none, op := .call { callee := .builtin .clear, args := #[x], argTypes := #[T] }, type := ty, pos, after := af, guard := none } :: rest) l M K :=
  L_val0 (v := .tuple #[]) rfl rfl (fun a w ha hw => by
    have hw1 := hw.perm hp.perm
    have hh : w.heap[g]? = some (.cells cs.toArray e2 (0, 0)) := hw1.prs (blk g cs e2) (List.mem_cons_self ..)
    have hr := run_clr (P := Γ.P) (c := c) ht hz hone hh h1 hn ty
    exact ⟨_, by simp [execOp, resolve, invoke, builtin, ha.eval hx, hr], setRow_blk hw1⟩) hk
/-! slices.Delete -/
def delP {δ : Type} (xs : List δ) (i j : Int) : Option (List δ) := if 0 ≤ i ∧ i < j ∧ j ≤ xs.length then some (xs.take i.toNat ++ xs.drop j.toNat) else none
section
variable {τ δ : Type} [GT τ δ]
theorem perm_del (xs : List τ) (i j : Nat) (h : i ≤ j) : List.Perm xs ((xs.take i ++ xs.drop j) ++ (xs.drop i).take (j - i)) := by
  have h1 : xs = xs.take i ++ ((xs.drop i).take (j - i) ++ xs.drop j) := by
    have h2 : (xs.drop i).drop (j - i) = xs.drop j := by rw [List.drop_drop]; congr 1; omega
    rw [← h2, List.take_append_drop, List.take_append_drop]
  conv => lhs; rw [h1]
  rw [List.append_assoc]
  exact (List.perm_append_comm).append_left _
theorem sl0 (c sz : Nat) : slA 0 c 0 sz = 0 := by unfold slA; split <;> simp
theorem slLt {c lo sz : Nat} (h : lo < c) : slA 0 c lo sz = lo * sz := by unfold slA; rw [if_neg (by omega)]; simp
theorem seg_drop {X : TL τ} {j sz : Nat} (hsz : GT.sz τ = sz) (hj : j ≤ X.els.length) (hc : X.els.length ≤ X.cap) : ((rowCells X.els ++ X.tail).drop (slA 0 X.cap j sz)).take ((X.els.length - j) * sz) = rowCells (X.els.drop j) := by
  subst hsz
  rcases Nat.lt_or_ge j X.cap with h | h
  · rw [slLt h]
    have h1 : rowCells X.els = rowCells (X.els.take j) ++ rowCells (X.els.drop j) := by rw [← rowCells_append, List.take_append_drop]
    have h2 : (rowCells (X.els.take j)).length = j * GT.sz τ := by rw [length_rowCells, List.length_take, Nat.min_eq_left hj]
    have h3 : (rowCells (X.els.drop j)).length = (X.els.length - j) * GT.sz τ := by rw [length_rowCells, List.length_drop]
    rw [h1, List.append_assoc, ← h2, List.drop_left, ← h3, List.take_left]
  · have : X.els.length - j = 0 := by omega
    rw [this, Nat.zero_mul, List.take_zero, List.drop_of_length_le (by omega)]; rfl
theorem del_cells {xs : List τ} {t : List Value} {i j n sz : Nat} (z : List Value) (hsz : GT.sz τ = sz) (hn : n = xs.length) (hij : i < j) (hj : j ≤ n) (cs : List Value) (hcs : cs = (rowCells xs ++ t).take (i * sz) ++ rowCells (xs.drop j) ++ (rowCells xs ++ t).drop (i * sz + (n - j) * sz)) :
    cs.take ((i + (n - j)) * sz) ++ z ++ cs.drop ((i + (n - j)) * sz + (n - (i + (n - j))) * sz) = rowCells (xs.take i ++ xs.drop j) ++ (z ++ t) := by
  subst hsz; subst hn; subst hcs
  have h1 : (rowCells xs ++ t).take (i * GT.sz τ) = rowCells (xs.take i) := by
    have h1 : rowCells xs = rowCells (xs.take i) ++ rowCells (xs.drop i) := by rw [← rowCells_append, List.take_append_drop]
    have h2 : (rowCells (xs.take i)).length = i * GT.sz τ := by rw [length_rowCells, List.length_take, Nat.min_eq_left (by omega)]
    rw [h1, List.append_assoc, ← h2, List.take_left]
  have h2 : (rowCells (xs.take i) ++ rowCells (xs.drop j)).length = (i + (xs.length - j)) * GT.sz τ := by
    rw [← rowCells_append, length_rowCells, List.length_append, List.length_take, List.length_drop, Nat.min_eq_left (by omega)]
  rw [h1, ← h2, List.take_left, rowCells_append]
  have h3 : (xs.length - (i + (xs.length - j))) * GT.sz τ + (i * GT.sz τ + (xs.length - j) * GT.sz τ) = xs.length * GT.sz τ := by
    rw [← Nat.add_mul, ← Nat.add_mul]; congr 1; omega
  rw [List.drop_append, List.drop_of_length_le (Nat.le_add_right _ _), List.nil_append, Nat.add_sub_cancel_left, List.drop_drop]
  rw [show i * GT.sz τ + (xs.length - j) * GT.sz τ + (xs.length - (i + (xs.length - j))) * GT.sz τ = xs.length * GT.sz τ by omega]
  have h4 : (rowCells xs).length = xs.length * GT.sz τ := length_rowCells _
  rw [← h4, List.drop_left]
  simp only [List.append_assoc]
theorem row_drop (xs : List τ) (i : Nat) (t : List Value) (hi : i ≤ xs.length) : (rowCells xs ++ t).drop (i * GT.sz τ) = rowCells (xs.drop i) ++ t := by
  have h1 : rowCells xs = rowCells (xs.take i) ++ rowCells (xs.drop i) := by rw [← rowCells_append, List.take_append_drop]
  have h2 : (rowCells (xs.take i)).length = i * GT.sz τ := by rw [length_rowCells, List.length_take, Nat.min_eq_left hi]
  rw [h1, List.append_assoc, ← h2, List.drop_left]
end
end Go.Proofs.SL
namespace Go.Proofs.SL
open Go
theorem RdT.w0 {Γ : Cx} {τ δ : Type} [GT τ δ] {t : τ} (h : RdT Γ [] t) : GT.rd Γ.w0 [] t := h Γ.w0 ⟨fun _ _ _ => rfl, fun _ h => by cases h⟩
end Go.Proofs.SL
namespace Go.Proofs.SL
open Go
variable {Γ : Cx} {l : Envl} {M M' M1 M2 F : List HP} {Q : Post} {K : Kont} {w0 w : World} {S0 : List Nat} {P : Program}
variable {rest : List Oper} {d : Nat} {ty : TypeId} {pos : String} {af : Array Edge}
/-- What can be read by a callee that is given M1, while M2 stays behind. -/
def RdX {τ δ : Type} [GT τ δ] (Γ : Cx) (M1 M2 : List HP) (t : τ) : Prop := ∀ w, Holds Γ.w0 Γ.S0 (M1 ++ M2) w → GT.rd w (fps M1) t
section
variable {τ δ : Type} [GT τ δ] {t : τ}
theorem RdX.old (h : GT.rd Γ.w0 Γ.S0 t) : RdX Γ M1 M2 t := fun _ hw => GT.rd_mono h fun _ _ ho => ho.carry hw
theorem RdX.tree (h : treeH t ∈ M2) : RdX Γ M1 M2 t := fun w hw => by
  have ho : GT.ow w t := hw.prs (treeH t) (List.mem_append_right _ h)
  refine GT.ow_rd ho fun k hk hk1 => ?_
  have hnd := hw.nodup
  rw [fps_append] at hnd
  exact (List.nodup_append.1 hnd).2.2 k hk1 k (List.mem_flatMap.2 ⟨_, h, hk⟩) rfl
theorem RdX.snd {α β δ ε : Type} [GT α δ] [GT β ε] {t : α × β} (h : RdX Γ M1 M2 t) : RdX Γ M1 M2 t.2 := fun w hw => (h w hw).2
theorem RdX.of {X : TL τ} {j : Nat} {x : τ} (h : RdX Γ M1 M2 X) (hi : X.els[j]? = some x) : RdX Γ M1 M2 x := fun w hw => (h w hw).2.2.1 x (List.mem_of_getElem? hi)
theorem RdX.pair {α β δ ε : Type} [GT α δ] [GT β ε] {a : α} {b : β} (h1 : RdX Γ M1 M2 a) (h2 : RdX Γ M1 M2 b) : RdX Γ M1 M2 (a, b) := fun w hw => ⟨h1 w hw, h2 w hw⟩
theorem RdX.int {n : Int} : RdX Γ M1 M2 n := fun _ _ => trivial
theorem RdX.bool {n : Bool} : RdX Γ M1 M2 n := fun _ _ => trivial
theorem RdX.u8 {n : UInt8} : RdX Γ M1 M2 n := fun _ _ => trivial
theorem nil_rd {w : World} {S : List Nat} (e : TypeId) : GT.rd w S (TL.nil τ e) := ⟨Nat.le_refl _, by simp [TL.nil, maxLen], fun x hx => by simp [TL.nil] at hx, fun _ => rfl, fun a ha => by simp [TL.nil] at ha⟩
theorem RdX.nil (e : TypeId) : RdX Γ M1 M2 (TL.nil τ e) := fun _ _ => nil_rd e
theorem RdX.map {α δ' : Type} [GT α δ'] {a : α} (f : ∀ w S, GT.rd w S a → GT.rd w S t) (h : RdX Γ M1 M2 a) : RdX Γ M1 M2 t := fun w hw => f w _ (h w hw)
theorem RdT.map {α δ' : Type} [GT α δ'] {a : α} (f : ∀ w S, GT.rd w S a → GT.rd w S t) (h : RdT Γ M a) : RdT Γ M t := fun w hw => f w _ (h w hw)
end
/-- The same, of one world. -/
def RdO {τ δ : Type} [GT τ δ] (w : World) (S : List Nat) (t : τ) : Prop := GT.rd w S t
section
variable {τ δ : Type} [GT τ δ] {t : τ} {S : List Nat}
theorem RdO.old (h : GT.rd w S t) : RdO w S t := h
theorem RdO.snd {α β δ ε : Type} [GT α δ] [GT β ε] {t : α × β} (h : RdO w S t) : RdO w S t.2 := h.2
theorem RdO.of {X : TL τ} {j : Nat} {x : τ} (h : RdO w S X) (hi : X.els[j]? = some x) : RdO w S x := h.2.2.1 x (List.mem_of_getElem? hi)
theorem RdO.pair {α β δ ε : Type} [GT α δ] [GT β ε] {a : α} {b : β} (h1 : RdO w S a) (h2 : RdO w S b) : RdO w S (a, b) := ⟨h1, h2⟩
theorem RdO.int {n : Int} : RdO w S n := trivial
theorem RdO.bool {n : Bool} : RdO w S n := trivial
theorem RdO.u8 {n : UInt8} : RdO w S n := trivial
theorem RdO.nil (e : TypeId) : RdO w S (TL.nil τ e) := nil_rd e
theorem RdO.map {α δ' : Type} [GT α δ'] {a : α} (f : ∀ w S, GT.rd w S a → GT.rd w S t) (h : RdO w S a) : RdO w S t := f w _ h
end
/-- A call that is given some parts. -/
theorem L_callM {f : Nat} {xs : List Operand} {ats : Array TypeId} {vs : List Value} {R : Value → List HP → Prop} (M1 M2 : List HP)
    (hn : Nat.blt d Γ.n = true) (hf : IsFn Γ.P f) (hx : evs l xs = some vs) (hp : List.Perm M (M1 ++ M2)) (hc : ∀ w, Holds Γ.w0 Γ.S0 (M1 ++ M2) w → Spec Γ.P f vs.toArray w M1 R)
    (hk : ∀ v M', R v M' → L Γ rest ((d, v) :: l) (M' ++ M2) K) : L Γ ({ dst := some d, op := .call { callee := .value (.func f), args := xs.toArray, argTypes := ats }, type := ty, pos := pos, after := af, guard := none } :: rest) l M K :=
  L_call (M1 := M1) (M2 := M2) (R := R) rfl rfl rfl (Nat.le_of_ble_eq_true hn) hf hx hp hc hk
end Go.Proofs.SL
namespace Go.Proofs.SL
open Go
variable {Γ : Cx} {l : Envl} {M M' M1 M2 F : List HP} {Q : Post} {K : Kont} {w0 w : World} {S0 : List Nat} {P : Program}
variable {rest : List Oper} {d : Nat} {ty : TypeId} {pos : String} {af : Array Edge}
section
variable {τ δ : Type} [GT τ δ]
theorem L_slM {x : Operand} {lo hi : Option Operand} {T e sz by_ : Nat} {z : List Value} {X : TL τ} {a b : Int} {r : List δ} (hn : Nat.blt d Γ.n = true) (hx : ev l x = some X.hdr) (hlo : optI l lo 0 = some a) (hhi : optI l hi ((GT.dat X).length : Int) = some b)
    (ht : elOf Γ.P T = some (e, sz, by_, z)) (hsz : GT.sz τ = sz) (hm : rowH X ∈ M) (hr : slcP (GT.dat X) a b = some r)
    (hk : ∀ X' : TL τ, GT.dat X' = r → X' = slc X a.toNat b.toNat → L Γ rest ((d, X'.hdr) :: l) M K) :
    L Γ ({ dst := some d, op := .slice T x lo hi none, type := ty, pos := pos, after := af, guard := none } :: rest) l M K := by
  unfold slcP at hr
  split at hr
  · rename_i hb
    cases hr
    rw [dat_els, List.length_map] at hb hhi
    obtain ⟨h0, h1, h2⟩ := hb
    have h1' : a.toNat ≤ b.toNat := by omega
    have h2' : b.toNat ≤ X.els.length := by omega
    refine L_pure hn (v := (slc X a.toNat b.toNat).hdr) (fun a' w ha hw => ?_) (hk (slc X a.toNat b.toNat) (by rw [dat_els, dat_els]; simp [slc, List.map_take, List.map_drop]) rfl)
    have hcap : X.els.length ≤ X.cap := (hw.prs _ hm).1
    unfold elOf at ht
    split at ht <;> (try cases ht)
    rename_i e' het
    split at ht <;> (try cases ht)
    rename_i i' hi'
    split at ht <;> cases ht
    have hlen : ((X.els.drop a.toNat).take (b.toNat - a.toNat)).length = b.toNat - a.toNat := by simp; omega
    have hv : (slc X a.toNat b.toNat).hdr = .slice (if X.cap = a.toNat then X.a else X.a.map (·.add (a.toNat * i'.size))) (b.toNat - a.toNat) (X.cap - a.toNat) := by
      show Value.slice _ ((X.els.drop a.toNat).take (b.toNat - a.toNat)).length _ = _
      rw [hlen]; simp only [slc, hsz]
    rw [hv]
    have e1 : a'.eval x = .slice X.a X.els.length X.cap := ha.eval hx
    cases lo with
    | none =>
      cases hlo
      cases hi with
      | none =>
        cases hhi
        simp only [execOp, Option.map_none, e1, Instr.sliceAt, Instr.slice, underlying, Sem.run_bind, run_program, Result.andThen_ok, het, Instr.sliceBounds, Sem.run_pure, sizeOf, typeInfo, hi']
        simp
      | some o =>
        obtain ⟨k, h5⟩ := optI_some hhi
        have e2 := ha.eval h5
        have e4 := fun w => run_sliceBound (P := Γ.P) (k := k) (code := .sliceAcap) (show 0 ≤ b by omega) (show b ≤ ((X.cap : Nat) : Int) by omega) w
        simp [execOp, e1, e2, Instr.sliceAt, Instr.slice, underlying, het, Instr.sliceBounds, sizeOf, typeInfo, hi', e4]
    | some o1 =>
      obtain ⟨k1, h6⟩ := optI_some hlo
      have e3 := ha.eval h6
      cases hi with
      | none =>
        cases hhi
        have e4 := fun w => run_sliceBound (P := Γ.P) (k := k1) (code := .sliceB) h0 (show a ≤ ((X.els.length : Nat) : Int) by omega) w
        simp [execOp, e1, e3, Instr.sliceAt, Instr.slice, underlying, het, Instr.sliceBounds, sizeOf, typeInfo, hi', e4]
      | some o =>
        obtain ⟨k, h5⟩ := optI_some hhi
        have e2 := ha.eval h5
        have e4 := fun w => run_sliceBound (P := Γ.P) (k := k) (code := .sliceAcap) (show 0 ≤ b by omega) (show b ≤ ((X.cap : Nat) : Int) by omega) w
        have e5 := fun w => run_sliceBound (P := Γ.P) (k := k1) (code := .sliceB) h0 (show a ≤ ((b.toNat : Nat) : Int) by omega) w
        simp [execOp, e1, e2, e3, Instr.sliceAt, Instr.slice, underlying, het, Instr.sliceBounds, sizeOf, typeInfo, hi', e4, e5]
  · cases hr
def chkP (b : Bool) : Option Unit := if b then some () else none
theorem chkP_some {b : Bool} {u : Unit} (h : chkP b = some u) : b = true := by
  unfold chkP at h; split at h
  · assumption
  · cases h
theorem slcP_some {α : Type} {l r : List α} {a b : Int} (h : slcP l a b = some r) : 0 ≤ a ∧ a ≤ b ∧ b ≤ l.length ∧ r = (l.drop a.toNat).take (b.toNat - a.toNat) := by
  unfold slcP at h; split at h
  · rename_i hb; cases h; exact ⟨hb.1, hb.2.1, hb.2.2, rfl⟩
  · cases h
theorem els_split2 {xs ys zs us : List τ} (hp : List.Perm xs (us ++ (ys ++ zs))) (h : Holds w0 S0 (elsT xs :: M) w) : Holds w0 S0 (elsT ys :: elsT zs :: M) w := by
  have h2 : Holds w0 S0 (elsT ys :: elsT zs :: elsT us :: M) w := by
    refine h.reFp ?_ fun x hx => ?_
    · simp only [fps_cons]
      show List.Perm (xs.flatMap GT.fp ++ fps M) (ys.flatMap GT.fp ++ (zs.flatMap GT.fp ++ (us.flatMap GT.fp ++ fps M)))
      rw [← List.append_assoc, ← List.append_assoc, ← List.flatMap_append, ← List.flatMap_append]
      exact ((hp.trans List.perm_append_comm).flatMap_right _).append_right _
    · have h3 := h.prs (elsT xs) (List.mem_cons_self ..)
      rcases List.mem_cons.1 hx with rfl | hx
      · exact fun y hy => h3 y (hp.mem_iff.2 (List.mem_append_right _ (List.mem_append_left _ hy)))
      rcases List.mem_cons.1 hx with rfl | hx
      · exact fun y hy => h3 y (hp.mem_iff.2 (List.mem_append_right _ (List.mem_append_right _ hy)))
      rcases List.mem_cons.1 hx with rfl | hx
      · exact fun y hy => h3 y (hp.mem_iff.2 (List.mem_append_left _ hy))
      · exact h.prs _ (List.mem_cons_of_mem _ hx)
  exact h2.sub ⟨[elsT us], by
    refine ((List.perm_append_comm (l₁ := [elsT us]) (l₂ := M)).cons _).cons _⟩
theorem drop_cut (xs : List τ) {k a b : Nat} (h1 : k ≤ a) (h2 : a ≤ b) : xs.drop k = (xs.drop k).take (a - k) ++ ((xs.drop a).take (b - a) ++ xs.drop b) := by
  have e1 : xs.drop a = (xs.drop k).drop (a - k) := by rw [List.drop_drop]; congr 1; omega
  have e2 : xs.drop b = (xs.drop a).drop (b - a) := by rw [List.drop_drop]; congr 1; omega
  rw [e2, List.take_append_drop, e1, List.take_append_drop]
theorem L_appM {s x : Operand} {T e sz by_ k : Nat} {z : List Value} {X V Y : TL τ} {a b : Int} {r r' : List δ} {u : Unit} (hn : Nat.blt d Γ.n = true)
    (hs : ev l s = some X.hdr) (hx : ev l x = some Y.hdr) (ht : elOf Γ.P T = some (e, sz, by_, z)) (hsz : GT.sz τ = sz) (hz : z.length = sz)
    (hp : Pick (treeH X) M M1) (he : Y = slc V a.toNat b.toNat) (hsl : slcP (GT.dat V) a b = some r') (hm : rowH V ∈ M1) (hq : Pick (elsT (V.els.drop k)) M1 M2)
    (hka : chkP (decide (k ≤ a.toNat)) = some u) (hr : appP (GT.dat X) (GT.dat Y) = some r) (hb : by_ ≤ 32768)
    (hk : ∀ X' : TL τ, GT.dat X' = r → L Γ rest ((d, X'.hdr) :: l) (treeH X' :: elsT (V.els.drop b.toNat) :: M2) K) :
    L Γ ({ dst := some d, op := .call { callee := .builtin .append, args := #[s, x], argTypes := #[T, T] }, type := ty, pos, after := af, guard := none } :: rest) l M K := by
  have hka := of_decide_eq_true (chkP_some hka)
  obtain ⟨h1, rfl⟩ := appP_some hr
  obtain ⟨s0, s1, s2, -⟩ := slcP_some hsl
  rw [dat_els, List.length_map] at s2
  have hab : a.toNat ≤ b.toNat := by omega
  have hbl : b.toNat ≤ V.els.length := by omega
  have hye : Y.els = (V.els.drop a.toNat).take (b.toNat - a.toNat) := by rw [he]; rfl
  have hcut := drop_cut V.els hka hab
  rw [← hye] at hcut
  simp only [dat_els, List.length_map] at h1
  cases hya : Y.a with
  | some ad =>
    refine L_appA (ys := Y.els) (M2 := elsT (V.els.drop b.toNat) :: M2) hn hs (by rw [hx]; show some (Value.slice Y.a _ _) = _; rw [hya]) ht hsz hz hp rfl (fun w hw j v hv => ?_) (fun w R h => ?_) h1 hb
      (fun X' h => hk X' (by rw [dat_els, h, List.map_append]; rfl))
    · have hmm : rowH V ∈ M := by
        have := hp.perm.mem_iff (a := rowH V)
        exact this.2 (List.mem_cons_of_mem _ hm)
      obtain ⟨r1, r2, r3, r4⟩ := hw.prs _ hmm
      have hlt : a.toNat < V.els.length := by
        rcases Nat.lt_or_ge a.toNat V.els.length with h | h
        · exact h
        · rw [hye, List.drop_of_length_le h] at hv; simp [rowCells] at hv
      cases hva : V.a with
      | none => have := (r3 hva).1; rw [this] at hlt; simp at hlt
      | some va =>
        obtain ⟨g1, g2, g3, g4⟩ := r4 va hva
        have had : ad = va.add (a.toNat * GT.sz τ) := by
          have : Y.a = some (va.add (a.toNat * GT.sz τ)) := by
            rw [he]; unfold slc
            have hne : ¬ V.cap = a.toNat := by omega
            simp only [if_neg hne, hva]; rfl
          rw [hya] at this; exact Option.some.inj this
        obtain ⟨vb, vo, vs⟩ := va
        have g1 : vs = none := g1
        have g2 : vo = 0 := g2
        subst g1; subst g2
        rw [had]
        have e3 : (Addr.add (Addr.add ⟨vb, 0, none⟩ (a.toNat * GT.sz τ)) j) = ⟨vb, a.toNat * GT.sz τ + j, none⟩ := by rw [addr_add, addr_add, Nat.zero_add]
        rw [e3, cell_of_row _ _ _ _ _ _ g3]
        simp only [List.getElem?_toArray]
        have e4 : (rowCells V.els ++ V.tail)[a.toNat * GT.sz τ + j]? = ((rowCells V.els ++ V.tail).drop (a.toNat * GT.sz τ))[j]? := by rw [List.getElem?_drop]
        rw [e4, row_drop _ _ _ (by omega)]
        have e5 : V.els.drop a.toNat = Y.els ++ V.els.drop b.toNat := by
          have := drop_cut V.els (Nat.le_refl a.toNat) hab
          rw [← hye] at this; simpa using this
        rw [e5, rowCells_append, List.append_assoc, List.getElem?_append_left (List.getElem?_eq_some_iff.1 hv).1]
        exact hv
    · have h2 := h.perm (List.Perm.append_right R hq.perm)
      exact els_split2 (List.Perm.of_eq hcut) h2
  | none =>
    intro ops a' w Q ha hw
    have hm' : rowH V ∈ treeH X :: M1 := List.mem_cons_of_mem _ hm
    have hw1 := hw.perm hp.perm
    obtain ⟨r1, r2, r3, r4⟩ := hw1.prs _ hm'
    have hye0 : Y.els = [] := by
      rcases Nat.lt_or_ge a.toNat V.cap with h | h
      · have hne : ¬ V.cap = a.toNat := by omega
        have : Y.a = V.a.map (·.add (a.toNat * GT.sz τ)) := by rw [he]; unfold slc; simp only [if_neg hne]
        rw [hya] at this
        cases hva : V.a with
        | none => rw [hye, (r3 hva).1]; simp
        | some va => rw [hva] at this; cases this
      · rw [hye, List.drop_of_length_le (by omega)]; simp
    have hk' := hk X (by rw [dat_els Y, hye0]; simp)
    have hr : GT.ow w X := hw1.prs _ (List.mem_cons_self ..)
    refine L_step rfl rfl (Nat.le_of_ble_eq_true hn) (fun a' w ha hw => ⟨w, ?_, ?_⟩) hk' ops a' w Q ha hw
    · have hr : GT.ow w X := (hw.perm hp.perm).prs _ (List.mem_cons_self ..)
      have h3 := append_none (P := Γ.P) (w := w) (a := X.a) (n := X.els.length) (c := X.cap) (c2 := Y.cap) ht hr.1 ty
      have h5 : (Builtin.append_ #[T, T] ty #[X.hdr, .slice none 0 Y.cap]).run Γ.P w = .ok X.hdr w := h3
      have h6 := ha.eval hx
      have h7 : Y.hdr = .slice none 0 Y.cap := by show Value.slice Y.a _ _ = _; rw [hya, hye0]; rfl
      rw [h7] at h6
      generalize X.hdr = uu at *
      simp [execOp, resolve, invoke, builtin, ha.eval hs, h6, h5]
    · have h2 := (hw.perm hp.perm).perm (hq.perm.cons _)
      have h4 := h2.perm (List.Perm.swap _ _ _)
      have h5 := els_split2 (List.Perm.of_eq hcut) h4
      have h6 : Holds Γ.w0 Γ.S0 (elsT Y.els :: treeH X :: elsT (V.els.drop b.toNat) :: M2) w := h5.perm (((List.Perm.swap _ _ _)).cons _)
      exact h6.sub ⟨[elsT Y.els], (List.perm_append_comm (l₁ := [elsT Y.els]) (l₂ := treeH X :: elsT (V.els.drop b.toNat) :: M2))⟩
end
end Go.Proofs.SL
namespace Go.Proofs.SL
open Go
variable {Γ : Cx} {l : Envl} {M M' M1 M2 F : List HP} {Q : Post} {K : Kont} {w0 w : World} {S0 : List Nat}
variable {rest : List Oper} {d : Nat} {ty : TypeId} {pos : String} {af : Array Edge}
variable {ops : Array Oper} {Msh pool pool' : List HP} {E : Fl} {rs : List (Option Nat × Rel)} {cs0 : List Nat} {KD : List (Option Nat × Rel) → List Nat → List HP → Prop}
section
variable {τ δ : Type} [GT τ δ]
def OpVp (E : Fl) : List (Nat × Operand) → List (Nat × Value) → Prop
  | [], [] => True
  | x :: xs, v :: vs => (x.1 = v.1 ∧ OpV E x.2 True v.2) ∧ OpVp E xs vs
  | _, _ => False
theorem OpVp.nil : OpVp E [] [] := trivial
theorem OpVp.cons {i : Nat} {x : Operand} {v : Value} {xs : List (Nat × Operand)} {vs : List (Nat × Value)} (h : OpV E x True v) (hs : OpVp E xs vs) : OpVp E ((i, x) :: xs) ((i, v) :: vs) := ⟨⟨rfl, h⟩, hs⟩
theorem OpVp.evals {a : Act} {F : List HP} {o : Oper} (hf : Facts E (o.looksAt ops) F a) : ∀ (xs : List (Nat × Operand)) (vs : List (Nat × Value)), OpVp E xs vs → (∀ x, x ∈ xs → x.2 ∈ o.op.operands.toList) → xs.map (fun p => (p.1, a.eval p.2)) = vs
  | [], [], _, _ => rfl
  | x :: xs, v :: vs, h, hm => by
    rw [List.map_cons, h.1.2.eval hf (hm x (by simp)) trivial, OpVp.evals hf xs vs h.2 (fun y hy => hm y (List.mem_cons_of_mem _ hy)), h.1.1]
  | [], _ :: _, h, _ => h.elim
  | _ :: _, [], h, _ => h.elim
end
end Go.Proofs.SL
namespace Go.Proofs.SL
open Go
variable {M M1 : List HP} {w0 w : World} {S0 : List Nat}
end Go.Proofs.SL
namespace Go.Proofs.SL
open Go
theorem els_skip {M M1 : List HP} {w0 w : World} {S0 : List Nat} {τ δ : Type} [GT τ δ] {X : TL τ} {i : Int} {u : τ} (hi : 0 ≤ i ∧ X.els[i.toNat]? = some u) (hm : rowH X ∈ M) (p : Pick (elsT (X.els.drop i.toNat)) M M1) (h : Holds w0 S0 M w) :
    Holds w0 S0 (elsT (X.els.drop (IntKind.wrap .i64 (i + 1)).toNat) :: M1) w := by
  have h1 := els_next hi.2 p h
  have h2 : Holds w0 S0 (elsT (X.els.drop (i.toNat + 1)) :: M1) w := h1.sub ⟨[treeH u], List.perm_append_comm (l₁ := [treeH u])⟩
  have hlt := (List.getElem?_eq_some_iff.1 hi.2).1
  obtain ⟨r1, r2, _⟩ := h.prs _ hm
  simp only [maxLen] at r2
  rw [wrap64_in (by unfold inR; omega), show (i + 1).toNat = i.toNat + 1 by omega]
  exact h2
end Go.Proofs.SL
namespace Go.Proofs.SL
open Go
variable {Γ : Cx} {l : Envl} {M M' M1 M2 F : List HP} {Q : Post} {K : Kont} {w0 w : World} {S0 : List Nat} {P : Program}
variable {rest : List Oper} {d : Nat} {ty : TypeId} {pos : String} {af : Array Edge}
section
variable {τ δ : Type} [GT τ δ]
end
end Go.Proofs.SL
namespace Go.Proofs.SL
open Go
variable {Γ : Cx} {ops : Array Oper} {Msh pool pool' : List HP} {E : Fl} {rs : List (Option Nat × Rel)} {rest : List Oper} {KD : RKont} {cs0 : List Nat}
variable {d : Nat} {ty : TypeId} {pos : String} {af : Array Edge}
theorem D_callM {f : Nat} {xs : List Operand} {ats : Array TypeId} {vs : List Value} (R : Rel) (M1 : List HP) (hp : List.Perm pool (M1 ++ pool'))
    (hf : IsFn Γ.P f) (hx : OpVs E True xs vs) (hc : ∀ w F, Holds Γ.w0 Γ.S0 (M1 ++ F) w → (∀ h, h ∈ Msh → h ∈ F) → Spec Γ.P f vs.toArray w M1 R)
    (hk : DV Γ ops Msh pool' ((d, R) :: E) ((some d, R) :: rs) cs0 rest KD) :
    DV Γ ops Msh pool E rs cs0 ({ dst := some d, op := .call { callee := .value (.func f), args := xs.toArray, argTypes := ats }, type := ty, pos := pos, after := af, guard := none } :: rest) KD := by
  refine DV.mk R M1 pool' [] hp rfl ?_ (by rw [dropE_nil]; exact hk)
  intro a w F Mk _ _ hw hm hfa hcf
  have hMk : Mk = [] := hcf
  subst hMk
  rw [dropE_nil] at hfa
  simp only [List.nil_append] at hw ⊢
  rw [if_pos (by simp [Region.wanted])]
  have h2 : (#[] ++ xs.toArray.map a.eval ++ #[] : Array Value) = vs.toArray := by
    simp [OpVs.evals (o := { dst := some d, op := .call { callee := .value (.func f), args := xs.toArray, argTypes := ats }, type := ty, pos := pos, after := af, guard := none }) trivial hfa xs vs hx (fun x hx => by simp [Op.operands, Call.operands, hx])]
  rw [execOp_call_go, h2, hf.run]
  exact (hc w F hw hm (Holds.split hw)).mono fun e w'' ⟨v, M', h1, h3, h4⟩ => ⟨v, M', h1, h3, Holds.frame hw h4⟩
variable {gd : Option (Nat × Bool)}
end Go.Proofs.SL
namespace Go.Proofs.SL
open Go
section
variable {τ δ κ : Type} [GT τ δ]
variable [Inhabited κ]
end
theorem map_id' {α : Type} (l : List α) : l.map (fun x => x) = l := by simp
end Go.Proofs.SL
namespace Go.Proofs.SL
open Go
inductive EqS (P : Program) (d : Nat) (xs ys : Array Value) : List (TypeId × Nat) → Bool → Prop
  | nil : EqS P d xs ys [] true
  | cons {t : TypeId} {o : Nat} {a b : Value} {r r' : Bool} {fs : List (TypeId × Nat)} (ht : oneOf P t = true) (ha : xs[o]? = some a) (hb : ys[o]? = some b) (he : ∀ w, (Op.equalIn d t a b).run P w = .ok r w) (hs : EqS P d xs ys fs r') : EqS P d xs ys ((t, o) :: fs) (r && r')
end Go.Proofs.SL
namespace Go.Proofs.SL
open Go
section
variable {Γ : Cx} {l : Envl} {M : List HP} {K : Kont} {w0 w : World} {S0 : List Nat}
variable {rest : List Oper} {d : Nat} {ty : TypeId} {pos : String} {af : Array Edge}
end
section
variable {Γ : Cx} {rest : List Oper} {d : Nat} {ty : TypeId} {pos : String} {af : Array Edge}
variable {ops : Array Oper} {Msh pool : List HP} {E : Fl} {rs : List (Option Nat × Rel)} {cs0 : List Nat} {KD : List (Option Nat × Rel) → List Nat → List HP → Prop}
/-- A pointer to a new block. -/
def PtrNew (z : List Value) (T : TypeId) : Rel := fun v M => ∃ b, v = .pointer (some ⟨b, 0, none⟩) ∧ M = [blk b z T]
theorem D_alloc {T : TypeId} {z : List Value} (hz : zeroOf Γ.P T = some z)
    (hk : DV Γ ops Msh pool ((d, PtrNew z T) :: E) ((some d, PtrNew z T) :: rs) cs0 rest KD) :
    DV Γ ops Msh pool E rs cs0 ({ dst := some d, op := .alloc T, type := ty, pos := pos, after := af, guard := none } :: rest) KD := by
  refine DV.mk (PtrNew z T) [] pool [] (by simp) rfl ?_ (by rw [dropE_nil]; exact hk)
  intro a w F Mk _ _ hw hm hfa hcf
  have hMk : Mk = [] := hcf
  subst hMk
  rw [dropE_nil] at hfa
  simp only [List.nil_append] at hw ⊢
  rw [if_pos (by simp [Region.wanted])]
  have h1 : (execOp a.eval { dst := some d, op := .alloc T, type := ty, pos := pos, after := af, guard := none }).run Γ.P w = .ok (.value (.pointer (some ⟨w.heap.size, 0, none⟩))) (w.alloc (.cells z.toArray T (0, 0))) := by
    unfold zeroOf at hz
    split at hz <;> (try cases hz)
    rename_i i hi
    split at hz <;> cases hz
    rename_i z' hz'
    simp [execOp, Instr.alloc, zeroValue, typeInfo, hi, hz', newVar, newRow]
  rw [h1]
  exact ⟨[blk w.heap.size z T], ⟨_, rfl, rfl⟩, Holds.new (show Holds Γ.w0 Γ.S0 F w by simpa using hw) rfl⟩
end
end Go.Proofs.SL
namespace Go.Proofs.SL
open Go
instance : Mk Bool := ⟨fun _ => 1, fun k _ => decide (((k : Int)).tmod 3 = 0)⟩
instance : Bm Bool := ⟨1, fun x => by show 1 ≤ 1 * (1 + 0); omega⟩
end Go.Proofs.SL
namespace Go.Proofs.SL
open Go
variable {Γ : Cx} {l : Envl} {M M1 : List HP} {K : Kont} {w0 w : World} {S0 : List Nat}
variable {rest : List Oper} {d : Nat} {ty : TypeId} {pos : String} {af : Array Edge}
section
variable {τ δ : Type} [GT τ δ]
theorem blk_own [FlatT τ] {b cap : Nat} {e : TypeId} {ts : List τ} {tail : List Value} (h1 : ts.length ≤ cap) (h2 : cap ≤ maxLen) (h3 : ts.length * GT.sz τ + tail.length = cap * GT.sz τ)
    (h : Holds w0 S0 (blk b (rowCells ts ++ tail) e :: M) w) : Holds w0 S0 (treeH (⟨some ⟨b, 0, none⟩, cap, e, ts, tail⟩ : TL τ) :: M) w := by
  have hb : w.heap[b]? = some (.cells (rowCells ts ++ tail).toArray e (0, 0)) := h.prs _ (List.mem_cons_self ..)
  have ef : fps (treeH (⟨some ⟨b, 0, none⟩, cap, e, ts, tail⟩ : TL τ) :: M) = fps (blk b (rowCells ts ++ tail) e :: M) := by
    simp only [fps_cons]
    show ([b] ++ ts.flatMap GT.fp) ++ fps M = [b] ++ fps M
    rw [fps_flat ts fun x _ => FlatT.flat x, List.append_nil]
  refine ⟨h.os, h.tape, h.output, h.size, h.old, fun x hx => ?_, by rw [ef]; exact h.nodup, fun k hk => h.rng k (by rw [← ef]; exact hk)⟩
  rcases List.mem_cons.1 hx with rfl | hx
  · exact ⟨h1, h2, fun x _ => (FlatT.flat x).ow w, fun hn => (by cases hn), fun a ha => by cases ha; exact ⟨rfl, rfl, hb, h3⟩⟩
  · exact h.prs x (List.mem_cons_of_mem _ hx)
/-- A slice of several parts of one kind. -/
theorem L_bsN [FlatT τ] (ts : List τ) {T e sz by_ n : Nat} {z : List Value} {xs : List (Nat × Operand)} {ps : List (Nat × Value)} {r : List δ} (hn : Nat.blt d Γ.n = true) (hx : evp l xs = some ps) (ht : elOf Γ.P T = some (e, sz, by_, z)) (hz : z.length = sz)
    (hsz : GT.sz τ = sz) (h0 : Nat.blt 0 sz = true) (hns : Nat.ble (n * sz) 65536 = true) (hn0 : Nat.blt 0 n = true) (hlen : ts.length = n) (hf : fillL (fun i => some (i * sz, sz)) ((List.range (n * sz)).map fun i => z.getD (i % sz) undef) ps = some (rowCells ts))
    (hr : some (ts.map GT.dat) = some r) (hk : ∀ X : TL τ, GT.dat X = r → L Γ rest ((d, X.hdr) :: l) (treeH X :: M) K) :
    L Γ ({ dst := some d, op := .buildSlice T n xs.toArray, type := ty, pos, after := af, guard := none } :: rest) l M K := by
  have h0' : 0 < sz := Nat.le_of_ble_eq_true h0
  have hns' : n * sz ≤ 65536 := Nat.le_of_ble_eq_true hns
  refine L_buildSlice hn hx ht hz h0' hns' (Nat.le_of_ble_eq_true hn0) hf fun b => ?_
  have hnl : n ≤ 65536 := Nat.le_trans (Nat.le_mul_of_pos_right n h0') hns'
  refine L_conv (M' := treeH (⟨some ⟨b, 0, none⟩, n, e, ts, []⟩ : TL τ) :: M) (fun w h => blk_own (by omega) (by simp only [maxLen]; omega) (by rw [hlen]; simp) (by rw [List.append_nil]; exact h)) ?_
  have := hk ⟨some ⟨b, 0, none⟩, n, e, ts, []⟩ (Option.some.inj hr)
  have eh : (⟨some ⟨b, 0, none⟩, n, e, ts, []⟩ : TL τ).hdr = .slice (some ⟨b, 0, none⟩) n n := by show Value.slice _ ts.length _ = _; rw [hlen]
  rw [eh] at this
  exact this
/-- A made slice, on data. -/
def mkP {δ : Type} (by_ : Nat) (n : Int) (z : δ) : Option (List δ) := if 0 ≤ n ∧ n ≤ 1048576 ∧ n.toNat * by_ ≤ 281474976710656 then some (List.replicate n.toNat z) else none
theorem L_mkP (t0 : τ) {x y : Operand} {T e sz by_ : Nat} {z : List Value} {k k' : IntKind} {n : Int} {r : List δ} (hn : Nat.blt d Γ.n = true) (hx : ev l x = some (.int k n)) (hy : ev l y = some (.int k' n)) (ht : elOf Γ.P T = some (e, sz, by_, z))
    (hz : GT.cells t0 = z) (hsz : GT.sz τ = sz) (hf : Flat t0) (hr : mkP by_ n (GT.dat t0) = some r)
    (hk : ∀ X : TL τ, GT.dat X = r → L Γ rest ((d, X.hdr) :: l) (treeH X :: M) K) :
    L Γ ({ dst := some d, op := .makeSlice T x y, type := ty, pos, after := af, guard := none } :: rest) l M K := by
  unfold mkP at hr
  split at hr
  rotate_left
  · cases hr
  rename_i hb
  obtain ⟨h1, h2, h3⟩ := hb
  obtain ⟨m, rfl⟩ := Int.eq_ofNat_of_zero_le h1
  obtain rfl := Option.some.inj hr
  simp only [Int.toNat_natCast] at *
  refine L_make (n := m) t0 hn hx hy ht hz hsz hf h3 (by simp only [maxLen]; omega) fun g => ?_
  have := hk ⟨some ⟨g, 0, none⟩, m, e, List.replicate m t0, []⟩ (by rw [dat_els]; simp)
  have eh : (⟨some ⟨g, 0, none⟩, m, e, List.replicate m t0, []⟩ : TL τ).hdr = .slice (some ⟨g, 0, none⟩) m m := by show Value.slice _ (List.replicate m t0).length _ = _; rw [List.length_replicate]
  rw [eh] at this
  exact this
end
/-- A byte out of a number. -/
def u8P (n : Int) : Option UInt8 := if 0 ≤ n ∧ n < 256 then some (UInt8.ofNat n.toNat) else none
theorem u8P_some {n : Int} {b : UInt8} (h : u8P n = some b) : n = (b.toNat : Int) := by
  unfold u8P at h
  split at h
  · rename_i hb
    obtain rfl := Option.some.inj h
    rw [UInt8.toNat_ofNat']
    omega
  · cases h
theorem strOf_bytes (xs : List UInt8) : strOf (xs.map fun b => (b.toNat : Int)) = ⟨xs.toArray⟩ := by
  have h : ∀ (xs : List UInt8) (s : ByteArray), (xs.map fun b => (b.toNat : Int)).foldl (fun r n => r.push (UInt8.ofNat n.toNat)) s = ⟨s.data ++ xs.toArray⟩ := by
    intro xs
    induction xs with
    | nil => intro s; simp
    | cons x xs ih =>
      intro s
      rw [List.map_cons, List.foldl_cons, ih]
      congr 1
      show (s.push _).data ++ _ = _
      simp [ByteArray.push]
  unfold strOf
  rw [h]
  simp
/-- The string of some bytes. -/
def strP (xs : List UInt8) : ByteArray := ⟨xs.toArray⟩
theorem run_bytesNone {P : Program} (w : World) (len cap : Nat) : (Conv.bytesToString (.slice none len cap)).run P w = .ok (.string ByteArray.empty) w := by
  simp [Conv.bytesToString]
theorem L_toStr {x : Operand} {S T e : Nat} {X : TL UInt8} (hn : Nat.blt d Γ.n = true) (hx : ev l x = some X.hdr) (hS : Γ.P.underlying S = some (.slice e)) (he : Γ.P.underlying e = some (.int .u8)) (hT : Γ.P.underlying T = some .string)
    (hR : RdT Γ M X) (hk : L Γ rest ((d, .string (strP (GT.dat X))) :: l) M K) :
    L Γ ({ dst := some d, op := .convert S T x, type := ty, pos := pos, after := af, guard := none } :: rest) l M K := by
  obtain ⟨a, cap, e', els, tail⟩ := X
  have hd : GT.dat (⟨a, cap, e', els, tail⟩ : TL UInt8) = els := map_id' els
  rw [hd] at hk
  cases a with
  | none =>
    refine L_pure hn (fun a' w ha hw => ?_) hk
    have h1 := hR w hw.sees
    have he0 : els = [] := h1.2.2.2.1 rfl
    subst he0
    have h2 := ha.eval hx
    simp only [execOp, h2, Sem.run_bind]
    show ((convert S T (.slice none _ _)).run Γ.P w).andThen _ = _
    rw [run_convert_bytes_string w S T e _ _ _ hS he hT, run_bytesNone]
    rfl
  | some ad =>
    refine L_pure hn (fun a' w ha hw => ?_) hk
    have h1 := hR w hw.sees
    have h2 := ha.eval hx
    obtain ⟨h3, h4⟩ := h1.2.2.2.2 ad rfl
    simp only [execOp, h2, Sem.run_bind]
    show ((convert S T (.slice (some ad) els.length cap)).run Γ.P w).andThen _ = _
    rw [run_convert_bytes_string w S T e _ _ _ hS he hT]
    have hrow : ∀ xs : List UInt8, rowCells xs = xs.map fun b => Value.int .u8 (b.toNat : Int) := by
      intro xs
      induction xs with
      | nil => rfl
      | cons x xs ih => rw [rowCells_cons, ih]; rfl
    have hl : (loadCells ad els.length).run Γ.P w = .ok ((els.map fun b => (b.toNat : Int)).map (Value.int .u8)).toArray w := by
      by_cases hz : els = []
      · subst hz
        simp [loadCells, loadCellsFrom]
      · have hs := h3 hz
        obtain ⟨blk, off, sp⟩ := ad
        dsimp only at hs
        subst hs
        have := run_loadCells_at (P := Γ.P) (g := blk) (off := off) (cs := rowCells els) (w := w) (fun j v hv => by
          have := h4 j v hv
          exact this.1)
        rw [length_rowCells, show GT.sz UInt8 = 1 from rfl, Nat.mul_one, hrow] at this
        rw [this, List.map_map]; rfl
    have hb := run_bytesToString (P := Γ.P) w ad els.length cap (els.map fun b => (b.toNat : Int)) hl
    have e1 := strOf_bytes els
    unfold strOf at e1
    rw [hb, e1]
    rfl
end Go.Proofs.SL
namespace Go.Proofs.SL
open Go
section
variable {Γ : Cx} {rest : List Oper} {d : Nat} {ty : TypeId} {pos : String} {af : Array Edge} {gd : Option (Nat × Bool)}
variable {ops : Array Oper} {Msh pool : List HP} {E : Fl} {rs : List (Option Nat × Rel)} {cs0 : List Nat} {KD : List (Option Nat × Rel) → List Nat → List HP → Prop}
end
end Go.Proofs.SL
namespace Go.Proofs.SL
open Go
/-- An array of ints, as loops and contracts hand it on. -/
structure AR where
  l : List Int
instance : GT AR (List Int) where
  sz := 1
  pos := by decide
  cells _ := [.int .i64 0]
  len _ := rfl
  one _ v hv := by simp at hv; subst hv; rfl
  rd _ _ _ := True
  fp _ := []
  ow _ _ := True
  dat t := t.l
  rd_mono h _ := h
  ow_st _ h := h
  ow_rd _ _ := trivial
theorem dat_ar (x : AR) : GT.dat x = x.l := rfl
def aC (k : IntKind) (l : List Int) : List Value := l.map (Value.int k)
variable {Γ : Cx} {l : Envl} {M : List HP} {K : Kont} {w0 w : World} {S0 : List Nat} {rest : List Oper} {d : Nat} {ty : TypeId} {pos : String} {af : Array Edge}
section
variable {k : IntKind} {A A' : List Int}
end
/-! A variable of the package that is only read: block g, ints. -/
structure GA (g : Nat) (k : IntKind) (A : List Int) where mk ::
instance (g : Nat) (k : IntKind) (A : List Int) : GT (GA g k A) Unit where
  sz := 1
  pos := by decide
  cells _ := [.int .i64 0]
  len _ := rfl
  one _ v hv := by simp at hv; subst hv; rfl
  rd w S _ := ∀ j v, (aC k A)[j]? = some v → Old w S ⟨g, j, none⟩ v
  fp _ := []
  ow _ _ := False
  dat _ := ()
  rd_mono h hm := fun j v hv => hm _ _ (h j v hv)
  ow_st _ h := h
  ow_rd h _ := h.elim
/-! In a drawn region -/
variable {ops : Array Oper} {Msh pool : List HP} {E : Fl} {rs : List (Option Nat × Rel)} {cs0 : List Nat} {KD : List (Option Nat × Rel) → List Nat → List HP → Prop} {gd : Option (Nat × Bool)}
section
variable {k : IntKind} {A A' : List Int} {c : Prop}
end
end Go.Proofs.SL
namespace Go.Proofs.SL
open Go
variable {Γ : Cx} {rest : List Oper} {d : Nat} {ty : TypeId} {pos : String} {af : Array Edge}
variable {ops : Array Oper} {Msh pool : List HP} {E : Fl} {rs : List (Option Nat × Rel)} {cs0 : List Nat} {KD : List (Option Nat × Rel) → List Nat → List HP → Prop}
end Go.Proofs.SL
namespace Go.Proofs.SL
open Go
variable {Γ : Cx} {rest : List Oper} {d : Nat} {ty : TypeId} {pos : String} {af : Array Edge}
variable {ops : Array Oper} {Msh pool pool' : List HP} {E : Fl} {rs : List (Option Nat × Rel)} {cs0 : List Nat} {KD : List (Option Nat × Rel) → List Nat → List HP → Prop}
variable {τ δ : Type} [GT τ δ]
theorem OpV.g0 {g : Nat} {c : Prop} : OpV E (.global g) c (.pointer (some ⟨g, 0, none⟩)) := rfl
theorem D_bsN [FlatT τ] (ts : List τ) {T e sz by_ n : Nat} {z : List Value} {xs : List (Nat × Operand)} {ps : List (Nat × Value)} {r : List δ} (hx : OpVp E xs ps) (ht : elOf Γ.P T = some (e, sz, by_, z)) (hz : z.length = sz)
    (hsz : GT.sz τ = sz) (h0 : Nat.blt 0 sz = true) (hns : Nat.ble (n * sz) 65536 = true) (hn0 : Nat.blt 0 n = true) (hlen : ts.length = n) (hf : fillL (fun i => some (i * sz, sz)) ((List.range (n * sz)).map fun i => z.getD (i % sz) undef) ps = some (rowCells ts))
    (hr : some (ts.map GT.dat) = some r) (hk : DV Γ ops Msh pool ((d, OwnV (τ := τ) r) :: E) ((some d, OwnV (τ := τ) r) :: rs) cs0 rest KD) :
    DV Γ ops Msh pool E rs cs0 ({ dst := some d, op := .buildSlice T n xs.toArray, type := ty, pos := pos, after := af, guard := none } :: rest) KD := by
  have h0' : 0 < sz := Nat.le_of_ble_eq_true h0
  have hns' : n * sz ≤ 65536 := Nat.le_of_ble_eq_true hns
  have hnl : n ≤ 65536 := Nat.le_trans (Nat.le_mul_of_pos_right n h0') hns'
  refine DV.mk (OwnV (τ := τ) r) [] pool [] (by simp) rfl ?_ (by rw [dropE_nil]; exact hk)
  intro a w F Mk _ _ hw hm hfa hcf
  have hMk : Mk = [] := hcf
  subst hMk
  rw [dropE_nil] at hfa
  simp only [List.nil_append] at hw ⊢
  rw [if_pos (by simp [Region.wanted])]
  have h1 : xs.toArray.map (fun (i, x) => (i, a.eval x)) = ps.toArray := by
    have := OpVp.evals (o := { dst := some d, op := .buildSlice T n xs.toArray, type := ty, pos := pos, after := af, guard := none }) hfa xs ps hx (fun x hx => by simp [Op.operands]; exact ⟨_, hx⟩)
    rw [← this]; simp
  have hrun := run_buildSlice (P := Γ.P) (w := w) ht hz h0' hns' (Nat.le_of_ble_eq_true hn0) hf
  have h3 : (execOp a.eval { dst := some d, op := .buildSlice T n xs.toArray, type := ty, pos := pos, after := af, guard := none }).run Γ.P w = .ok (.value (.slice (some ⟨w.heap.size, 0, none⟩) n n)) (w.alloc (.cells (rowCells ts).toArray e (0, 0))) := by
    simp only [execOp, h1]
    simp [hrun]
  rw [h3]
  have eh : (⟨some ⟨w.heap.size, 0, none⟩, n, e, ts, []⟩ : TL τ).hdr = .slice (some ⟨w.heap.size, 0, none⟩) n n := by show Value.slice _ ts.length _ = _; rw [hlen]
  have hw2 : Holds Γ.w0 Γ.S0 F w := by simpa using hw
  refine ⟨[treeH (⟨some ⟨w.heap.size, 0, none⟩, n, e, ts, []⟩ : TL τ)], ⟨_, eh.symm, Option.some.inj hr, rfl⟩, ?_⟩
  have h5 := hw2.new (b := w.heap.size) (cs := rowCells ts) (T := e) rfl
  exact blk_own (by omega) (by simp only [maxLen]; omega) (by rw [hlen]; simp) (by rw [List.append_nil]; exact h5)
end Go.Proofs.SL
namespace Go.Proofs.SL
open Go
variable {Γ : Cx} {rest : List Oper} {d : Nat} {ty : TypeId} {pos : String} {af : Array Edge} {l : Envl} {M : List HP} {K : Kont}
end Go.Proofs.SL
namespace Go.Proofs.SL
open Go
variable {Γ : Cx} {rest : List Oper} {d : Nat} {ty : TypeId} {pos : String} {af : Array Edge} {gd : Option (Nat × Bool)}
variable {ops : Array Oper} {Msh pool : List HP} {E : Fl} {rs : List (Option Nat × Rel)} {cs0 : List Nat} {KD : RKont}
end Go.Proofs.SL
namespace Go.Proofs.SL
open Go
section
variable {Γ : Cx} {rest : List Oper} {d : Nat} {ty : TypeId} {pos : String} {af : Array Edge}
variable {ops : Array Oper} {Msh pool : List HP} {E : Fl} {rs : List (Option Nat × Rel)} {cs0 : List Nat} {KD : RKont}
/-- A struct that one owns. -/
def AggV {τ δ : Type} [GT τ δ] (r : δ) : Rel := fun v M => ∃ x : τ, v = .agg (GT.cells x).toArray ∧ GT.dat x = r ∧ M = [treeH x]
/-- A pointer to a block that holds a struct that one owns. -/
def BoxV {τ δ : Type} [GT τ δ] (T : TypeId) (r : δ) : Rel := fun v M => ∃ (b : Nat) (x : τ), v = .pointer (some ⟨b, 0, none⟩) ∧ GT.dat x = r ∧ M = [blk b (GT.cells x) T, treeH x]
theorem D_moveC {t : Nat} {R : Rel} (hR : E.lookup t = some R)
    (hlin : linB ops { dst := some d, op := .move (.tmp t), type := ty, pos := pos, after := af, guard := none } [t] = true)
    (hk : DV Γ ops Msh pool ((d, R) :: dropE [t] E) ((some d, R) :: rs) ([t] ++ cs0) rest KD) :
    DV Γ ops Msh pool E rs cs0 ({ dst := some d, op := .move (.tmp t), type := ty, pos := pos, after := af, guard := none } :: rest) KD := by
  refine DV.mk R [] pool [t] (by simp) hlin ?_ hk
  intro a w F Mk _ _ hw hm hfa hcf
  obtain ⟨Mx, Mk', rfl, hRR, hnil⟩ := hcf
  have hnil : Mk' = [] := hnil
  subst hnil
  have h1 := hRR _ hR
  rw [if_pos (by simp [Region.wanted])]
  have h2 : (execOp a.eval { dst := some d, op := .move (.tmp t), type := ty, pos := pos, after := af, guard := none }).run Γ.P w = .ok (.value (a.tmps.getD t undef)) w := by
    simp [execOp, Act.eval]
  rw [h2]
  exact ⟨Mx, h1, by simpa using hw⟩
theorem D_extractC {t i : Nat} {R : Rel} (R' : Rel) (hR : E.lookup t = some R) (hh : ∀ v M, R v M → ∃ vs u, v = .tuple vs ∧ vs[i]? = some u ∧ R' u M)
    (hlin : linB ops { dst := some d, op := .extract (.tmp t) i, type := ty, pos := pos, after := af, guard := none } [t] = true)
    (hk : DV Γ ops Msh pool ((d, R') :: dropE [t] E) ((some d, R') :: rs) ([t] ++ cs0) rest KD) :
    DV Γ ops Msh pool E rs cs0 ({ dst := some d, op := .extract (.tmp t) i, type := ty, pos := pos, after := af, guard := none } :: rest) KD := by
  refine DV.mk R' [] pool [t] (by simp) hlin ?_ hk
  intro a w F Mk _ _ hw hm hfa hcf
  obtain ⟨Mx, Mk', rfl, hRR, hnil⟩ := hcf
  have hnil : Mk' = [] := hnil
  subst hnil
  obtain ⟨vs, u, hv, hu, h1⟩ := hh _ _ (hRR _ hR)
  rw [if_pos (by simp [Region.wanted])]
  have e1 : a.eval (.tmp t) = .tuple vs := hv
  have h2 : (execOp a.eval { dst := some d, op := .extract (.tmp t) i, type := ty, pos := pos, after := af, guard := none }).run Γ.P w = .ok (.value u) w := by
    simp [execOp, e1, Instr.extract, hu]
  rw [h2]
  exact ⟨Mx, h1, by simpa using hw⟩
theorem D_extractW {t i : Nat} {R : Rel} (u : Value) (hR : E.lookup t = some R) (hh : ∀ v M, R v M → ∃ vs, v = .tuple vs ∧ vs[i]? = some u)
    (hk : DV Γ ops Msh pool ((d, FC True u) :: E) ((some d, FC True u) :: rs) cs0 rest KD) :
    DV Γ ops Msh pool E rs cs0 ({ dst := some d, op := .extract (.tmp t) i, type := ty, pos := pos, after := af, guard := none } :: rest) KD :=
  DV_pure True u GC.none (fun a w F _ hf _ => by
    obtain ⟨M, h1, _⟩ := hf t R (List.mem_append_left _ (by simp [Op.operands])) hR
    obtain ⟨vs, hv, hu⟩ := hh _ _ h1
    have e1 : a.eval (.tmp t) = .tuple vs := hv
    simp [execOp, e1, Instr.extract, hu]) hk
theorem D_storeK {τ δ : Type} [GT τ δ] {p x : Nat} {T : TypeId} {T' : TypeId} {z : List Value} {r : δ} (hp : E.lookup p = some (PtrNew z T')) (hx : E.lookup x = some (AggV (τ := τ) r))
    (ht : aggOf Γ.P T = some (GT.sz τ)) (hl : z.length = GT.sz τ)
    (hlin : linB ops { dst := none, op := .store T (.tmp p) (.tmp x), type := ty, pos := pos, after := af, guard := none } [p, x] = true)
    (hk : DV Γ ops Msh pool (dropE [p, x] E) ((some p, BoxV (τ := τ) T' r) :: rs) ([x] ++ cs0) rest KD) :
    DV Γ ops Msh pool E rs cs0 ({ dst := none, op := .store T (.tmp p) (.tmp x), type := ty, pos := pos, after := af, guard := none } :: rest) KD := by
  refine DV.mkK (BoxV (τ := τ) T' r) [] pool p [x] rfl (by simp) hlin ?_ hk
  intro a w F Mk _ _ hw hm hfa hcf
  obtain ⟨M1, Mk', rfl, hR1, M2, Mk'', rfl, hR2, hnil⟩ := hcf
  have hnil : Mk'' = [] := hnil
  subst hnil
  obtain ⟨b, hb, rfl⟩ := hR1 _ hp
  obtain ⟨y, hv, hd, rfl⟩ := hR2 _ hx
  rw [if_pos (by simp [Region.wanted])]
  have e1 : a.eval (.tmp p) = .pointer (some ⟨b, 0, none⟩) := hb
  have e2 : a.eval (.tmp x) = .agg (GT.cells y).toArray := hv
  have hw' : Holds Γ.w0 Γ.S0 (blk b z T' :: (treeH y :: F)) w := by simpa using hw
  have hh : w.heap[b]? = some (.cells z.toArray T' (0, 0)) := hw'.prs (blk b z T') (by simp)
  have hly : (GT.cells y).length = GT.sz τ := GT.len y
  have hs := run_store_blk (P := Γ.P) (fo := 0) (vs := GT.cells y) (ty := T) hh (by omega) (fun v hv => GT.one y v hv)
  have e : (z.take 0 ++ GT.cells y ++ z.drop (0 + (GT.cells y).length)) = GT.cells y := by simp [hl, hly]
  rw [e] at hs
  have hrun : (execOp a.eval { dst := none, op := .store T (.tmp p) (.tmp x), type := ty, pos := pos, after := af, guard := none }).run Γ.P w = .ok .skip (w.setRow b (GT.cells y).toArray) := by
    simp [execOp, e1, e2, Instr.storeAt, Instr.sureAddr, storeVar, run_isAgg_agg ht, Value.cells, hs, hly]
  rw [hrun]
  exact ⟨[blk b (GT.cells y) T', treeH y], ⟨b, y, hb, hd, rfl⟩, by simpa using setRow_blk (cs' := GT.cells y) hw'⟩
/-- A call that is given parts of memory, its operands known by relations. -/
theorem D_callMR {pool' : List HP} {f : Nat} {xs : List Operand} {ats : Array TypeId} (Rs : List Rel) (R : Rel) (M1 : List HP) (hp : List.Perm pool (M1 ++ pool'))
    (hf : IsFn Γ.P f) (hx : OpRs E xs Rs) (hc : ∀ w F vs, Holds Γ.w0 Γ.S0 (M1 ++ F) w → (∀ h, h ∈ Msh → h ∈ F) → AllR F Rs vs → Spec Γ.P f vs.toArray w M1 R)
    (hk : DV Γ ops Msh pool' ((d, R) :: E) ((some d, R) :: rs) cs0 rest KD) :
    DV Γ ops Msh pool E rs cs0 ({ dst := some d, op := .call { callee := .value (.func f), args := xs.toArray, argTypes := ats }, type := ty, pos := pos, after := af, guard := none } :: rest) KD := by
  refine DV.mk R M1 pool' [] hp rfl ?_ (by rw [dropE_nil]; exact hk)
  intro a w F Mk _ _ hw hm hfa hcf
  have hMk : Mk = [] := hcf
  subst hMk
  rw [dropE_nil] at hfa
  simp only [List.nil_append] at hw ⊢
  rw [if_pos (by simp [Region.wanted])]
  have h1 := OpRs.evals (o := { dst := some d, op := .call { callee := .value (.func f), args := xs.toArray, argTypes := ats }, type := ty, pos := pos, after := af, guard := none }) hfa xs Rs hx (fun x hx => by simp [Op.operands, Call.operands, hx])
  have h2 : (#[] ++ xs.toArray.map a.eval ++ #[] : Array Value) = (xs.map a.eval).toArray := by simp
  rw [execOp_call_go, h2, hf.run]
  exact (hc w F _ hw hm h1 (Holds.split hw)).mono fun e w'' ⟨v, M', h1, h3, h4⟩ => ⟨v, M', h1, h3, Holds.frame hw h4⟩
end
section
variable {Γ : Cx} {rest : List Oper} {d : Nat} {ty : TypeId} {pos : String} {af : Array Edge} {gd : Option (Nat × Bool)}
variable {ops : Array Oper} {Msh pool : List HP} {E : Fl} {rs : List (Option Nat × Rel)} {cs0 : List Nat} {KD : RKont}
end
end Go.Proofs.SL
namespace Go.Proofs.SL
open Go
section
variable {Γ : Cx} {l : Envl} {M M1 M2 F : List HP} {Q : Post} {K : Kont} {w0 w : World} {S0 : List Nat}
variable {rest : List Oper} {d : Nat} {ty : TypeId} {pos : String} {af : Array Edge}
variable {τ δ : Type} [GT τ δ]
end
section
variable {Γ : Cx} {rest : List Oper} {d : Nat} {ty : TypeId} {pos : String} {af : Array Edge}
variable {ops : Array Oper} {Msh pool pool' : List HP} {E : Fl} {rs : List (Option Nat × Rel)} {cs0 : List Nat} {KD : RKont}
variable {τ τ' δ δ' : Type} [GT τ δ] [GT τ' δ']
end
section
variable {Γ : Cx} {rest : List Oper} {d : Nat} {ty : TypeId} {pos : String} {af : Array Edge}
variable {ops : Array Oper} {Msh pool pool' : List HP} {E : Fl} {rs : List (Option Nat × Rel)} {cs0 : List Nat} {KD : RKont}
variable {τ δ : Type} [GT τ δ]
end
section
variable {Γ : Cx} {rest : List Oper} {d : Nat} {ty : TypeId} {pos : String} {af : Array Edge} {gd : Option (Nat × Bool)}
variable {ops : Array Oper} {Msh pool pool' : List HP} {E : Fl} {rs : List (Option Nat × Rel)} {cs0 : List Nat} {KD : RKont}
/-- A part that runs where the guard lets it; else a given answer. -/
def gm {α : Type} (g : Bool) (d : α) (o : Option α) : Option α := cond g o (some d)
@[simp] theorem gm_true {α : Type} {d : α} {o : Option α} : gm true d o = o := rfl
@[simp] theorem gm_false {α : Type} {d : α} {o : Option α} : gm false d o = some d := rfl
end
section
variable {Γ : Cx} {rest : List Oper} {d : Nat} {ty : TypeId} {pos : String} {af : Array Edge}
variable {ops : Array Oper} {Msh pool pool' : List HP} {E : Fl} {rs : List (Option Nat × Rel)} {cs0 : List Nat} {KD : RKont}
variable {τ δ : Type} [GT τ δ]
end
section
variable {Γ : Cx} {rest : List Oper} {d : Nat} {ty : TypeId} {pos : String} {af : Array Edge} {gd : Option (Nat × Bool)}
variable {ops : Array Oper} {Msh pool pool' : List HP} {E : Fl} {rs : List (Option Nat × Rel)} {cs0 : List Nat} {KD : RKont}
variable {τ δ : Type} [GT τ δ]
end
end Go.Proofs.SL
namespace Go.Proofs.SL
open Go
/-! Facts of a program's tables, found by their places -/
class FldF (P : Program) (T f : Nat) (o : outParam Nat) : Prop where h : fldOf P T f = some o
class OneF (P : Program) (T : Nat) : Prop where h : oneOf P T = true
class AggF (P : Program) (T : Nat) (n : outParam Nat) : Prop where h : aggOf P T = some n
class ElF (P : Program) (T : Nat) (e sz by_ : outParam Nat) (z : outParam (List Value)) : Prop where h : elOf P T = some (e, sz, by_, z)
class ZerF (P : Program) (T : Nat) (z : outParam (List Value)) : Prop where h : zeroOf P T = some z
class StrF (P : Program) (T : Nat) : Prop where h : isStr P T = true
class FnF (P : Program) (f : Nat) : Prop where h : IsFn P f
class BldF (P : Program) (T : Nat) (pl : outParam (List (Nat × Nat))) (z : outParam (List Value)) : Prop where h : bldOf P T = some (pl, z)
class UndF (P : Program) (T : Nat) (d : outParam TypeDesc) : Prop where h : P.underlying T = some d
/-! Parts and slots -/
theorem ba {α β : Type} {o : Option α} {k : α → Option β} {r : β} (h : Option.bind o k = some r) : ∃ y, o = some y ∧ k y = some r := bind_any h
theorem pk {h : HP} {M M' : List HP} (p : Pick h M M' := by first | (with_reducible repeat (first | exact Pick.here _ | apply Pick.there)); done | (repeat (first | exact Pick.here _ | apply Pick.there))) : Pick h M M' := p
theorem mm {h : HP} {M : List HP} (p : h ∈ M := by first | (with_reducible repeat (first | exact List.Mem.head _ | apply List.Mem.tail)); done | (repeat (first | exact List.Mem.head _ | apply List.Mem.tail))) : h ∈ M := p
theorem sb {l' l : Envl} (h : Sub l' l := by repeat (first | exact Sub.nil _ | (apply Sub.cons; (· exact rfl)))) : Sub l' l := h
theorem ms {M' M : List HP} (h : MSub M' M := by repeat (first | exact MSub.nil _ | (apply MSub.cons; (· exact pk)))) : MSub M' M := h
theorem pc {M Ms R : List HP} (h : List.Perm M (Ms ++ R) := by repeat (first | exact perm_nil_left _ | (apply perm_cons; (· exact pk)))) : List.Perm M (Ms ++ R) := h
theorem bv {P : Program} {op : BinOp} {T : TypeId} {x y : Operand} {u v r : Value} (h : BinV P op T x y u v r := by
  first
    | (with_reducible first | exact bv_add | exact bv_eql | exact bv_lss | exact bv_sub | exact bv_neq | exact bv_geq | exact bv_gtr | exact bv_leq | exact bv_seql | exact bv_sneq | exact bv_slss | exact bv_sgeq | exact bv_sgtr | exact bv_sleq | exact bv_mul | exact bv_and | exact bv_or | exact bv_xor)
    | ((with_reducible refine bv_beql ?_); exact UndF.h) | ((with_reducible refine bv_bneq ?_); exact UndF.h) | ((with_reducible refine bv_quo ?_); decide) | ((with_reducible refine bv_rem ?_); decide)
    | ((with_reducible refine bv_shl ?_ ?_) <;> decide) | ((with_reducible refine bv_shr ?_ ?_) <;> decide)) : BinV P op T x y u v r := h
theorem ocs {cs : List Value} (h : ∀ v, v ∈ cs → v.oneCell' = true := by first | exact allOne rfl | exact fun v hv => GT.one _ v hv | (simp [Value.oneCell', TL.hdr, Value.cells]; done)) : ∀ v, v ∈ cs → v.oneCell' = true := h
section
variable {Γ : Cx} {l : Envl} {M M' : List HP} {Q : Post} {K : Kont} {rest : List Oper} {d : Nat} {ty : TypeId} {pos : String} {af : Array Edge}
inductive Kp : List Nat → Envl → Envl → Prop
  | nil (l : Envl) : Kp [] l []
  | cons {t : Nat} {v : Value} {ts : List Nat} {l l' : Envl} (h : l.lookup t = some v) (hk : Kp ts l l') : Kp (t :: ts) l ((t, v) :: l')
theorem Kp.sub {ts : List Nat} {l l' : Envl} (h : Kp ts l l') : Sub l' l := by
  induction h with
  | nil l => exact Sub.nil _
  | cons h _ ih => exact Sub.cons h ih
/-- Some slots are kept. -/
theorem kp (ts : List Nat) {c : Code} {l' : Envl} (k : W Γ c l' M Q) (h : Kp ts l l' := by repeat (first | exact Kp.nil _ | (apply Kp.cons; (· exact rfl)))) : W Γ c l M Q := W_weaken h.sub (MSub.refl _) k
theorem kq (ts : List Nat) {c : Code} {l' : Envl} (k : W Γ c l' M' Q) (h : Kp ts l l' := by repeat (first | exact Kp.nil _ | (apply Kp.cons; (· exact rfl)))) (hm : M = M' := by (try simp only [List.cons_append, List.nil_append]); exact rfl) : W Γ c l M Q := W_weaken h.sub (hm ▸ MSub.refl _) k
theorem al {T : TypeId} {z : List Value} [hz : ZerF Γ.P T z] (hk : ∀ b, L Γ rest ((d, .pointer (some ⟨b, 0, none⟩)) :: l) (blk b z T :: M) K) (hn : Nat.blt d Γ.n = true := by exact rfl) :
    L Γ ({ dst := some d, op := .alloc T, type := ty, pos, after := af, guard := none } :: rest) l M K := L_alloc hn hz.h hk
theorem bx {x : Operand} {T : TypeId} {v : Value} (hk : ∀ b, L Γ rest ((d, .pointer (some ⟨b, 0, none⟩)) :: l) (blk b v.cells.toList T :: M) K) (hn : Nat.blt d Γ.n = true := by exact rfl) (hx : ev l x = some v := by exact rfl) :
    L Γ ({ dst := some d, op := .box T x, type := ty, pos, after := af, guard := none } :: rest) l M K := L_box hn hx hk
end
section
variable {w0 w : World} {S0 : List Nat} {M M' M1 M2 : List HP}
/-- A tree made of parts that are there; what is left. -/
def Own {τ δ : Type} [GT τ δ] (M : List HP) (t : τ) (M' : List HP) : Prop := ∀ (w0 : World) (S0 : List Nat) (w : World) (F : List HP), Holds w0 S0 (M ++ F) w → Holds w0 S0 (treeH t :: (M' ++ F)) w
theorem own_pick {τ δ : Type} [GT τ δ] {t : τ} (p : Pick (treeH t) M M') : Own M t M' := fun _ _ _ F h => h.perm (p.perm.append_right F)
theorem own_flat {τ δ : Type} [GT τ δ] {t : τ} (p : Flat t) : Own M t M := fun _ _ _ _ h => h.addFlat p
theorem own_int {n : Int} : Own M n M := own_flat (flat_int trivial)
theorem own_bool {n : Bool} : Own M n M := own_flat (flat_bool _)
theorem own_str {n : ByteArray} : Own M n M := own_flat (flat_str trivial)
theorem own_nil {τ δ : Type} [GT τ δ] {e : TypeId} : Own M (TL.nil τ e) M := own_flat (flat_nil e)
theorem own_pair {α β δ ε : Type} [GT α δ] [GT β ε] {a : α} {b : β} (ha : Own M a M1) (hb : Own M1 b M2) : Own M (a, b) M2 := fun w0 S0 w F h => by
  have h1 := ha w0 S0 w F h
  have h2 : Holds w0 S0 (M1 ++ (treeH a :: F)) w := h1.perm List.perm_middle.symm
  have h3 := hb w0 S0 w _ h2
  have h4 : Holds w0 S0 (treeH a :: treeH b :: (M2 ++ F)) w := h3.perm ((List.perm_middle.cons _).trans (List.Perm.swap _ _ _))
  exact pair_tree h4
theorem ow {τ δ : Type} [GT τ δ] {t : τ} (o : Own M t M' := by repeat (first | (with_reducible exact own_int) | (with_reducible exact own_bool) | (with_reducible exact own_str) | (with_reducible exact own_nil) | (with_reducible apply own_pair) | ((with_reducible apply own_pick); exact pk))) : Own M t M' := o
theorem Own.h {τ δ : Type} [GT τ δ] {t : τ} (o : Own M t M') (h : Holds w0 S0 M w) : Holds w0 S0 (treeH t :: M') w := by
  have := o w0 S0 w [] (by simpa using h)
  simpa using this
/-- A tree taken apart. -/
def Exp {τ δ : Type} [GT τ δ] (t : τ) (M M' : List HP) : Prop := ∀ (w0 : World) (S0 : List Nat) (w : World) (F : List HP), Holds w0 S0 (treeH t :: (M ++ F)) w → Holds w0 S0 (M' ++ F) w
theorem exp_flat {τ δ : Type} [GT τ δ] {t : τ} : Exp t M M := fun _ _ _ F h => h.sub ⟨[treeH t], List.perm_append_comm (l₁ := [treeH t]) (l₂ := M ++ F)⟩
theorem exp_int {n : Int} : Exp n M M := exp_flat
theorem exp_bool {n : Bool} : Exp n M M := exp_flat
theorem exp_str {n : ByteArray} : Exp n M M := exp_flat
theorem exp_leaf {τ δ : Type} [GT τ δ] {t : TL τ} : Exp t M (treeH t :: M) := fun _ _ _ _ h => h
theorem exp_pair {α β δ ε : Type} [GT α δ] [GT β ε] {a : α} {b : β} (hb : Exp b M M1) (ha : Exp a M1 M2) : Exp (a, b) M M2 := fun w0 S0 w F h => by
  have h1 := tree_pair h
  have h2 : Holds w0 S0 (treeH b :: (M ++ (treeH a :: F))) w := h1.perm ((List.Perm.swap _ _ _).trans (List.perm_middle.symm.cons _))
  have h3 := hb w0 S0 w _ h2
  exact ha w0 S0 w F (h3.perm List.perm_middle)
theorem ex {τ δ : Type} [GT τ δ] {t : τ} (o : Exp t M M' := by repeat (first | (with_reducible exact exp_int) | (with_reducible exact exp_bool) | (with_reducible exact exp_str) | (with_reducible apply exp_pair) | (with_reducible exact exp_leaf))) : Exp t M M' := o
theorem Exp.h {τ δ : Type} [GT τ δ] {t : τ} (o : Exp t M1 M') (p : Pick (treeH t) M M1) (h : Holds w0 S0 M w) : Holds w0 S0 M' w := by
  have := o w0 S0 w [] (by simpa using h.perm p.perm)
  simpa using this
variable {Γ : Cx} {l : Envl} {Q : Post} {K : Kont} {c : Code} {r : List Oper}
theorem jW {τ δ : Type} [GT τ δ] (t : τ) (k : W Γ c l (treeH t :: M') Q) (o : Own M t M' := by exact ow) : W Γ c l M Q := W_conv (fun _ h => o.h h) k
theorem jL {τ δ : Type} [GT τ δ] (t : τ) (k : L Γ r l (treeH t :: M') K) (o : Own M t M' := by exact ow) : L Γ r l M K := L_conv (fun _ h => o.h h) k
theorem xW {τ δ : Type} [GT τ δ] (t : τ) (k : W Γ c l M' Q) (p : Pick (treeH t) M M1 := by exact pk) (o : Exp t M1 M' := by exact ex) : W Γ c l M Q := W_conv (fun _ h => o.h p h) k
theorem xL {τ δ : Type} [GT τ δ] (t : τ) (k : L Γ r l M' K) (p : Pick (treeH t) M M1 := by exact pk) (o : Exp t M1 M' := by exact ex) : L Γ r l M K := L_conv (fun _ h => o.h p h) k
end
theorem dd {a b : Prop} (h : a) (e : a → b := by (intro h; (try dsimp only [dat_pair, dat_int, dat_bool, dat_str, dat_ar] at h); exact h)) : b := e h
theorem sc {p q : Prop} (k : q) (e : q → p := by (intro k; (simp only [cells_pair, cells_int, cells_bool, cells_str, cells_TL, List.cons_append, List.nil_append]); exact k)) : p := e k
section
variable {ops : Array Oper} {E : Fl}
theorem gc {o : Oper} {c : Prop} (h : GC ops E o c := by first | exact GC.none | exact GC.some rfl rfl) : GC ops E o c := h
theorem ov {x : Operand} {c : Prop} {v : Value} (h : OpV E x c v := by first | exact OpV.c | exact OpV.t rfl | exact OpV.s rfl) : OpV E x c v := h
end
theorem L_extractL {Γ : Cx} {l : Envl} {M : List HP} {K : Kont} {rest : List Oper} {d : Nat} {ty : TypeId} {pos : String} {af : Array Edge} {x : Operand} {i : Nat} {vs : List Value} {v : Value} (hn : Nat.blt d Γ.n = true) (hx : ev l x = some (.tuple vs.toArray)) (hv : vs[i]? = some v) (hk : L Γ rest ((d, v) :: l) M K) :
    L Γ ({ dst := some d, op := .extract x i, type := ty, pos, after := af, guard := none } :: rest) l M K := L_extract hn hx (by simpa using hv) hk
theorem isLen {Γ : Cx} {l : Envl} {M : List HP} {K : Kont} {rest : List Oper} {d : Option Nat} {ty : TypeId} {pos : String} {af : Array Edge} {g : Option (Nat × Bool)} {x : Array Operand} {T : Array TypeId} (h : L Γ ({ dst := d, op := .call { callee := .builtin .len, args := x, argTypes := T }, type := ty, pos := pos, after := af, guard := g } :: rest) l M K) :
    L Γ ({ dst := d, op := .call { callee := .builtin .len, args := x, argTypes := T }, type := ty, pos := pos, after := af, guard := g } :: rest) l M K := h
section
variable {Γ : Cx} {l : Envl} {M : List HP} {K : Kont} {Q : Post} {c : Code} {r : List Oper} {ops : Array Oper} {Msh pool : List HP} {E : Fl} {rs : List (Option Nat × Rel)} {cs0 : List Nat} {KD : RKont}
theorem isL (h : L Γ r l M K) : L Γ r l M K := h
theorem isW (h : W Γ c l M Q) : W Γ c l M Q := h
theorem isD (h : DV Γ ops Msh pool E rs cs0 r KD) : DV Γ ops Msh pool E rs cs0 r KD := h
end
/-- One step that needs no word. -/
theorem s1 {p q : Prop} (k : q) (h : q → p := by
  intro k
  (first
    | (with_reducible refine isL ?_); (first
      | (with_reducible apply L_move); (· exact rfl); (· exact rfl)
      | (with_reducible apply L_assign); (· exact rfl); (· exact rfl)
      | (with_reducible refine L_nil ?_)
      | (with_reducible apply L_binV); (· exact rfl); (· exact rfl); (· exact rfl); (· exact bv)
      | (with_reducible apply L_fieldAddr); (· exact rfl); (· exact rfl); (· exact FldF.h)
      | (with_reducible apply L_load); (· exact rfl); (· exact rfl); (· exact RdC.blk mm); (· exact OneF.h); (· exact rfl)
      | (with_reducible apply L_loadW); (· exact rfl); (· exact rfl); (· exact RdC.blk mm); (· exact AggF.h)
      | (with_reducible apply L_extractL); (· exact rfl); (· exact rfl); (· exact rfl)
      | (with_reducible apply L_store); (· exact rfl); (· exact rfl); (· exact pk); (· exact OneF.h); (· exact rfl); (· exact rfl)
      | (with_reducible apply L_storeW); (· exact rfl); (· exact rfl); (· exact pk); (· exact AggF.h); (· exact rfl); (· exact ocs)
      | (with_reducible refine isLen ?_); (first | refine L_lenT rfl rfl StrF.h ?_ | refine L_lenP rfl rfl ElF.h ?_)
      | (with_reducible apply L_not); (· exact rfl); (· exact rfl)
      | (with_reducible apply L_nilCheck); (· exact rfl); (· exact rfl))
    | (with_reducible refine isW ?_); (first
      | (with_reducible refine W_seq ?_)
      | (with_reducible refine W_region ?_)
      | (with_reducible refine W_skip ?_)
      | (with_reducible refine W_block ?_)
      | (with_reducible refine W_ret ?_))
    | (with_reducible refine isD ?_); (first
      | (with_reducible apply D_move); (· exact gc); (· exact ov)
      | (with_reducible apply D_fieldAddr); (· exact gc); (· exact ov); (· exact FldF.h)
      | (with_reducible apply D_load); (· exact gc); (· exact ov); (· exact fun _ => RdC.blk mm); (· exact OneF.h); (· exact rfl)
      | (with_reducible apply D_bin); (· exact gc); (· exact ov); (· exact ov); (· exact fun _ => bv)
      | (with_reducible apply D_and); (· exact gc); (· exact ov); (· exact ov); (· exact fun h hb => ⟨h, hb⟩)
      | (with_reducible apply D_or); (· exact gc); (· exact ov); (· exact ov); (· exact fun h hb => ⟨h, hb⟩)
      | (with_reducible apply D_loadW); (· exact gc); (· exact ov); (· exact fun _ => RdC.blk mm); (· exact AggF.h)
      | (with_reducible apply D_assign); (· exact gc); (· exact ov)
      | (with_reducible apply D_not); (· exact gc); (· exact ov)
      | (with_reducible apply D_nilCheck); (· exact gc); (· exact ov)
      | (with_reducible refine DV_nil ?_))
    | (with_reducible refine Give_nil ?_)
    | (with_reducible apply Give_drop); (· exact rfl)
    | (with_reducible apply Give_is); (· exact rfl); (· exact rfl)
    | (with_reducible apply Give_cons); (· exact rfl)
    | (with_reducible apply Give_drop')
    | (with_reducible apply Give_st))
  exact k) : p := h k
theorem s2 {p q : Prop} (k : q) (h : q → p := by (intro k; (iterate 2 (refine s1 ?_)); exact k)) : p := h k
theorem s3 {p q : Prop} (k : q) (h : q → p := by (intro k; (iterate 3 (refine s1 ?_)); exact k)) : p := h k
theorem s4 {p q : Prop} (k : q) (h : q → p := by (intro k; (iterate 4 (refine s1 ?_)); exact k)) : p := h k
theorem s5 {p q : Prop} (k : q) (h : q → p := by (intro k; (iterate 5 (refine s1 ?_)); exact k)) : p := h k
theorem s6 {p q : Prop} (k : q) (h : q → p := by (intro k; (iterate 6 (refine s1 ?_)); exact k)) : p := h k
theorem s7 {p q : Prop} (k : q) (h : q → p := by (intro k; (iterate 7 (refine s1 ?_)); exact k)) : p := h k
theorem s8 {p q : Prop} (k : q) (h : q → p := by (intro k; (iterate 8 (refine s1 ?_)); exact k)) : p := h k
theorem s9 {p q : Prop} (k : q) (h : q → p := by (intro k; (iterate 9 (refine s1 ?_)); exact k)) : p := h k
theorem s10 {p q : Prop} (k : q) (h : q → p := by (intro k; (iterate 10 (refine s1 ?_)); exact k)) : p := h k
theorem s11 {p q : Prop} (k : q) (h : q → p := by (intro k; (iterate 11 (refine s1 ?_)); exact k)) : p := h k
theorem s12 {p q : Prop} (k : q) (h : q → p := by (intro k; (iterate 12 (refine s1 ?_)); exact k)) : p := h k
theorem s13 {p q : Prop} (k : q) (h : q → p := by (intro k; (iterate 13 (refine s1 ?_)); exact k)) : p := h k
theorem s14 {p q : Prop} (k : q) (h : q → p := by (intro k; (iterate 14 (refine s1 ?_)); exact k)) : p := h k
theorem s15 {p q : Prop} (k : q) (h : q → p := by (intro k; (iterate 15 (refine s1 ?_)); exact k)) : p := h k
theorem s16 {p q : Prop} (k : q) (h : q → p := by (intro k; (iterate 16 (refine s1 ?_)); exact k)) : p := h k
theorem s17 {p q : Prop} (k : q) (h : q → p := by (intro k; (iterate 17 (refine s1 ?_)); exact k)) : p := h k
theorem s18 {p q : Prop} (k : q) (h : q → p := by (intro k; (iterate 18 (refine s1 ?_)); exact k)) : p := h k
theorem s20 {p q : Prop} (k : q) (h : q → p := by (intro k; (iterate 20 (refine s1 ?_)); exact k)) : p := h k
end Go.Proofs.SL
namespace Go.Proofs.SL
open Go
set_option maxHeartbeats 2000000
instance el34 : ElF Try.prog 34 3 1 8 [.int .i64 0] := ⟨by kernel_rfl⟩
instance one3 : OneF Try.prog 3 := ⟨by kernel_rfl⟩
instance el22 : ElF Try.prog 22 5 1 1 [.int .u8 0] := ⟨by kernel_rfl⟩
instance und22 : UndF Try.prog 22 (.slice 5) := ⟨by kernel_rfl⟩
instance und5 : UndF Try.prog 5 (.int .u8) := ⟨by kernel_rfl⟩
instance und9 : UndF Try.prog 9 (.string) := ⟨by kernel_rfl⟩
theorem mix : Try.prog.follows .mixedOrders = true := by kernel_rfl
instance und3 : UndF Try.prog 3 (.int .i64) := ⟨by kernel_rfl⟩
end Go.Proofs.SL
namespace Go.Proofs.SL
open Go
set_option maxHeartbeats 2000000
instance fn73 : FnF Try.prog 73 := ⟨⟨_, Try.func73, by kernel_rfl, rfl⟩⟩
noncomputable def s_l1In (a0 : Int) (a1 : Int) (a2 : Int) : Option Bool :=
  some ((decide (a1 ≤ a0)) && (decide (a0 ≤ a2)))
theorem s_l1In_walk (w : World) (a0 : Int) (a1 : Int) (a2 : Int)  (r : Bool) (hp : s_l1In a0 a1 a2 = some r) : Spec Try.prog 77 [.int .i64 a0, .int .i64 a1, .int .i64 a2].toArray w [] (IsV (.bool r)) := by
  refine Spec.intro Try.func77 rfl Try.ntmps77 rfl ?_
  unfold s_l1In at hp
  replace hp := dd hp
  refine s5 ?_
  refine W_D0 [6] mix (by kernel_rfl) rfl ?_
  refine s20 ?_
  obtain rfl := Option.some.inj hp
  refine s1 ?_
  refine res1 rfl (ResOK.tmp rfl) ⟨rfl, rfl⟩ ms
noncomputable def i_within (a0 : Int) (a1 : Int) (a2 : Int) : Option Bool :=
  some ((decide (a1 ≤ a0)) && (decide (a0 ≤ a2)))
theorem i_within_walk (w : World) (a0 : Int) (a1 : Int) (a2 : Int)  (r : Bool) (hp : i_within a0 a1 a2 = some r) : Spec Try.prog 73 [.int .i64 a0, .int .i64 a1, .int .i64 a2].toArray w [] (IsV (.bool r)) := by
  refine Spec.intro Try.func73 rfl Try.ntmps73 rfl ?_
  unfold i_within at hp
  replace hp := dd hp
  refine s5 ?_
  refine W_D0 [6] mix (by kernel_rfl) rfl ?_
  refine s20 ?_
  obtain rfl := Option.some.inj hp
  refine s1 ?_
  refine res1 rfl (ResOK.tmp rfl) ⟨rfl, rfl⟩ ms
noncomputable def i_isClient (a0 : Int) : Option Bool :=
  Option.bind (i_within a0 1 9) (fun y1 => some y1)
theorem i_isClient_walk (w : World) (a0 : Int)  (r : Bool) (hp : i_isClient a0 = some r) : Spec Try.prog 72 [.int .i64 a0].toArray w [] (IsV (.bool r)) := by
  refine Spec.intro Try.func72 rfl Try.ntmps72 rfl ?_
  unfold i_isClient at hp
  replace hp := dd hp
  refine s7 ?_
  replace hp := ba hp; obtain ⟨y1, hy1, hp⟩ := hp
  refine L_callX rfl fn73.h rfl (by exact fun w hw => i_within_walk w a0 1 9  _ hy1) ?_
  refine s2 ?_
  obtain rfl := Option.some.inj hp
  refine s1 ?_
  refine res1 rfl (ResOK.tmp rfl) ⟨rfl, rfl⟩ ms
end Go.Proofs.SL
namespace Go.Proofs.SL
open Go
set_option maxHeartbeats 2000000
abbrev T_Sess := Int × Int × Int × (TL ByteArray)
abbrev T_Desks := Int × Int × (TL T_Sess)
end Go.Proofs.SL
namespace Go.Proofs.SL
open Go
set_option maxHeartbeats 2000000
abbrev D_Sess := Int × Int × Int × (List ByteArray)
abbrev D_Desks := Int × Int × (List D_Sess)
instance fld33_2 : FldF Try.prog 33 2 2 := ⟨by kernel_rfl⟩
instance one31 : OneF Try.prog 31 := ⟨by kernel_rfl⟩
instance el31 : ElF Try.prog 31 107 4 48 [.int .i64 0, .int .i64 0, .int .i64 0, .slice none 0 0] := ⟨by kernel_rfl⟩
instance agg107 : AggF Try.prog 107 4 := ⟨by kernel_rfl⟩
instance zero107 : ZerF Try.prog 107 [.int .i64 0, .int .i64 0, .int .i64 0, .slice none 0 0] := ⟨by kernel_rfl⟩
instance fld107_0 : FldF Try.prog 107 0 0 := ⟨by kernel_rfl⟩
instance fld33_1 : FldF Try.prog 33 1 1 := ⟨by kernel_rfl⟩
instance fld107_1 : FldF Try.prog 107 1 1 := ⟨by kernel_rfl⟩
instance fn72 : FnF Try.prog 72 := ⟨⟨_, Try.func72, by kernel_rfl, rfl⟩⟩
instance fld107_2 : FldF Try.prog 107 2 2 := ⟨by kernel_rfl⟩
instance fld33_0 : FldF Try.prog 33 0 0 := ⟨by kernel_rfl⟩
instance fld107_3 : FldF Try.prog 107 3 3 := ⟨by kernel_rfl⟩
instance one25 : OneF Try.prog 25 := ⟨by kernel_rfl⟩
instance el25 : ElF Try.prog 25 9 1 16 [.string ByteArray.empty] := ⟨by kernel_rfl⟩
instance one9 : OneF Try.prog 9 := ⟨by kernel_rfl⟩
instance str9 : StrF Try.prog 9 := ⟨by kernel_rfl⟩
instance zero33 : ZerF Try.prog 33 [.int .i64 0, .int .i64 0, .slice none 0 0] := ⟨by kernel_rfl⟩
instance bld33 : BldF Try.prog 33 [(0, 1), (1, 1), (2, 1)] [.int .i64 0, .int .i64 0, .slice none 0 0] := ⟨by kernel_rfl⟩
instance agg33 : AggF Try.prog 33 3 := ⟨by kernel_rfl⟩
instance fn125 : FnF Try.prog 125 := ⟨⟨_, Try.func125, by kernel_rfl, rfl⟩⟩
instance fn127 : FnF Try.prog 127 := ⟨⟨_, Try.func127, by kernel_rfl, rfl⟩⟩
instance fn126 : FnF Try.prog 126 := ⟨⟨_, Try.func126, by kernel_rfl, rfl⟩⟩
instance fn77 : FnF Try.prog 77 := ⟨⟨_, Try.func77, by kernel_rfl, rfl⟩⟩
noncomputable def i_DesksOk (a0 : D_Desks) : Option Bool :=
  whileP (fun s1 : Int => cond (decide (s1 < (a0.2.2.length : Int))) (Option.bind (idx a0.2.2 s1) (fun y3 => Option.bind (i_within y3.1 1 (IntKind.wrap .i64 (a0.2.1 - 1))) (fun y4 => gb ((!(!y4)) && (decide (0 < s1))) (idx a0.2.2 (IntKind.wrap .i64 (s1 - 1))) (fun y5 => gb (!((!y4) || ((decide (0 < s1)) && (decide (y3.1 ≤ y5.1))))) (i_isClient y3.2.1) (fun y6 => gb (!(((!y4) || ((decide (0 < s1)) && (decide (y3.1 ≤ y5.1)))) || (!y6))) (i_within y3.2.2.1 (IntKind.wrap .i64 (a0.1 + 1)) (IntKind.wrap .i64 (a0.1 + 100))) (fun y7 => cond (((((!y4) || ((decide (0 < s1)) && (decide (y3.1 ≤ y5.1)))) || (!y6)) || (!y7)) || (decide (6 < (y3.2.2.2.length : Int)))) (Option.map .inr (some false)) (whileP (fun s10 : Int => cond (decide (s10 < (y3.2.2.2.length : Int))) (Option.bind (idx y3.2.2.2 s10) (fun y12 => Option.bind (i_within (y12.size : Int) 1 10) (fun y13 => cond (!y13) (Option.map .inr (Option.map .inr (some false))) (some (.inl (IntKind.wrap .i64 (s10 + 1))))))) (Option.map .inr (some (.inl (IntKind.wrap .i64 (s1 + 1)))))) 0))))))) (Option.map .inr (Option.bind (i_within a0.1 0 100000) (fun y19 => gb y19 (i_within a0.2.1 1 1000) (fun y20 => some ((y19 && y20) && (decide ((a0.2.2.length : Int) ≤ 4)))))))) 0
theorem i_DesksOk_walk (w : World) (a0 : T_Desks) (h0 : GT.rd w [] a0) (r : Bool) (hp : i_DesksOk (GT.dat a0) = some r) : Spec Try.prog 70 [.agg (GT.cells a0).toArray].toArray w [] (IsV (.bool r)) := by
  obtain ⟨a0_1, a0_2, a0_3⟩ := a0
  change Spec _ _ ([Value.agg #[.int .i64 a0_1, .int .i64 a0_2, (TL.hdr a0_3)]] : List Value).toArray w [] _
  refine Spec.intro Try.func70 rfl Try.ntmps70 rfl ?_
  unfold i_DesksOk at hp
  replace hp := dd hp
  refine s2 ?_
  refine bx fun bk1 => ?_
  refine s11 ?_
  refine W_while (σ := Int) GT.dat (fun (v1_0 : Int) => [(10, .int .i64 v1_0)]) (fun (v1_0 : Int) => []) [(1, _), (8, _), (9, _)] [blk bk1 _ _] 0 hp sb ms ?_
  clear hp
  rintro v1_0 x1 hp hx1
  replace hp := dd hp
  refine kq [1, 8, 9, 10] ?_
  refine s5 ?_
  refine kp [1, 8, 9, 10, 11] ?_
  refine W_cond rfl (fun hc2 => ?_) (fun hc2 => ?_)
  · replace hp := cond_t hc2 hp
    refine s6 ?_
    replace hp := idx_bind hp; obtain ⟨⟨u3_1, u3_2, u3_3, u3_4⟩, hy3, hp⟩ := hp
    refine L_idxA (X := a0_3) rfl rfl rfl el31.h (RdT.old h0.2.2) hy3 ?_
    refine L_loadW rfl rfl (RdT.at (RdT.old h0.2.2) (hy3).2) (by exact agg107.h) ?_
    refine al fun bk4 => ?_
    refine s5 ?_
    replace hp := ba hp; obtain ⟨y4, hy4, hp⟩ := hp
    replace hp := idx_gb hp; obtain ⟨⟨u5_1, u5_2, u5_3, u5_4⟩, hy5, hp⟩ := hp
    replace hp := gb_any hp; obtain ⟨y6, hy6, hp⟩ := hp
    replace hp := gb_any hp; obtain ⟨y7, hy7, hp⟩ := hp
    refine W_D0 [61] mix (by kernel_rfl) rfl ?_
    refine s5 ?_
    refine D_callX GC.none fn73.h (OpVs.cons (OpV.t rfl) (OpVs.cons OpV.c (OpVs.cons (OpV.t rfl) (OpVs.nil)))) (by exact fun hg w F hF hM => i_within_walk w u3_1 1 (IntKind.wrap .i64 (a0_2 - 1))  _ hy4) ?_
    refine s9 ?_
    refine D_idxA (X := a0_3) (GC.some rfl rfl) (OpV.s rfl) (OpV.s rfl) el31.h (RdT.old h0.2.2) (fun hg => hy5 (gand (gnot hg.1.2) hg.2)) ?_
    refine s1 ?_
    refine D_load (GC.some rfl rfl) (OpV.s rfl) (fun hg => RdT.at (RdT.old h0.2.2) (hy5 (gand (gnot hg.1.2) hg.2)).2) one3.h rfl ?_
    refine s8 ?_
    refine D_callX (GC.some rfl rfl) fn72.h (OpVs.cons (OpV.s rfl) (OpVs.nil)) (by exact fun hg w F hF hM => i_isClient_walk w u3_2  _ (hy6 (gnot hg.2))) ?_
    refine s11 ?_
    refine D_callX (GC.some rfl rfl) fn73.h (OpVs.cons (OpV.s rfl) (OpVs.cons (OpV.s rfl) (OpVs.cons (OpV.s rfl) (OpVs.nil)))) (by exact fun hg w F hF hM => i_within_walk w u3_3 (IntKind.wrap .i64 (a0_1 + 1)) (IntKind.wrap .i64 (a0_1 + 100))  _ (hy7 (gnot hg.2))) ?_
    refine s5 ?_
    refine D_lenP (X := u3_4) (GC.some rfl rfl) (OpV.s rfl) el25.h ?_
    refine s20 ?_
    refine s20 ?_
    refine s11 ?_
    refine kp [1, 4, 8, 9, 10, 61] ?_
    refine W_cond rfl (fun hc8 => ?_) (fun hc8 => ?_)
    · replace hp := cond_t hc8 hp
      refine s4 ?_
      replace hp := map_any hp; obtain ⟨a9, hp, hx_a9⟩ := hp
      obtain rfl := hx1 _ hx_a9
      obtain rfl := Option.some.inj hp
      refine s1 ?_
      refine res1 rfl (ResOK.tmp rfl) ⟨rfl, rfl⟩ ms
    · replace hp := cond_f hc8 hp
      refine s9 ?_
      refine W_while (σ := Int) GT.dat (fun (v10_0 : Int) => [(65, .int .i64 v10_0)]) (fun (v10_0 : Int) => []) [(1, _), (8, _), (9, _), (10, _), (63, _), (64, _)] [blk bk1 _ _] 0 hp sb ms ?_
      clear hp
      rintro v10_0 x10 hp hx10
      replace hp := dd hp
      refine kq [1, 8, 9, 10, 63, 64, 65] ?_
      refine s5 ?_
      refine kp [1, 8, 9, 10, 63, 64, 65, 66] ?_
      refine W_cond rfl (fun hc11 => ?_) (fun hc11 => ?_)
      · replace hp := cond_t hc11 hp
        refine s5 ?_
        replace hp := idx_bind hp; obtain ⟨u12, hy12, hp⟩ := hp
        refine L_idxA (X := u3_4) rfl rfl rfl el25.h (RdT.snd (RdT.snd (RdT.snd (RdT.of (RdT.old h0.2.2) (hy3).2)))) hy12 ?_
        refine L_load0 rfl rfl (RdT.at (RdT.snd (RdT.snd (RdT.snd (RdT.of (RdT.old h0.2.2) (hy3).2)))) (hy12).2) one9.h rfl ?_
        refine s6 ?_
        replace hp := ba hp; obtain ⟨y13, hy13, hp⟩ := hp
        refine L_callX rfl fn73.h rfl (by exact fun w hw => i_within_walk w (u12.size : Int) 1 10  _ hy13) ?_
        refine s2 ?_
        refine kp [1, 8, 9, 10, 63, 64, 65, 72] ?_
        refine W_cond rfl (fun hc14 => ?_) (fun hc14 => ?_)
        · replace hp := cond_t hc14 hp
          refine s4 ?_
          replace hp := map_any hp; obtain ⟨a15, hp, hx_a15⟩ := hp
          obtain rfl := hx10 _ hx_a15
          replace hp := map_any hp; obtain ⟨a16, hp, hx_a16⟩ := hp
          obtain rfl := hx1 _ hx_a16
          obtain rfl := Option.some.inj hp
          refine s1 ?_
          refine res1 rfl (ResOK.tmp rfl) ⟨rfl, rfl⟩ ms
        · replace hp := cond_f hc14 hp
          refine s5 ?_
          exact ⟨IntKind.wrap .i64 (v10_0 + 1), sb, (.sub ms), some_eq hp⟩
      · replace hp := cond_f hc11 hp
        refine W_exit ?_
        replace hp := map_any hp; obtain ⟨a17, hp, hx_a17⟩ := hp
        obtain rfl := hx10 _ hx_a17
        refine s4 ?_
        exact ⟨IntKind.wrap .i64 (v1_0 + 1), sb, (.sub ms), some_eq hp⟩
  · replace hp := cond_f hc2 hp
    refine W_exit ?_
    replace hp := map_any hp; obtain ⟨a18, hp, hx_a18⟩ := hp
    obtain rfl := hx1 _ hx_a18
    refine s1 ?_
    replace hp := ba hp; obtain ⟨y19, hy19, hp⟩ := hp
    replace hp := gb_any hp; obtain ⟨y20, hy20, hp⟩ := hp
    refine W_D0 [2] mix (by kernel_rfl) rfl ?_
    refine s2 ?_
    refine D_callX GC.none fn73.h (OpVs.cons (OpV.t rfl) (OpVs.cons OpV.c (OpVs.cons OpV.c (OpVs.nil)))) (by exact fun hg w F hF hM => i_within_walk w a0_1 0 100000  _ hy19) ?_
    refine s3 ?_
    refine D_callX (GC.some rfl rfl) fn73.h (OpVs.cons (OpV.s rfl) (OpVs.cons OpV.c (OpVs.cons OpV.c (OpVs.nil)))) (by exact fun hg w F hF hM => i_within_walk w a0_2 1 1000  _ (hy20 hg.2)) ?_
    refine s4 ?_
    refine D_lenP (X := a0_3) (GC.some rfl rfl) (OpV.s rfl) el31.h ?_
    refine s20 ?_
    obtain rfl := Option.some.inj hp
    refine s1 ?_
    refine res1 rfl (ResOK.tmp rfl) ⟨rfl, rfl⟩ ms
noncomputable def i_copyTexts (a0 : List ByteArray) : Option (List ByteArray) :=
  Option.bind (appP ([] : List ByteArray) a0) (fun y2 => some y2)
theorem i_copyTexts_walk (w : World) (a0 : TL ByteArray) (h0 : GT.rd w [] a0) (r : (List ByteArray)) (hp : i_copyTexts (GT.dat a0) = some r) : Spec Try.prog 125 [(TL.hdr a0)].toArray w [] (fun v M => ∃ (x0 : TL ByteArray), v = (TL.hdr x0) ∧ GT.dat x0 = r ∧ M = [treeH x0]) := by
  refine Spec.intro Try.func125 rfl Try.ntmps125 rfl ?_
  unfold i_copyTexts at hp
  replace hp := dd hp
  refine s2 ?_
  refine L_assign (v := (TL.hdr (TL.nil ByteArray 0))) rfl rfl ?_
  refine s4 ?_
  refine L_conv (M' := treeH (TL.nil ByteArray 0) :: _) (fun w h => addNilT _ h) ?_
  replace hp := ba hp; obtain ⟨y2, hy2, hp⟩ := hp
  refine L_appT (X := (TL.nil ByteArray 0)) (Y := a0) rfl rfl rfl el25.h rfl rfl pk (RdT.old h0) hy2 (by decide) (fun X1 hdX1 => ?_)
  subst hdX1
  refine s2 ?_
  obtain rfl := Option.some.inj hp
  refine s1 ?_
  refine res1 rfl (ResOK.tmp rfl) ⟨X1, rfl, rfl, rfl⟩ ms
noncomputable def i_copyDesks (a0 : D_Desks) : Option D_Desks :=
  whileP (fun s1 : Int × (List D_Sess) => cond (decide (s1.1 < (a0.2.2.length : Int))) (Option.bind (idx a0.2.2 s1.1) (fun y3 => Option.bind (i_copyTexts y3.2.2.2) (fun y4 => Option.bind (appP s1.2 [(y3.1, y3.2.1, y3.2.2.1, y4)]) (fun y6 => some (.inl ((IntKind.wrap .i64 (s1.1 + 1), y6))))))) (Option.map .inr (some (a0.1, a0.2.1, s1.2)))) (0, ([] : List D_Sess))
theorem i_copyDesks_walk (w : World) (a0 : T_Desks) (h0 : GT.rd w [] a0) (r : D_Desks) (hp : i_copyDesks (GT.dat a0) = some r) : Spec Try.prog 71 [.agg (GT.cells a0).toArray].toArray w [] (fun v M => ∃ (x0 : T_Desks), v = .agg (GT.cells x0).toArray ∧ GT.dat x0 = r ∧ M = [treeH x0]) := by
  obtain ⟨a0_1, a0_2, a0_3⟩ := a0
  change Spec _ _ ([Value.agg #[.int .i64 a0_1, .int .i64 a0_2, (TL.hdr a0_3)]] : List Value).toArray w [] _
  refine Spec.intro Try.func71 rfl Try.ntmps71 rfl ?_
  unfold i_copyDesks at hp
  replace hp := dd hp
  refine s2 ?_
  refine bx fun bk1 => ?_
  refine al fun bk2 => ?_
  refine s7 ?_
  refine L_build (xs := [(0, .tmp 7), (1, .tmp 9)]) (cs := [.int .i64 a0_1, .int .i64 a0_2, (TL.hdr (TL.nil T_Sess 0))]) rfl rfl bld33.h rfl ?_
  refine al fun bk3 => ?_
  refine s11 ?_
  refine W_conv (M' := treeH (TL.nil T_Sess 0) :: _) (fun w h => addNilT (τ := T_Sess) 0 h) ?_
  refine W_while (σ := Int × (TL T_Sess)) GT.dat (fun ((v1_0, v1_1) : Int × (TL T_Sess)) => [(14, .int .i64 v1_0)]) (fun ((v1_0, v1_1) : Int × (TL T_Sess)) => [blk bk3 [.int .i64 a0_1, .int .i64 a0_2, (TL.hdr v1_1)] 33, treeH v1_1]) [(2, _), (3, _), (12, _), (13, _)] [blk bk2 _ _] (0, (TL.nil T_Sess 0)) hp sb ms ?_
  clear hp
  rintro ⟨v1_0, v1_1⟩ x1 hp hx1
  replace hp := dd hp
  refine kq [2, 3, 12, 13, 14] ?_
  refine s5 ?_
  refine kp [2, 3, 12, 13, 14, 15] ?_
  refine W_cond rfl (fun hc2 => ?_) (fun hc2 => ?_)
  · replace hp := cond_t hc2 hp
    refine s5 ?_
    replace hp := idx_bind hp; obtain ⟨⟨u3_1, u3_2, u3_3, u3_4⟩, hy3, hp⟩ := hp
    refine L_idxA (X := a0_3) rfl rfl rfl el31.h (RdT.old h0.2.2) hy3 ?_
    refine L_loadW rfl rfl (RdT.at (RdT.old h0.2.2) (hy3).2) (by exact agg107.h) ?_
    refine al fun bk5 => ?_
    refine s6 ?_
    replace hp := ba hp; obtain ⟨y4, hy4, hp⟩ := hp
    refine L_callR rfl fn125.h rfl (by exact fun w hw => i_copyTexts_walk w u3_4 (RdT.now (RdT.snd (RdT.snd (RdT.snd (RdT.of (RdT.old h0.2.2) (hy3).2)))) hw) _ hy4) ?_
    rintro _ _ ⟨y4x0, rfl, rfl, rfl⟩
    refine sc ?_
    replace hp := dd hp
    refine s7 ?_
    refine L_buildSlice1 rfl rfl el31.h rfl (by decide) (by decide) rfl (fun bb25 => ?_)
    replace hp := ba hp; obtain ⟨y6, hy6, hp⟩ := hp
    refine jL ((u3_1, u3_2, u3_3, y4x0) : T_Sess) ?_
    refine L_app1 (X := v1_1) ((u3_1, u3_2, u3_3, y4x0) : T_Sess) rfl rfl rfl el31.h rfl rfl pk mm pk hy6 (by decide) (fun X5 hdX5 => ?_)
    subst hdX5
    refine s7 ?_
    exact ⟨(IntKind.wrap .i64 (v1_0 + 1), X5), sb, (.sub ms), some_eq hp⟩
  · replace hp := cond_f hc2 hp
    refine W_exit ?_
    replace hp := map_any hp; obtain ⟨a7, hp, hx_a7⟩ := hp
    obtain rfl := hx1 _ hx_a7
    refine s5 ?_
    obtain rfl := Option.some.inj hp
    refine jW ((a0_1, a0_2, v1_1) : T_Desks) ?_
    refine s1 ?_
    refine res1 rfl (ResOK.cell rfl mm (by exact agg33.h)) ⟨(a0_1, a0_2, v1_1), rfl, rfl, rfl⟩ ms
noncomputable def i_Desks_at_c1 (a0 : D_Sess) (c0 : Int) : Option Bool :=
  some (decide (a0.1 = c0))
theorem i_Desks_at_c1_walk (w : World) (a0 : T_Sess) (b0 : Nat) (c0 : Int) (h0 : GT.rd w [] a0) (hb0 : Cells w [] b0 0 (GT.cells c0)) (hc0 : GT.rd w [] c0) (r : Bool) (hp : i_Desks_at_c1 (GT.dat a0) c0 = some r) : Spec Try.prog 127 ([(.agg (GT.cells a0).toArray : Value)] ++ [Value.pointer (some ⟨b0, 0, none⟩)]).toArray w [] (IsV (.bool r)) := by
  obtain ⟨a0_1, a0_2, a0_3, a0_4⟩ := a0
  change Spec _ _ ([Value.agg #[.int .i64 a0_1, .int .i64 a0_2, .int .i64 a0_3, (TL.hdr a0_4)], Value.pointer (some ⟨b0, 0, none⟩)] : List Value).toArray w [] _
  refine Spec.intro Try.func127 rfl Try.ntmps127 rfl ?_
  unfold i_Desks_at_c1 at hp
  replace hp := dd hp
  refine s2 ?_
  refine bx fun bk2 => ?_
  refine s6 ?_
  refine L_load0 rfl rfl (RdC.old hb0) one3.h rfl ?_
  refine s3 ?_
  obtain rfl := Option.some.inj hp
  refine s1 ?_
  refine res1 rfl (ResOK.tmp rfl) ⟨rfl, rfl⟩ ms
noncomputable def sl_IndexFunc_implSessimplSess (a0 : List D_Sess) (a1 : D_Sess → Option Bool) : Option Int :=
  whileP (fun s1 : Int => cond (decide (s1 < (a0.length : Int))) (Option.bind (idx a0 s1) (fun y3 => Option.bind (a1 (y3.1, y3.2.1, y3.2.2.1, y3.2.2.2)) (fun y4 => cond y4 (Option.map .inr (some s1)) (some (.inl (IntKind.wrap .i64 (s1 + 1))))))) (Option.map .inr (some (-1)))) 0
theorem sl_IndexFunc_implSessimplSess_walk (w : World) (a0 : TL T_Sess) (f1 : Nat) (cs1 : List Value) (a1 : D_Sess → Option Bool) (h0 : GT.rd w [] a0) (hf1 : IsFn Try.prog f1) (hk1 : ∀ (w' : World) (F : List HP) (u0 : T_Sess) (v : Bool), Holds w [] F w' → GT.rd w' [] u0 → a1 (GT.dat u0) = some v → Spec Try.prog f1 ([Value.agg (GT.cells u0).toArray] ++ cs1).toArray w' [] (IsV (.bool v))) (r : Int) (hp : sl_IndexFunc_implSessimplSess (GT.dat a0) a1 = some r) : Spec Try.prog 126 [(TL.hdr a0), .func (.func f1) #[] cs1.toArray].toArray w [] (IsV (.int .i64 r)) := by
  refine Spec.intro Try.func126 rfl Try.ntmps126 rfl ?_
  unfold sl_IndexFunc_implSessimplSess at hp
  replace hp := dd hp
  refine s12 ?_
  refine W_while (σ := Int) GT.dat (fun (v1_0 : Int) => [(8, .int .i64 v1_0)]) (fun (v1_0 : Int) => []) [(0, _), (1, _), (7, _)] [] 0 hp sb ms ?_
  clear hp
  rintro v1_0 x1 hp hx1
  replace hp := dd hp
  refine kq [0, 1, 7, 8] ?_
  refine s5 ?_
  refine kp [0, 1, 7, 8, 9] ?_
  refine W_cond rfl (fun hc2 => ?_) (fun hc2 => ?_)
  · replace hp := cond_t hc2 hp
    refine s13 ?_
    replace hp := idx_bind hp; obtain ⟨⟨u3_1, u3_2, u3_3, u3_4⟩, hy3, hp⟩ := hp
    refine L_idxA (X := a0) rfl rfl rfl el31.h (RdT.old h0) hy3 ?_
    refine L_loadW rfl rfl (RdT.at (RdT.old h0) (hy3).2) (by exact agg107.h) ?_
    replace hp := ba hp; obtain ⟨y4, hy4, hp⟩ := hp
    refine L_callVX rfl rfl hf1 rfl (by exact fun w hw => hk1 w _ (u3_1, u3_2, u3_3, u3_4) y4 hw (RdT.now (RdT.pair RdT.int (RdT.pair RdT.int (RdT.pair RdT.int (RdT.snd (RdT.snd (RdT.snd (RdT.of (RdT.old h0) (hy3).2))))))) hw) hy4) ?_
    refine s1 ?_
    refine kp [0, 1, 5, 7, 8, 16] ?_
    refine W_cond rfl (fun hc5 => ?_) (fun hc5 => ?_)
    · replace hp := cond_t hc5 hp
      refine s5 ?_
      replace hp := map_any hp; obtain ⟨a6, hp, hx_a6⟩ := hp
      obtain rfl := hx1 _ hx_a6
      obtain rfl := Option.some.inj hp
      refine s1 ?_
      refine res1 rfl (ResOK.tmp rfl) ⟨rfl, rfl⟩ ms
    · replace hp := cond_f hc5 hp
      refine s5 ?_
      exact ⟨IntKind.wrap .i64 (v1_0 + 1), sb, (.sub ms), some_eq hp⟩
  · replace hp := cond_f hc2 hp
    refine W_exit ?_
    replace hp := map_any hp; obtain ⟨a7, hp, hx_a7⟩ := hp
    obtain rfl := hx1 _ hx_a7
    refine s4 ?_
    obtain rfl := Option.some.inj hp
    refine s1 ?_
    refine res1 rfl (ResOK.tmp rfl) ⟨rfl, rfl⟩ ms
noncomputable def i_Desks_at (a0 : D_Desks) (a1 : Int) : Option Int :=
  Option.bind (sl_IndexFunc_implSessimplSess a0.2.2 (fun z0 => i_Desks_at_c1 z0 a1)) (fun y1 => some y1)
theorem i_Desks_at_walk (w : World) (a0 : T_Desks) (a1 : Int) (h0 : GT.rd w [] a0) (r : Int) (hp : i_Desks_at (GT.dat a0) a1 = some r) : Spec Try.prog 74 [.agg (GT.cells a0).toArray, .int .i64 a1].toArray w [] (IsV (.int .i64 r)) := by
  obtain ⟨a0_1, a0_2, a0_3⟩ := a0
  change Spec _ _ ([Value.agg #[.int .i64 a0_1, .int .i64 a0_2, (TL.hdr a0_3)], .int .i64 a1] : List Value).toArray w [] _
  refine Spec.intro Try.func74 rfl Try.ntmps74 rfl ?_
  unfold i_Desks_at at hp
  replace hp := dd hp
  refine s2 ?_
  refine bx fun bk2 => ?_
  refine bx fun bk3 => ?_
  refine s6 ?_
  refine L_makeFunc (fs := []) (cs := [.tmp 3]) rfl rfl rfl ?_
  replace hp := ba hp; obtain ⟨y1, hy1, hp⟩ := hp
  refine L_callX rfl fn126.h rfl (by exact fun w hw => sl_IndexFunc_implSessimplSess_walk w a0_3 127 [Value.pointer (some ⟨bk3, 0, none⟩)] (fun z0 => i_Desks_at_c1 z0 a1) (RdT.now (RdT.old h0.2.2) hw) fn127.h (fun w' F u0 v hF hu0 hv => i_Desks_at_c1_walk w' u0 bk3 a1 hu0 ((cells_of_blk mm hw.sees).carry hF) (rd_carry (RdT.now RdT.int hw) hF) v hv) _ hy1) ?_
  refine s2 ?_
  obtain rfl := Option.some.inj hp
  refine s1 ?_
  refine res1 rfl (ResOK.tmp rfl) ⟨rfl, rfl⟩ ms
noncomputable def i_Joined (a0 : List ByteArray) : Option ByteArray :=
  whileP (fun s1 : ByteArray × Int => cond (decide (s1.2 < (a0.length : Int))) (Option.bind (idx a0 s1.2) (fun y3 => Option.bind (catP s1.1 y3) (fun y4 => some (.inl ((y4, IntKind.wrap .i64 (s1.2 + 1))))))) (Option.map .inr (some s1.1))) (ByteArray.empty, 0)
theorem i_Joined_walk (w : World) (a0 : TL ByteArray) (h0 : GT.rd w [] a0) (r : ByteArray) (hp : i_Joined (GT.dat a0) = some r) : Spec Try.prog 75 [(TL.hdr a0)].toArray w [] (IsV (.string r)) := by
  refine Spec.intro Try.func75 rfl Try.ntmps75 rfl ?_
  unfold i_Joined at hp
  replace hp := dd hp
  refine s16 ?_
  refine W_while (σ := ByteArray × Int) GT.dat (fun ((v1_0, v1_1) : ByteArray × Int) => [(3, .string v1_0), (8, .int .i64 v1_1)]) (fun ((v1_0, v1_1) : ByteArray × Int) => []) [(6, _), (7, _)] [] (ByteArray.empty, 0) hp sb ms ?_
  clear hp
  rintro ⟨v1_0, v1_1⟩ x1 hp hx1
  replace hp := dd hp
  refine kq [3, 6, 7, 8] ?_
  refine s5 ?_
  refine kp [3, 6, 7, 8, 9] ?_
  refine W_cond rfl (fun hc2 => ?_) (fun hc2 => ?_)
  · replace hp := cond_t hc2 hp
    refine s5 ?_
    replace hp := idx_bind hp; obtain ⟨u3, hy3, hp⟩ := hp
    refine L_idxA (X := a0) rfl rfl rfl el25.h (RdT.old h0) hy3 ?_
    refine L_load0 rfl rfl (RdT.at (RdT.old h0) (hy3).2) one9.h rfl ?_
    refine s5 ?_
    replace hp := ba hp; obtain ⟨y4, hy4, hp⟩ := hp
    refine L_binV rfl rfl rfl (bv_saddP hy4) ?_
    refine s6 ?_
    exact ⟨(y4, IntKind.wrap .i64 (v1_1 + 1)), sb, (.sub ms), some_eq hp⟩
  · replace hp := cond_f hc2 hp
    refine W_exit ?_
    replace hp := map_any hp; obtain ⟨a5, hp, hx_a5⟩ := hp
    obtain rfl := hx1 _ hx_a5
    refine s5 ?_
    obtain rfl := Option.some.inj hp
    refine s1 ?_
    refine res1 rfl (ResOK.tmp rfl) ⟨rfl, rfl⟩ ms
noncomputable def s_DesksOk (a0 : D_Desks) : Option Bool :=
  Option.bind (s_l1In a0.1 0 100000) (fun y1 => gb (!(!y1)) (s_l1In a0.2.1 1 1000) (fun y2 => cond (((!y1) || (!y2)) || (decide (4 < (a0.2.2.length : Int)))) (some false) (whileP (fun s4 : Int => cond (decide (s4 < (a0.2.2.length : Int))) (Option.bind (idx a0.2.2 s4) (fun y6 => Option.bind (s_l1In y6.1 1 (IntKind.wrap .i64 (a0.2.1 - 1))) (fun y7 => gb ((!(!y7)) && (decide (0 < s4))) (idx a0.2.2 (IntKind.wrap .i64 (s4 - 1))) (fun y8 => gb (!((!y7) || ((decide (0 < s4)) && (decide (y6.1 ≤ y8.1))))) (s_l1In y6.2.1 1 9) (fun y9 => gb (!(((!y7) || ((decide (0 < s4)) && (decide (y6.1 ≤ y8.1)))) || (!y9))) (s_l1In y6.2.2.1 (IntKind.wrap .i64 (a0.1 + 1)) (IntKind.wrap .i64 (a0.1 + 100))) (fun y10 => cond (((((!y7) || ((decide (0 < s4)) && (decide (y6.1 ≤ y8.1)))) || (!y9)) || (!y10)) || (decide (6 < (y6.2.2.2.length : Int)))) (Option.map .inr (some false)) (whileP (fun s13 : Int => cond (decide (s13 < (y6.2.2.2.length : Int))) (Option.bind (idx y6.2.2.2 s13) (fun y15 => Option.bind (s_l1In (y15.size : Int) 1 10) (fun y16 => cond (!y16) (Option.map .inr (Option.map .inr (some false))) (some (.inl (IntKind.wrap .i64 (s13 + 1))))))) (Option.map .inr (some (.inl (IntKind.wrap .i64 (s4 + 1)))))) 0))))))) (Option.map .inr (some true))) 0)))
theorem s_DesksOk_walk (w : World) (a0 : T_Desks) (h0 : GT.rd w [] a0) (r : Bool) (hp : s_DesksOk (GT.dat a0) = some r) : Spec Try.prog 21 [.agg (GT.cells a0).toArray].toArray w [] (IsV (.bool r)) := by
  obtain ⟨a0_1, a0_2, a0_3⟩ := a0
  change Spec _ _ ([Value.agg #[.int .i64 a0_1, .int .i64 a0_2, (TL.hdr a0_3)]] : List Value).toArray w [] _
  refine Spec.intro Try.func21 rfl Try.ntmps21 rfl ?_
  unfold s_DesksOk at hp
  replace hp := dd hp
  refine s2 ?_
  refine bx fun bk1 => ?_
  refine s4 ?_
  replace hp := ba hp; obtain ⟨y1, hy1, hp⟩ := hp
  replace hp := gb_any hp; obtain ⟨y2, hy2, hp⟩ := hp
  refine W_D0 [21] mix (by kernel_rfl) rfl ?_
  refine s2 ?_
  refine D_callX GC.none fn77.h (OpVs.cons (OpV.t rfl) (OpVs.cons OpV.c (OpVs.cons OpV.c (OpVs.nil)))) (by exact fun hg w F hF hM => s_l1In_walk w a0_1 0 100000  _ hy1) ?_
  refine s4 ?_
  refine D_callX (GC.some rfl rfl) fn77.h (OpVs.cons (OpV.s rfl) (OpVs.cons OpV.c (OpVs.cons OpV.c (OpVs.nil)))) (by exact fun hg w F hF hM => s_l1In_walk w a0_2 1 1000  _ (hy2 (gnot hg.2))) ?_
  refine s5 ?_
  refine D_lenP (X := a0_3) (GC.some rfl rfl) (OpV.s rfl) el31.h ?_
  refine s20 ?_
  refine kp [1, 21] ?_
  refine W_cond rfl (fun hc3 => ?_) (fun hc3 => ?_)
  · replace hp := cond_t hc3 hp
    refine s4 ?_
    obtain rfl := Option.some.inj hp
    refine s1 ?_
    refine res1 rfl (ResOK.tmp rfl) ⟨rfl, rfl⟩ ms
  · replace hp := cond_f hc3 hp
    refine s7 ?_
    refine W_while (σ := Int) GT.dat (fun (v4_0 : Int) => [(3, .int .i64 v4_0)]) (fun (v4_0 : Int) => []) [(1, _)] [blk bk1 _ _] 0 hp sb ms ?_
    clear hp
    rintro v4_0 x4 hp hx4
    replace hp := dd hp
    refine kq [1, 3] ?_
    refine s9 ?_
    refine kp [1, 3, 26] ?_
    refine W_cond rfl (fun hc5 => ?_) (fun hc5 => ?_)
    · replace hp := cond_t hc5 hp
      refine s8 ?_
      replace hp := idx_bind hp; obtain ⟨⟨u6_1, u6_2, u6_3, u6_4⟩, hy6, hp⟩ := hp
      refine L_idxA (X := a0_3) rfl rfl rfl el31.h (RdT.old h0.2.2) hy6 ?_
      refine L_loadW rfl rfl (RdT.at (RdT.old h0.2.2) (hy6).2) (by exact agg107.h) ?_
      refine al fun bk4 => ?_
      refine s4 ?_
      replace hp := ba hp; obtain ⟨y7, hy7, hp⟩ := hp
      replace hp := idx_gb hp; obtain ⟨⟨u8_1, u8_2, u8_3, u8_4⟩, hy8, hp⟩ := hp
      replace hp := gb_any hp; obtain ⟨y9, hy9, hp⟩ := hp
      replace hp := gb_any hp; obtain ⟨y10, hy10, hp⟩ := hp
      refine W_D0 [80] mix (by kernel_rfl) rfl ?_
      refine s5 ?_
      refine D_callX GC.none fn77.h (OpVs.cons (OpV.t rfl) (OpVs.cons OpV.c (OpVs.cons (OpV.t rfl) (OpVs.nil)))) (by exact fun hg w F hF hM => s_l1In_walk w u6_1 1 (IntKind.wrap .i64 (a0_2 - 1))  _ hy7) ?_
      refine s9 ?_
      refine D_idxA (X := a0_3) (GC.some rfl rfl) (OpV.s rfl) (OpV.s rfl) el31.h (RdT.old h0.2.2) (fun hg => hy8 (gand (gnot hg.1.2) hg.2)) ?_
      refine s1 ?_
      refine D_load (GC.some rfl rfl) (OpV.s rfl) (fun hg => RdT.at (RdT.old h0.2.2) (hy8 (gand (gnot hg.1.2) hg.2)).2) one3.h rfl ?_
      refine s8 ?_
      refine D_callX (GC.some rfl rfl) fn77.h (OpVs.cons (OpV.s rfl) (OpVs.cons OpV.c (OpVs.cons OpV.c (OpVs.nil)))) (by exact fun hg w F hF hM => s_l1In_walk w u6_2 1 9  _ (hy9 (gnot hg.2))) ?_
      refine s11 ?_
      refine D_callX (GC.some rfl rfl) fn77.h (OpVs.cons (OpV.s rfl) (OpVs.cons (OpV.s rfl) (OpVs.cons (OpV.s rfl) (OpVs.nil)))) (by exact fun hg w F hF hM => s_l1In_walk w u6_3 (IntKind.wrap .i64 (a0_1 + 1)) (IntKind.wrap .i64 (a0_1 + 100))  _ (hy10 (gnot hg.2))) ?_
      refine s5 ?_
      refine D_lenP (X := u6_4) (GC.some rfl rfl) (OpV.s rfl) el25.h ?_
      refine s20 ?_
      refine s20 ?_
      refine s11 ?_
      refine kp [1, 3, 4, 80] ?_
      refine W_cond rfl (fun hc11 => ?_) (fun hc11 => ?_)
      · replace hp := cond_t hc11 hp
        refine s4 ?_
        replace hp := map_any hp; obtain ⟨a12, hp, hx_a12⟩ := hp
        obtain rfl := hx4 _ hx_a12
        obtain rfl := Option.some.inj hp
        refine s1 ?_
        refine res1 rfl (ResOK.tmp rfl) ⟨rfl, rfl⟩ ms
      · replace hp := cond_f hc11 hp
        refine s6 ?_
        refine W_while (σ := Int) GT.dat (fun (v13_0 : Int) => [(5, .int .i64 v13_0)]) (fun (v13_0 : Int) => []) [(1, _), (3, _), (4, _)] [blk bk1 _ _, blk bk4 _ _] 0 hp sb ms ?_
        clear hp
        rintro v13_0 x13 hp hx13
        replace hp := dd hp
        refine kq [1, 3, 4, 5] ?_
        refine s9 ?_
        refine kp [1, 3, 4, 5, 85] ?_
        refine W_cond rfl (fun hc14 => ?_) (fun hc14 => ?_)
        · replace hp := cond_t hc14 hp
          refine s8 ?_
          replace hp := idx_bind hp; obtain ⟨u15, hy15, hp⟩ := hp
          refine L_idxA (X := u6_4) rfl rfl rfl el25.h (RdT.snd (RdT.snd (RdT.snd (RdT.of (RdT.old h0.2.2) (hy6).2)))) hy15 ?_
          refine L_load0 rfl rfl (RdT.at (RdT.snd (RdT.snd (RdT.snd (RdT.of (RdT.old h0.2.2) (hy6).2)))) (hy15).2) one9.h rfl ?_
          refine s1 ?_
          replace hp := ba hp; obtain ⟨y16, hy16, hp⟩ := hp
          refine L_callX rfl fn77.h rfl (by exact fun w hw => s_l1In_walk w (u15.size : Int) 1 10  _ hy16) ?_
          refine s2 ?_
          refine kp [1, 3, 4, 5, 95] ?_
          refine W_cond rfl (fun hc17 => ?_) (fun hc17 => ?_)
          · replace hp := cond_t hc17 hp
            refine s4 ?_
            replace hp := map_any hp; obtain ⟨a18, hp, hx_a18⟩ := hp
            obtain rfl := hx13 _ hx_a18
            replace hp := map_any hp; obtain ⟨a19, hp, hx_a19⟩ := hp
            obtain rfl := hx4 _ hx_a19
            obtain rfl := Option.some.inj hp
            refine s1 ?_
            refine res1 rfl (ResOK.tmp rfl) ⟨rfl, rfl⟩ ms
          · replace hp := cond_f hc17 hp
            refine s6 ?_
            exact ⟨IntKind.wrap .i64 (v13_0 + 1), sb, (.sub ms), some_eq hp⟩
        · replace hp := cond_f hc14 hp
          refine W_exit ?_
          replace hp := map_any hp; obtain ⟨a20, hp, hx_a20⟩ := hp
          obtain rfl := hx13 _ hx_a20
          refine s5 ?_
          exact ⟨IntKind.wrap .i64 (v4_0 + 1), sb, (.sub ms), some_eq hp⟩
    · replace hp := cond_f hc5 hp
      refine W_exit ?_
      replace hp := map_any hp; obtain ⟨a21, hp, hx_a21⟩ := hp
      obtain rfl := hx4 _ hx_a21
      refine s4 ?_
      obtain rfl := Option.some.inj hp
      refine s1 ?_
      refine res1 rfl (ResOK.tmp rfl) ⟨rfl, rfl⟩ ms
noncomputable def s_l29Copy (a0 : D_Desks) : Option D_Desks :=
  whileP (fun s1 : Int × (List D_Sess) => cond (decide (s1.1 < (a0.2.2.length : Int))) (Option.bind (idx a0.2.2 s1.1) (fun y3 => Option.bind (some ([] : List ByteArray)) (fun y5 => Option.bind (appP y5 y3.2.2.2) (fun y7 => Option.bind (appP s1.2 [(y3.1, y3.2.1, y3.2.2.1, y7)]) (fun y9 => some (.inl ((IntKind.wrap .i64 (s1.1 + 1), y9)))))))) (Option.map .inr (some (a0.1, a0.2.1, s1.2)))) (0, ([] : List D_Sess))
theorem s_l29Copy_walk (w : World) (a0 : T_Desks) (h0 : GT.rd w [] a0) (r : D_Desks) (hp : s_l29Copy (GT.dat a0) = some r) : Spec Try.prog 161 [.agg (GT.cells a0).toArray].toArray w [] (fun v M => ∃ (x0 : T_Desks), v = .agg (GT.cells x0).toArray ∧ GT.dat x0 = r ∧ M = [treeH x0]) := by
  obtain ⟨a0_1, a0_2, a0_3⟩ := a0
  change Spec _ _ ([Value.agg #[.int .i64 a0_1, .int .i64 a0_2, (TL.hdr a0_3)]] : List Value).toArray w [] _
  refine Spec.intro Try.func161 rfl Try.ntmps161 rfl ?_
  unfold s_l29Copy at hp
  replace hp := dd hp
  refine s2 ?_
  refine bx fun bk1 => ?_
  refine al fun bk2 => ?_
  refine s7 ?_
  refine L_build (xs := [(0, .tmp 7), (1, .tmp 9)]) (cs := [.int .i64 a0_1, .int .i64 a0_2, (TL.hdr (TL.nil T_Sess 0))]) rfl rfl bld33.h rfl ?_
  refine al fun bk3 => ?_
  refine s8 ?_
  refine W_conv (M' := treeH (TL.nil T_Sess 0) :: _) (fun w h => addNilT (τ := T_Sess) 0 h) ?_
  refine W_while (σ := Int × (TL T_Sess)) GT.dat (fun ((v1_0, v1_1) : Int × (TL T_Sess)) => [(4, .int .i64 v1_0)]) (fun ((v1_0, v1_1) : Int × (TL T_Sess)) => [blk bk3 [.int .i64 a0_1, .int .i64 a0_2, (TL.hdr v1_1)] 33, treeH v1_1]) [(1, _), (2, _), (3, _)] [blk bk1 _ _, blk bk2 _ _] (0, (TL.nil T_Sess 0)) hp sb ms ?_
  clear hp
  rintro ⟨v1_0, v1_1⟩ x1 hp hx1
  replace hp := dd hp
  refine kq [1, 2, 3, 4] ?_
  refine s9 ?_
  refine kp [1, 2, 3, 4, 15] ?_
  refine W_cond rfl (fun hc2 => ?_) (fun hc2 => ?_)
  · replace hp := cond_t hc2 hp
    refine s8 ?_
    replace hp := idx_bind hp; obtain ⟨⟨u3_1, u3_2, u3_3, u3_4⟩, hy3, hp⟩ := hp
    refine L_idxA (X := a0_3) rfl rfl rfl el31.h (RdT.old h0.2.2) hy3 ?_
    refine L_loadW rfl rfl (RdT.at (RdT.old h0.2.2) (hy3).2) (by exact agg107.h) ?_
    refine al fun bk5 => ?_
    refine s4 ?_
    replace hp := ba hp; obtain ⟨y5, hy5, hp⟩ := hp
    refine L_mk0 ByteArray rfl el25.h (fun X4 hdX4 => ?_)
    obtain rfl : GT.dat X4 = y5 := hdX4.trans (Option.some.inj hy5)
    clear hy5 hdX4
    refine s2 ?_
    replace hp := ba hp; obtain ⟨y7, hy7, hp⟩ := hp
    refine L_appT (X := X4) (Y := u3_4) rfl rfl rfl el25.h rfl rfl pk (RdT.snd (RdT.snd (RdT.snd (RdT.of (RdT.old h0.2.2) (hy3).2)))) hy7 (by decide) (fun X6 hdX6 => ?_)
    subst hdX6
    refine s7 ?_
    refine L_buildSlice1 rfl rfl el31.h rfl (by decide) (by decide) rfl (fun bb31 => ?_)
    replace hp := ba hp; obtain ⟨y9, hy9, hp⟩ := hp
    refine jL ((u3_1, u3_2, u3_3, X6) : T_Sess) ?_
    refine L_app1 (X := v1_1) ((u3_1, u3_2, u3_3, X6) : T_Sess) rfl rfl rfl el31.h rfl rfl pk mm pk hy9 (by decide) (fun X8 hdX8 => ?_)
    subst hdX8
    refine s8 ?_
    exact ⟨(IntKind.wrap .i64 (v1_0 + 1), X8), sb, (.sub ms), some_eq hp⟩
  · replace hp := cond_f hc2 hp
    refine W_exit ?_
    replace hp := map_any hp; obtain ⟨a10, hp, hx_a10⟩ := hp
    obtain rfl := hx1 _ hx_a10
    refine s5 ?_
    obtain rfl := Option.some.inj hp
    refine jW ((a0_1, a0_2, v1_1) : T_Desks) ?_
    refine s1 ?_
    refine res1 rfl (ResOK.cell rfl mm (by exact agg33.h)) ⟨(a0_1, a0_2, v1_1), rfl, rfl, rfl⟩ ms
noncomputable def s_l29At (a0 : D_Desks) (a1 : Int) : Option Int :=
  whileP (fun s1 : Int => cond (decide (s1 < (a0.2.2.length : Int))) (Option.bind (idx a0.2.2 s1) (fun y3 => cond (decide (y3.1 = a1)) (Option.map .inr (some s1)) (some (.inl (IntKind.wrap .i64 (s1 + 1)))))) (Option.map .inr (some (-1)))) 0
theorem s_l29At_walk (w : World) (a0 : T_Desks) (a1 : Int) (h0 : GT.rd w [] a0) (r : Int) (hp : s_l29At (GT.dat a0) a1 = some r) : Spec Try.prog 162 [.agg (GT.cells a0).toArray, .int .i64 a1].toArray w [] (IsV (.int .i64 r)) := by
  obtain ⟨a0_1, a0_2, a0_3⟩ := a0
  change Spec _ _ ([Value.agg #[.int .i64 a0_1, .int .i64 a0_2, (TL.hdr a0_3)], .int .i64 a1] : List Value).toArray w [] _
  refine Spec.intro Try.func162 rfl Try.ntmps162 rfl ?_
  unfold s_l29At at hp
  replace hp := dd hp
  refine s2 ?_
  refine bx fun bk2 => ?_
  refine s8 ?_
  refine W_while (σ := Int) GT.dat (fun (v1_0 : Int) => [(5, .int .i64 v1_0)]) (fun (v1_0 : Int) => []) [(1, _), (2, _)] [blk bk2 _ _] 0 hp sb ms ?_
  clear hp
  rintro v1_0 x1 hp hx1
  replace hp := dd hp
  refine kq [1, 2, 5] ?_
  refine s9 ?_
  refine kp [1, 2, 5, 10] ?_
  refine W_cond rfl (fun hc2 => ?_) (fun hc2 => ?_)
  · replace hp := cond_t hc2 hp
    refine s8 ?_
    replace hp := idx_bind hp; obtain ⟨⟨u3_1, u3_2, u3_3, u3_4⟩, hy3, hp⟩ := hp
    refine L_idxA (X := a0_3) rfl rfl rfl el31.h (RdT.old h0.2.2) hy3 ?_
    refine s1 ?_
    refine L_load rfl rfl (RdT.at (RdT.old h0.2.2) (hy3).2) one3.h rfl ?_
    refine s3 ?_
    refine kp [1, 2, 5, 20] ?_
    refine W_cond rfl (fun hc4 => ?_) (fun hc4 => ?_)
    · replace hp := cond_t hc4 hp
      refine s5 ?_
      replace hp := map_any hp; obtain ⟨a5, hp, hx_a5⟩ := hp
      obtain rfl := hx1 _ hx_a5
      obtain rfl := Option.some.inj hp
      refine s1 ?_
      refine res1 rfl (ResOK.tmp rfl) ⟨rfl, rfl⟩ ms
    · replace hp := cond_f hc4 hp
      refine s6 ?_
      exact ⟨IntKind.wrap .i64 (v1_0 + 1), sb, (.sub ms), some_eq hp⟩
  · replace hp := cond_f hc2 hp
    refine W_exit ?_
    replace hp := map_any hp; obtain ⟨a6, hp, hx_a6⟩ := hp
    obtain rfl := hx1 _ hx_a6
    refine s4 ?_
    obtain rfl := Option.some.inj hp
    refine s1 ?_
    refine res1 rfl (ResOK.tmp rfl) ⟨rfl, rfl⟩ ms
noncomputable def s_Joined (a0 : List ByteArray) : Option ByteArray :=
  whileP (fun s1 : ByteArray × Int => cond (decide (s1.2 < (a0.length : Int))) (Option.bind (idx a0 s1.2) (fun y3 => Option.bind (catP s1.1 y3) (fun y4 => some (.inl ((y4, IntKind.wrap .i64 (s1.2 + 1))))))) (Option.map .inr (some s1.1))) (ByteArray.empty, 0)
theorem s_Joined_walk (w : World) (a0 : TL ByteArray) (h0 : GT.rd w [] a0) (r : ByteArray) (hp : s_Joined (GT.dat a0) = some r) : Spec Try.prog 163 [(TL.hdr a0)].toArray w [] (IsV (.string r)) := by
  refine Spec.intro Try.func163 rfl Try.ntmps163 rfl ?_
  unfold s_Joined at hp
  replace hp := dd hp
  refine s14 ?_
  refine W_while (σ := ByteArray × Int) GT.dat (fun ((v1_0, v1_1) : ByteArray × Int) => [(3, .string v1_0), (4, .int .i64 v1_1)]) (fun ((v1_0, v1_1) : ByteArray × Int) => []) [(0, _)] [] (ByteArray.empty, 0) hp sb ms ?_
  clear hp
  rintro ⟨v1_0, v1_1⟩ x1 hp hx1
  replace hp := dd hp
  refine kq [0, 3, 4] ?_
  refine s8 ?_
  refine kp [0, 3, 4, 8] ?_
  refine W_cond rfl (fun hc2 => ?_) (fun hc2 => ?_)
  · replace hp := cond_t hc2 hp
    refine s7 ?_
    replace hp := idx_bind hp; obtain ⟨u3, hy3, hp⟩ := hp
    refine L_idxA (X := a0) rfl rfl rfl el25.h (RdT.old h0) hy3 ?_
    refine L_load0 rfl rfl (RdT.at (RdT.old h0) (hy3).2) one9.h rfl ?_
    replace hp := ba hp; obtain ⟨y4, hy4, hp⟩ := hp
    refine L_binV rfl rfl rfl (bv_saddP hy4) ?_
    refine s7 ?_
    exact ⟨(y4, IntKind.wrap .i64 (v1_1 + 1)), sb, (.sub ms), some_eq hp⟩
  · replace hp := cond_f hc2 hp
    refine W_exit ?_
    replace hp := map_any hp; obtain ⟨a5, hp, hx_a5⟩ := hp
    obtain rfl := hx1 _ hx_a5
    refine s5 ?_
    obtain rfl := Option.some.inj hp
    refine s1 ?_
    refine res1 rfl (ResOK.tmp rfl) ⟨rfl, rfl⟩ ms
end Go.Proofs.SL
namespace Go.Proofs.SL
open Go
set_option maxHeartbeats 2000000
theorem sl_Delete_implSessimplSess_walk (w : World) (a0 : TL T_Sess) (a1 a2 : Int) (r : List D_Sess) (hp : delP (GT.dat a0) a1 a2 = some r) : Spec Try.prog 76 [(TL.hdr a0), .int .i64 a1, .int .i64 a2].toArray w [treeH a0] (fun v M => ∃ (x0 : TL T_Sess), v = (TL.hdr x0) ∧ GT.dat x0 = r ∧ M = [treeH x0]) := by
  refine Spec.intro Try.func76 rfl Try.ntmps76 rfl ?_
  unfold delP at hp
  split at hp
  rotate_left
  · cases hp
  rename_i hb
  obtain rfl := Option.some.inj hp
  obtain ⟨h0, h1, h2⟩ := hb
  rw [dat_els, List.length_map] at h2
  obtain ⟨i, rfl⟩ := Int.eq_ofNat_of_zero_le h0
  obtain ⟨j, rfl⟩ := Int.eq_ofNat_of_zero_le (show 0 ≤ a2 by omega)
  simp only [Int.toNat_natCast]
  have hij : i < j := by omega
  have hjl : j ≤ a0.els.length := by omega
  refine W_raw (X := a0) (fun h => by rw [h] at hjl; simp at hjl; omega) pk (fun fa fl fm ft => ?_)
  have hsz : GT.sz T_Sess = 4 := rfl
  rw [hsz] at ft
  have hcl : (rowCells a0.els ++ a0.tail).length = a0.cap * 4 := by rw [List.length_append, length_rowCells, hsz]; exact ft
  have hone : ∀ u, u ∈ rowCells a0.els ++ a0.tail → True := fun _ _ => trivial
  have hh : a0.hdr = .slice (some ⟨a0.g, 0, none⟩) a0.els.length a0.cap := by show Value.slice a0.a _ _ = _; rw [fa]
  rw [hh]
  refine s10 ?_
  refine L_lenS rfl rfl el31.h ?_
  refine L_sl3 rfl rfl rfl rfl rfl el31.h (by omega) (by omega) (by omega) (by omega) (fun _ => ?_)
  refine s8 ?_
  refine W_cond rfl (fun hc => ?_) (fun hc => ?_)
  · exfalso; simp at hc; omega
  refine s4 ?_
  refine L_lenS rfl rfl el31.h ?_
  refine s3 ?_
  refine W_DS (pre := [_, _, _, _, _, _]) (suf := [_, _]) [22, 25] [] _ pc mix (by kernel_rfl) (by kernel_rfl) rfl ?_
  refine s2 ?_
  refine D_slV (g := a0.g) (o := 0) (n := a0.els.length) (c := a0.cap) (a := 0) (b := (i : Int)) GC.none (OpV.t rfl) optD.none (optD.some (OpV.t rfl)) el31.h (by omega) (by omega) (by omega) ?_
  refine s2 ?_
  refine D_slV (g := a0.g) (o := 0) (n := a0.els.length) (c := a0.cap) (a := (j : Int)) (b := (a0.els.length : Int)) GC.none (OpV.t rfl) (optD.some (OpV.t rfl)) optD.none el31.h (by omega) (by omega) (by omega) ?_
  refine s8 ?_
  simp only [Int.toNat_natCast, Int.toNat_zero, sl0, Nat.sub_zero]
  have hseg := seg_drop (X := a0) (j := j) (sz := 4) rfl hjl fl
  have e1 : i * 4 + (a0.els.length - j) * 4 ≤ a0.cap * 4 := by rw [← Nat.add_mul]; exact Nat.mul_le_mul_right _ (by omega)
  refine L_appRaw (n := i) (m := a0.els.length - j) (o := slA 0 a0.cap j 4) rfl rfl rfl el31.h pk (by omega) (by
    rw [hcl]; unfold slA; split
    · have : a0.els.length - j = 0 := by omega
      rw [this]; omega
    · rw [Nat.zero_add, ← Nat.add_mul]; exact Nat.mul_le_mul_right _ (by omega)) (by rw [hcl]; exact e1) (by rw [hseg]; exact fun u hu => rowCells_one _ u hu) ?_
  rw [hseg]
  generalize hcs : (rowCells a0.els ++ a0.tail).take (i * 4) ++ rowCells (a0.els.drop j) ++ (rowCells a0.els ++ a0.tail).drop (i * 4 + (a0.els.length - j) * 4) = cs
  have hcsl : cs.length = a0.cap * 4 := by
    rw [← hcs]
    simp only [List.length_append, List.length_take, List.length_drop, length_rowCells, hsz] at hcl ⊢
    omega
  refine s6 ?_
  refine L_lenS rfl rfl el31.h ?_
  refine s1 ?_
  refine L_slV (g := a0.g) (o := 0) (n := i + (a0.els.length - j)) (c := a0.cap) (a := ((i + (a0.els.length - j) : Nat) : Int)) (b := (a0.els.length : Int)) rfl rfl rfl rfl el31.h (by omega) (by omega) (by omega) ?_
  simp only [Int.toNat_natCast]
  rw [slLt (show i + (a0.els.length - j) < a0.cap by omega)]
  refine L_clrRaw rfl el31.h rfl (allOne rfl) pk (by rw [hcsl, ← Nat.add_mul]; exact Nat.mul_le_mul_right _ (by omega)) (by omega) ?_
  rw [del_cells (sz := 4) (List.flatten _) (show GT.sz T_Sess = 4 from rfl) rfl hij hjl cs hcs.symm]
  refine s6 ?_
  refine W_conv (fun w h => els_sub (perm_del a0.els i j (by omega)) pk h) ?_
  have hle : (a0.els.take i ++ a0.els.drop j).length = i + (a0.els.length - j) := by
    rw [List.length_append, List.length_take, List.length_drop, Nat.min_eq_left (by omega)]
  have htl : ((List.replicate (a0.els.length - (i + (a0.els.length - j))) ([.int .i64 0, .int .i64 0, .int .i64 0, .slice none 0 0] : List Value)).flatten ++ a0.tail).length = (a0.els.length - (i + (a0.els.length - j))) * 4 + a0.tail.length := by
    simp
  refine W_conv (fun w h => raw_close (τ := T_Sess) (g := a0.g) (e := a0.e) (cap := a0.cap) (els := a0.els.take i ++ a0.els.drop j) (tail := (List.replicate (a0.els.length - (i + (a0.els.length - j))) ([.int .i64 0, .int .i64 0, .int .i64 0, .slice none 0 0] : List Value)).flatten ++ a0.tail) rfl (by rw [hle]; omega) fm (by
    rw [hle, htl, hsz]
    have h3 : (i + (a0.els.length - j)) * 4 + (a0.els.length - (i + (a0.els.length - j))) * 4 = a0.els.length * 4 := by rw [← Nat.add_mul]; congr 1; omega
    omega) pk pk h) ?_
  refine s1 ?_
  refine res1 rfl (ResOK.tmp rfl) ⟨⟨some ⟨a0.g, 0, none⟩, a0.cap, a0.e, a0.els.take i ++ a0.els.drop j, (List.replicate (a0.els.length - (i + (a0.els.length - j))) ([.int .i64 0, .int .i64 0, .int .i64 0, .slice none 0 0] : List Value)).flatten ++ a0.tail⟩, ?_, ?_, rfl⟩ ms
  · show Value.slice _ _ _ = Value.slice _ _ _
    rw [hle]
  · rw [dat_els, dat_els]
    simp [List.map_take, List.map_drop]
end Go.Proofs.SL
namespace Go.Proofs.SL
open Go
variable {Γ : Cx} {l : Envl} {M M' M1 M2 F Mr : List HP} {Q : Post} {K : Kont} {w0 w : World} {S0 S : List Nat} {P : Program}
variable {rest : List Oper} {d : Nat} {ty : TypeId} {pos : String} {af : Array Edge}
/-- Elements that can be read, without their row. -/
structure EL (τ : Type) where
  els : List τ
instance {τ δ : Type} [GT τ δ] : GT (EL τ) Unit where
  sz := 1
  pos := by decide
  cells _ := [.bool false]
  len _ := rfl
  one _ v hv := by simp at hv; subst hv; rfl
  rd w S t := ∀ x, x ∈ t.els → GT.rd w S x
  fp _ := []
  ow _ _ := False
  dat _ := ()
  rd_mono h hm := fun x hx => GT.rd_mono (h x hx) hm
  ow_st _ h := h
  ow_rd h _ := h.elim
section
variable {τ δ : Type} [GT τ δ] {t : τ}
theorem no_fp (hw : Holds w0 S0 (M1 ++ M2) w) {h : HP} (hm : h ∈ M2) : ∀ k, k ∈ h.fp → k ∉ fps M1 := fun k hk hk1 => by
  have hnd := hw.nodup
  rw [fps_append] at hnd
  exact (List.nodup_append.1 hnd).2.2 k hk1 k (List.mem_flatMap.2 ⟨_, hm, hk⟩) rfl
theorem RdT.els {xs : List τ} (h : elsT xs ∈ M) : RdT Γ M (EL.mk xs) := fun w hw x hx => GT.ow_rd (hw.prs _ h x hx) fun _ _ h => by cases h
theorem RdT.elOf {X : TL τ} {j : Nat} {x : τ} (h : RdT Γ M (EL.mk X.els)) (hi : X.els[j]? = some x) : RdT Γ M x := fun w hw => h w hw x (List.mem_of_getElem? hi)
theorem RdX.els {xs : List τ} (h : elsT xs ∈ M2) : RdX Γ M1 M2 (EL.mk xs) := fun w hw x hx => GT.ow_rd (hw.prs _ (List.mem_append_right _ h) x hx) fun k hk => no_fp hw h k (List.mem_flatMap.2 ⟨x, hx, hk⟩)
theorem RdX.elOf {X : TL τ} {j : Nat} {x : τ} (h : RdX Γ M1 M2 (EL.mk X.els)) (hi : X.els[j]? = some x) : RdX Γ M1 M2 x := fun w hw => h w hw x (List.mem_of_getElem? hi)
end
/-! Evidence of one world, out of parts -/
structure PC (Mr : List HP) (w : World) (S : List Nat) : Prop where
  prs : ∀ h, h ∈ Mr → h.pr w
  ds : ∀ k, k ∈ fps Mr → k ∉ S
theorem PC.fp (h : PC Mr w S) {x : HP} (hm : x ∈ Mr) : ∀ k, k ∈ x.fp → k ∉ S := fun k hk => h.ds k (List.mem_flatMap.2 ⟨x, hm, hk⟩)
def RdP {τ δ : Type} [GT τ δ] (Mr : List HP) (w : World) (S : List Nat) (t : τ) : Prop := PC Mr w S → GT.rd w S t
section
variable {τ δ : Type} [GT τ δ] {t : τ}
theorem RdP.old (h : GT.rd w S t) : RdP Mr w S t := fun _ => h
theorem RdP.tree (h : treeH t ∈ Mr) : RdP Mr w S t := fun hp => GT.ow_rd (hp.prs _ h) (hp.fp h)
theorem RdP.snd {α β δ ε : Type} [GT α δ] [GT β ε] {t : α × β} (h : RdP Mr w S t) : RdP Mr w S t.2 := fun hp => (h hp).2
theorem RdP.of {X : TL τ} {j : Nat} {x : τ} (h : RdP Mr w S X) (hi : X.els[j]? = some x) : RdP Mr w S x := fun hp => (h hp).2.2.1 x (List.mem_of_getElem? hi)
theorem RdP.pair {α β δ ε : Type} [GT α δ] [GT β ε] {a : α} {b : β} (h1 : RdP Mr w S a) (h2 : RdP Mr w S b) : RdP Mr w S (a, b) := fun hp => ⟨h1 hp, h2 hp⟩
theorem RdP.int {n : Int} : RdP Mr w S n := fun _ => trivial
theorem RdP.bool {n : Bool} : RdP Mr w S n := fun _ => trivial
theorem RdP.u8 {n : UInt8} : RdP Mr w S n := fun _ => trivial
theorem RdP.nil (e : TypeId) : RdP Mr w S (TL.nil τ e) := fun _ => nil_rd e
theorem RdP.map {α δ' : Type} [GT α δ'] {a : α} (f : ∀ w S, GT.rd w S a → GT.rd w S t) (h : RdP Mr w S a) : RdP Mr w S t := fun hp => f w _ (h hp)
theorem RdP.els {xs : List τ} (h : elsT xs ∈ Mr) : RdP Mr w S (EL.mk xs) := fun hp x hx => GT.ow_rd (hp.prs _ h x hx) fun k hk => hp.fp h k (List.mem_flatMap.2 ⟨x, hx, hk⟩)
theorem RdP.elOf {X : TL τ} {j : Nat} {x : τ} (h : RdP Mr w S (EL.mk X.els)) (hi : X.els[j]? = some x) : RdP Mr w S x := fun hp => h hp x (List.mem_of_getElem? hi)
end
/-! A flat slice that is read alone, in a block of one's own -/
section
variable {τ δ : Type} [GT τ δ] [FlatT τ]
theorem flat_rd (x : τ) (w : World) (S : List Nat) : GT.rd w S x := GT.ow_rd ((FlatT.flat x).ow w) fun k hk => by rw [(FlatT.flat x).fp] at hk; cases hk
def slB (Y : TL τ) : List Nat := match Y.a with | none => [] | some a => [a.block]
theorem rd_block {Y : TL τ} {w w' : World} {S S' : List Nat} (h : GT.rd w S Y) (hb : ∀ k, k ∈ slB Y → w'.heap[k]? = w.heap[k]?) (hs : ∀ k, k ∈ slB Y → k ∉ S') : GT.rd w' S' Y :=
  ⟨h.1, h.2.1, fun x _ => flat_rd x _ _, h.2.2.2.1, fun a ha => ⟨(h.2.2.2.2 a ha).1, fun j v hv => by
    have h1 := (h.2.2.2.2 a ha).2 j v hv
    have h2 : a.block ∈ slB Y := by unfold slB; rw [ha]; simp
    exact ⟨by rw [World.cell?_of_block (w := w) (a := ⟨a.block, a.off + j, none⟩) (hb _ h2)]; exact h1.1, hs _ h2⟩⟩⟩
def flH (Y : TL τ) : HP := ⟨slB Y, fun w => GT.rd w [] Y, fun _ _ hb h => rd_block h hb fun _ _ h => by cases h⟩
theorem RdT.fl {Y : TL τ} (h : flH Y ∈ M) : RdT Γ M Y := fun _ hw => hw.prs _ h
theorem RdX.fl {Y : TL τ} (h : flH Y ∈ M2) : RdX Γ M1 M2 Y := fun _ hw => rd_block (hw.prs (flH Y) (List.mem_append_right _ h)) (fun _ _ => rfl) (no_fp hw h)
theorem RdP.fl {Y : TL τ} (h : flH Y ∈ Mr) : RdP Mr w S Y := fun hp => rd_block (hp.prs (flH Y) h) (fun _ _ => rfl) (hp.fp h)
end
section
variable {τ δ : Type} [GT τ δ]
end
end Go.Proofs.SL
namespace Go.Proofs.SL
open Go
set_option maxHeartbeats 2000000
instance fn70 : FnF Try.prog 70 := ⟨⟨_, Try.func70, by kernel_rfl, rfl⟩⟩
instance fn71 : FnF Try.prog 71 := ⟨⟨_, Try.func71, by kernel_rfl, rfl⟩⟩
instance bld107 : BldF Try.prog 107 [(0, 1), (1, 1), (2, 1), (3, 1)] [.int .i64 0, .int .i64 0, .int .i64 0, .slice none 0 0] := ⟨by kernel_rfl⟩
instance fn74 : FnF Try.prog 74 := ⟨⟨_, Try.func74, by kernel_rfl, rfl⟩⟩
instance fn75 : FnF Try.prog 75 := ⟨⟨_, Try.func75, by kernel_rfl, rfl⟩⟩
instance fn76 : FnF Try.prog 76 := ⟨⟨_, Try.func76, by kernel_rfl, rfl⟩⟩
instance fn21 : FnF Try.prog 21 := ⟨⟨_, Try.func21, by kernel_rfl, rfl⟩⟩
instance fn161 : FnF Try.prog 161 := ⟨⟨_, Try.func161, by kernel_rfl, rfl⟩⟩
instance fn162 : FnF Try.prog 162 := ⟨⟨_, Try.func162, by kernel_rfl, rfl⟩⟩
instance fn163 : FnF Try.prog 163 := ⟨⟨_, Try.func163, by kernel_rfl, rfl⟩⟩
noncomputable def i_SessOpen (a0 : D_Desks) (a1 : Int) (a2 : Int) : Option (D_Desks × Int × Bool) :=
  Option.bind (i_DesksOk (a0.1, a0.2.1, a0.2.2)) (fun y1 => cond (!y1) (some ((0, 0, ([] : List D_Sess)), 0, false)) (Option.bind (i_copyDesks (a0.1, a0.2.1, a0.2.2)) (fun y3 => Option.bind (i_isClient a1) (fun y4 => gb (!(!y4)) (i_within a2 1 100) (fun y5 => cond ((((!y4) || (!y5)) || (decide ((a0.2.2.length : Int) = 4))) || (decide (a0.2.1 = 1000))) (some ((y3.1, y3.2.1, y3.2.2), 0, false)) (Option.bind (appP y3.2.2 [(a0.2.1, a1, IntKind.wrap .i64 (a0.1 + a2), ([] : List ByteArray))]) (fun y8 => some ((y3.1, IntKind.wrap .i64 (y3.2.1 + 1), y8), a0.2.1, true))))))))
theorem i_SessOpen_walk (w : World) (a0 : T_Desks) (a1 : Int) (a2 : Int) (h0 : GT.rd w [] a0) (r : D_Desks × Int × Bool) (hp : i_SessOpen (GT.dat a0) a1 a2 = some r) : Spec Try.prog 17 [.agg (GT.cells a0).toArray, .int .i64 a1, .int .i64 a2].toArray w [] (fun v M => ∃ (x0 : T_Desks) (x1 : Int) (x2 : Bool), v = .tuple #[.agg (GT.cells x0).toArray, .int .i64 x1, .bool x2] ∧ (GT.dat x0, GT.dat x1, GT.dat x2) = r ∧ M = [treeH x0]) := by
  obtain ⟨a0_1, a0_2, a0_3⟩ := a0
  change Spec _ _ ([Value.agg #[.int .i64 a0_1, .int .i64 a0_2, (TL.hdr a0_3)], .int .i64 a1, .int .i64 a2] : List Value).toArray w [] _
  refine Spec.intro Try.func17 rfl Try.ntmps17 rfl ?_
  unfold i_SessOpen at hp
  replace hp := dd hp
  refine s2 ?_
  refine bx fun bk3 => ?_
  refine al fun bk6 => ?_
  refine s7 ?_
  replace hp := ba hp; obtain ⟨y1, hy1, hp⟩ := hp
  refine L_callX rfl fn70.h rfl (by exact fun w hw => i_DesksOk_walk w (a0_1, a0_2, a0_3) (RdT.now (RdT.pair RdT.int (RdT.pair RdT.int (RdT.old h0.2.2))) hw) _ hy1) ?_
  refine s2 ?_
  refine kp [1, 2, 3, 6, 12] ?_
  refine W_cond rfl (fun hc2 => ?_) (fun hc2 => ?_)
  · replace hp := cond_t hc2 hp
    refine s2 ?_
    refine L_build (xs := []) (cs := [.int .i64 0, .int .i64 0, (TL.hdr (TL.nil T_Sess 0))]) rfl rfl bld33.h rfl ?_
    refine s4 ?_
    obtain rfl := Option.some.inj hp
    refine W_conv (M' := treeH (TL.nil T_Sess 0) :: _) (fun w h => addNilT (τ := T_Sess) 0 h) ?_
    refine jW ((0, 0, (TL.nil T_Sess 0)) : T_Desks) ?_
    refine s1 ?_
    refine res3 rfl (ResOK.cell rfl mm (by exact agg33.h)) (ResOK.tmp rfl) (ResOK.tmp rfl) ⟨(0, 0, (TL.nil T_Sess 0)), 0, false, rfl, rfl, rfl⟩ ms
  · replace hp := cond_f hc2 hp
    refine s4 ?_
    replace hp := ba hp; obtain ⟨y3, hy3, hp⟩ := hp
    refine L_callR rfl fn71.h rfl (by exact fun w hw => i_copyDesks_walk w (a0_1, a0_2, a0_3) (RdT.now (RdT.pair RdT.int (RdT.pair RdT.int (RdT.old h0.2.2))) hw) _ hy3) ?_
    rintro _ _ ⟨⟨y3x0_1, y3x0_2, y3x0_3⟩, rfl, rfl, rfl⟩
    refine sc ?_
    replace hp := dd hp
    refine xL ((y3x0_1, y3x0_2, y3x0_3) : T_Desks) ?_
    refine al fun bk9 => ?_
    refine s4 ?_
    replace hp := ba hp; obtain ⟨y4, hy4, hp⟩ := hp
    replace hp := gb_any hp; obtain ⟨y5, hy5, hp⟩ := hp
    refine W_D0 [34] mix (by kernel_rfl) rfl ?_
    refine s1 ?_
    refine D_callX GC.none fn72.h (OpVs.cons (OpV.t rfl) (OpVs.nil)) (by exact fun hg w F hF hM => i_isClient_walk w a1  _ hy4) ?_
    refine s3 ?_
    refine D_callX (GC.some rfl rfl) fn73.h (OpVs.cons (OpV.s rfl) (OpVs.cons OpV.c (OpVs.cons OpV.c (OpVs.nil)))) (by exact fun hg w F hF hM => i_within_walk w a2 1 100  _ (hy5 (gnot hg.2))) ?_
    refine s5 ?_
    refine D_lenP (X := a0_3) (GC.some rfl rfl) (OpV.s rfl) el31.h ?_
    refine s20 ?_
    refine s8 ?_
    refine kp [1, 2, 3, 6, 9, 34] ?_
    refine W_cond rfl (fun hc6 => ?_) (fun hc6 => ?_)
    · replace hp := cond_t hc6 hp
      refine s7 ?_
      obtain rfl := Option.some.inj hp
      refine jW ((y3x0_1, y3x0_2, y3x0_3) : T_Desks) ?_
      refine s1 ?_
      refine res3 rfl (ResOK.cell rfl mm (by exact agg33.h)) (ResOK.tmp rfl) (ResOK.tmp rfl) ⟨(y3x0_1, y3x0_2, y3x0_3), 0, false, rfl, rfl, rfl⟩ ms
    · replace hp := cond_f hc6 hp
      refine s12 ?_
      refine L_build (xs := [(0, .tmp 39), (1, .tmp 40), (2, .tmp 44)]) (cs := [.int .i64 a0_2, .int .i64 a1, .int .i64 (IntKind.wrap .i64 (a0_1 + a2)), (TL.hdr (TL.nil ByteArray 0))]) rfl rfl bld107.h rfl ?_
      refine L_buildSlice1 rfl rfl el31.h rfl (by decide) (by decide) rfl (fun bb46 => ?_)
      replace hp := ba hp; obtain ⟨y8, hy8, hp⟩ := hp
      refine L_conv (M' := treeH (TL.nil ByteArray 0) :: _) (fun w h => addNilT (τ := ByteArray) 0 h) ?_
      refine jL ((a0_2, a1, IntKind.wrap .i64 (a0_1 + a2), (TL.nil ByteArray 0)) : T_Sess) ?_
      refine L_app1 (X := y3x0_3) ((a0_2, a1, IntKind.wrap .i64 (a0_1 + a2), (TL.nil ByteArray 0)) : T_Sess) rfl rfl rfl el31.h rfl rfl pk mm pk hy8 (by decide) (fun X7 hdX7 => ?_)
      subst hdX7
      refine s12 ?_
      refine W_DS (pre := [_, _, _, _, _, _]) (suf := []) [7, 8] [blk bk6 _ _] _ pc mix (by kernel_rfl) (by kernel_rfl) rfl ?_
      refine s3 ?_
      refine D_storeW (OpV.t rfl) (OpV.t rfl) pk (by exact agg33.h) (by rfl) ocs ?_
      refine s11 ?_
      obtain rfl := Option.some.inj hp
      refine jW ((y3x0_1, IntKind.wrap .i64 (y3x0_2 + 1), X7) : T_Desks) ?_
      refine s1 ?_
      refine res3 rfl (ResOK.cell rfl mm (by exact agg33.h)) (ResOK.tmp rfl) (ResOK.tmp rfl) ⟨(y3x0_1, IntKind.wrap .i64 (y3x0_2 + 1), X7), a0_2, true, rfl, rfl, rfl⟩ ms
noncomputable def i_SessTick (a0 : D_Desks) (a1 : Int) : Option (D_Desks × (List Int)) :=
  Option.bind (i_DesksOk (a0.1, a0.2.1, a0.2.2)) (fun y1 => cond (!y1) (some ((0, 0, ([] : List D_Sess)), ([] : List Int))) (Option.bind (i_copyDesks (a0.1, a0.2.1, a0.2.2)) (fun y3 => Option.bind (i_within a1 1 100) (fun y4 => cond ((!y4) || (decide (100000 < IntKind.wrap .i64 (a0.1 + a1)))) (some ((y3.1, y3.2.1, y3.2.2), ([] : List Int))) (Option.bind (some ([] : List Int)) (fun y7 => whileP (fun s8 : (List D_Sess) × (List Int) × Int => cond (decide (s8.2.2 < (y3.2.2.length : Int))) (Option.bind (idx y3.2.2 s8.2.2) (fun y10 => cond (decide (y10.2.2.1 ≤ IntKind.wrap .i64 (a0.1 + a1))) (Option.bind (appP s8.2.1 [y10.1]) (fun y13 => some (.inl ((s8.1, y13, IntKind.wrap .i64 (s8.2.2 + 1)))))) (Option.bind (appP s8.1 [(y10.1, y10.2.1, y10.2.2.1, y10.2.2.2)]) (fun y15 => some (.inl ((y15, s8.2.1, IntKind.wrap .i64 (s8.2.2 + 1)))))))) (Option.map .inr (some ((IntKind.wrap .i64 (a0.1 + a1), y3.2.1, s8.1), s8.2.1)))) (([] : List D_Sess), y7, 0)))))))
theorem i_SessTick_walk (w : World) (a0 : T_Desks) (a1 : Int) (h0 : GT.rd w [] a0) (r : D_Desks × (List Int)) (hp : i_SessTick (GT.dat a0) a1 = some r) : Spec Try.prog 18 [.agg (GT.cells a0).toArray, .int .i64 a1].toArray w [] (fun v M => ∃ (x0 : T_Desks) (x1 : TL Int), v = .tuple #[.agg (GT.cells x0).toArray, (TL.hdr x1)] ∧ (GT.dat x0, GT.dat x1) = r ∧ M = [treeH x0, treeH x1]) := by
  obtain ⟨a0_1, a0_2, a0_3⟩ := a0
  change Spec _ _ ([Value.agg #[.int .i64 a0_1, .int .i64 a0_2, (TL.hdr a0_3)], .int .i64 a1] : List Value).toArray w [] _
  refine Spec.intro Try.func18 rfl Try.ntmps18 rfl ?_
  unfold i_SessTick at hp
  replace hp := dd hp
  refine s2 ?_
  refine bx fun bk2 => ?_
  refine al fun bk4 => ?_
  refine L_assign (v := (TL.hdr (TL.nil Int 0))) rfl rfl ?_
  refine s5 ?_
  replace hp := ba hp; obtain ⟨y1, hy1, hp⟩ := hp
  refine L_callX rfl fn70.h rfl (by exact fun w hw => i_DesksOk_walk w (a0_1, a0_2, a0_3) (RdT.now (RdT.pair RdT.int (RdT.pair RdT.int (RdT.old h0.2.2))) hw) _ hy1) ?_
  refine s2 ?_
  refine kp [1, 2, 4, 13] ?_
  refine W_cond rfl (fun hc2 => ?_) (fun hc2 => ?_)
  · replace hp := cond_t hc2 hp
    refine s2 ?_
    refine L_build (xs := []) (cs := [.int .i64 0, .int .i64 0, (TL.hdr (TL.nil T_Sess 0))]) rfl rfl bld33.h rfl ?_
    refine s1 ?_
    refine L_assign (v := (TL.hdr (TL.nil Int 0))) rfl rfl ?_
    refine s1 ?_
    obtain rfl := Option.some.inj hp
    refine W_conv (M' := treeH (TL.nil T_Sess 0) :: _) (fun w h => addNilT (τ := T_Sess) 0 h) ?_
    refine jW ((0, 0, (TL.nil T_Sess 0)) : T_Desks) ?_
    refine W_conv (M' := treeH (TL.nil Int 0) :: _) (fun w h => addNilT (τ := Int) 0 h) ?_
    refine s1 ?_
    refine res2 rfl (ResOK.cell rfl mm (by exact agg33.h)) (ResOK.tmp rfl) ⟨(0, 0, (TL.nil T_Sess 0)), (TL.nil Int 0), rfl, rfl, rfl⟩ ms
  · replace hp := cond_f hc2 hp
    refine s4 ?_
    replace hp := ba hp; obtain ⟨y3, hy3, hp⟩ := hp
    refine L_callR rfl fn71.h rfl (by exact fun w hw => i_copyDesks_walk w (a0_1, a0_2, a0_3) (RdT.now (RdT.pair RdT.int (RdT.pair RdT.int (RdT.old h0.2.2))) hw) _ hy3) ?_
    rintro _ _ ⟨⟨y3x0_1, y3x0_2, y3x0_3⟩, rfl, rfl, rfl⟩
    refine sc ?_
    replace hp := dd hp
    refine xL ((y3x0_1, y3x0_2, y3x0_3) : T_Desks) ?_
    refine al fun bk6 => ?_
    refine s4 ?_
    replace hp := ba hp; obtain ⟨y4, hy4, hp⟩ := hp
    refine W_D0 [26] mix (by kernel_rfl) rfl ?_
    refine s1 ?_
    refine D_callX GC.none fn73.h (OpVs.cons (OpV.t rfl) (OpVs.cons OpV.c (OpVs.cons OpV.c (OpVs.nil)))) (by exact fun hg w F hF hM => i_within_walk w a1 1 100  _ hy4) ?_
    refine s20 ?_
    refine kp [1, 2, 4, 6, 26] ?_
    refine W_cond rfl (fun hc5 => ?_) (fun hc5 => ?_)
    · replace hp := cond_t hc5 hp
      refine s4 ?_
      refine L_assign (v := (TL.hdr (TL.nil Int 0))) rfl rfl ?_
      refine s1 ?_
      obtain rfl := Option.some.inj hp
      refine jW ((y3x0_1, y3x0_2, y3x0_3) : T_Desks) ?_
      refine W_conv (M' := treeH (TL.nil Int 0) :: _) (fun w h => addNilT (τ := Int) 0 h) ?_
      refine s1 ?_
      refine res2 rfl (ResOK.cell rfl mm (by exact agg33.h)) (ResOK.tmp rfl) ⟨(y3x0_1, y3x0_2, y3x0_3), (TL.nil Int 0), rfl, rfl, rfl⟩ ms
    · replace hp := cond_f hc5 hp
      refine s12 ?_
      refine L_assign (v := (TL.hdr (TL.nil T_Sess 0))) rfl rfl ?_
      refine s3 ?_
      replace hp := ba hp; obtain ⟨y7, hy7, hp⟩ := hp
      refine L_mk0 Int rfl el34.h (fun X6 hdX6 => ?_)
      obtain rfl : GT.dat X6 = y7 := hdX6.trans (Option.some.inj hy7)
      clear hy7 hdX6
      refine s11 ?_
      refine W_conv (M' := rowH y3x0_3 :: elsT (y3x0_3.els.drop 0) :: _) (fun w h => els_start pk h) ?_
      refine W_conv (M' := treeH (TL.nil T_Sess 0) :: _) (fun w h => addNilT (τ := T_Sess) 0 h) ?_
      refine W_while (σ := (TL T_Sess) × (TL Int) × Int) GT.dat (fun ((v8_0, v8_1, v8_2) : (TL T_Sess) × (TL Int) × Int) => [(7, (TL.hdr v8_0)), (8, (TL.hdr v8_1)), (37, .int .i64 v8_2)]) (fun ((v8_0, v8_1, v8_2) : (TL T_Sess) × (TL Int) × Int) => [treeH v8_0, treeH v8_1, elsT (y3x0_3.els.drop (v8_2.toNat))]) [(4, _), (6, _), (35, _), (36, _)] [blk bk4 _ _, blk bk6 _ _, rowH y3x0_3] ((TL.nil T_Sess 0), X6, 0) hp sb ms ?_
      clear hp
      rintro ⟨v8_0, v8_1, v8_2⟩ x8 hp hx8
      replace hp := dd hp
      refine kq [4, 6, 7, 8, 35, 36, 37] ?_
      refine s5 ?_
      refine kp [4, 6, 7, 8, 35, 36, 37, 38] ?_
      refine W_cond rfl (fun hc9 => ?_) (fun hc9 => ?_)
      · replace hp := cond_t hc9 hp
        refine s5 ?_
        replace hp := idx_bind hp; obtain ⟨⟨u10_1, u10_2, u10_3, u10_4⟩, hy10, hp⟩ := hp
        refine L_idxR (X := y3x0_3) rfl rfl rfl el31.h mm hy10 ?_
        refine L_conv (M' := treeH (u10_1, u10_2, u10_3, u10_4) :: elsT (y3x0_3.els.drop (v8_2.toNat + 1)) :: _) (fun w h => els_next hy10.2 pk h) ?_
        refine xL ((u10_1, u10_2, u10_3, u10_4) : T_Sess) ?_
        refine L_loadW rfl rfl (RdC.row (X := y3x0_3) mm hy10.2) (by exact agg107.h) ?_
        refine al fun bk10 => ?_
        refine s10 ?_
        refine kp [4, 6, 7, 8, 10, 35, 36, 37, 45] ?_
        refine W_cond rfl (fun hc11 => ?_) (fun hc11 => ?_)
        · replace hp := cond_t hc11 hp
          refine s4 ?_
          refine L_buildSlice1 rfl rfl el34.h rfl (by decide) (by decide) rfl (fun bb49 => ?_)
          replace hp := ba hp; obtain ⟨y13, hy13, hp⟩ := hp
          refine L_app1F (X := v8_1) (u10_1 : Int) rfl rfl rfl el34.h rfl rfl pk mm  hy13 (by decide) (fun X12 hdX12 => ?_)
          subst hdX12
          refine s6 ?_
          exact ⟨(v8_0, X12, IntKind.wrap .i64 (v8_2 + 1)), sb, ⟨_, fun w h => (els_step hy10 mm pk h), ms⟩, some_eq hp⟩
        · replace hp := cond_f hc11 hp
          refine s3 ?_
          refine L_buildSlice1 rfl rfl el31.h rfl (by decide) (by decide) rfl (fun bb53 => ?_)
          replace hp := ba hp; obtain ⟨y15, hy15, hp⟩ := hp
          refine jL ((u10_1, u10_2, u10_3, u10_4) : T_Sess) ?_
          refine L_app1 (X := v8_0) ((u10_1, u10_2, u10_3, u10_4) : T_Sess) rfl rfl rfl el31.h rfl rfl pk mm pk hy15 (by decide) (fun X14 hdX14 => ?_)
          subst hdX14
          refine s6 ?_
          exact ⟨(X14, v8_1, IntKind.wrap .i64 (v8_2 + 1)), sb, ⟨_, fun w h => (els_step hy10 mm pk h), ms⟩, some_eq hp⟩
      · replace hp := cond_f hc9 hp
        refine W_exit ?_
        replace hp := map_any hp; obtain ⟨a16, hp, hx_a16⟩ := hp
        obtain rfl := hx8 _ hx_a16
        refine s13 ?_
        obtain rfl := Option.some.inj hp
        refine jW ((IntKind.wrap .i64 (a0_1 + a1), y3x0_2, v8_0) : T_Desks) ?_
        refine s1 ?_
        refine res2 rfl (ResOK.cell rfl mm (by exact agg33.h)) (ResOK.tmp rfl) ⟨(IntKind.wrap .i64 (a0_1 + a1), y3x0_2, v8_0), v8_1, rfl, rfl, rfl⟩ ms
noncomputable def i_SessEnd (a0 : D_Desks) (a1 : Int) : Option (D_Desks × ByteArray × Bool) :=
  Option.bind (i_DesksOk (a0.1, a0.2.1, a0.2.2)) (fun y1 => cond (!y1) (some ((0, 0, ([] : List D_Sess)), ByteArray.empty, false)) (Option.bind (i_copyDesks (a0.1, a0.2.1, a0.2.2)) (fun y3 => Option.bind (i_Desks_at (a0.1, a0.2.1, a0.2.2) a1) (fun y4 => cond (decide (y4 < 0)) (some ((y3.1, y3.2.1, y3.2.2), ByteArray.empty, false)) (Option.bind (idx a0.2.2 y4) (fun y6 => Option.bind (i_Joined y6.2.2.2) (fun y7 => Option.bind (delP y3.2.2 y4 (IntKind.wrap .i64 (y4 + 1))) (fun y8 => some ((y3.1, y3.2.1, y8), y7, true)))))))))
theorem i_SessEnd_walk (w : World) (a0 : T_Desks) (a1 : Int) (h0 : GT.rd w [] a0) (r : D_Desks × ByteArray × Bool) (hp : i_SessEnd (GT.dat a0) a1 = some r) : Spec Try.prog 19 [.agg (GT.cells a0).toArray, .int .i64 a1].toArray w [] (fun v M => ∃ (x0 : T_Desks) (x1 : ByteArray) (x2 : Bool), v = .tuple #[.agg (GT.cells x0).toArray, .string x1, .bool x2] ∧ (GT.dat x0, GT.dat x1, GT.dat x2) = r ∧ M = [treeH x0]) := by
  obtain ⟨a0_1, a0_2, a0_3⟩ := a0
  change Spec _ _ ([Value.agg #[.int .i64 a0_1, .int .i64 a0_2, (TL.hdr a0_3)], .int .i64 a1] : List Value).toArray w [] _
  refine Spec.intro Try.func19 rfl Try.ntmps19 rfl ?_
  unfold i_SessEnd at hp
  replace hp := dd hp
  refine s2 ?_
  refine bx fun bk2 => ?_
  refine al fun bk4 => ?_
  refine s7 ?_
  replace hp := ba hp; obtain ⟨y1, hy1, hp⟩ := hp
  refine L_callX rfl fn70.h rfl (by exact fun w hw => i_DesksOk_walk w (a0_1, a0_2, a0_3) (RdT.now (RdT.pair RdT.int (RdT.pair RdT.int (RdT.old h0.2.2))) hw) _ hy1) ?_
  refine s2 ?_
  refine kp [1, 2, 4, 12] ?_
  refine W_cond rfl (fun hc2 => ?_) (fun hc2 => ?_)
  · replace hp := cond_t hc2 hp
    refine s2 ?_
    refine L_build (xs := []) (cs := [.int .i64 0, .int .i64 0, (TL.hdr (TL.nil T_Sess 0))]) rfl rfl bld33.h rfl ?_
    refine s4 ?_
    obtain rfl := Option.some.inj hp
    refine W_conv (M' := treeH (TL.nil T_Sess 0) :: _) (fun w h => addNilT (τ := T_Sess) 0 h) ?_
    refine jW ((0, 0, (TL.nil T_Sess 0)) : T_Desks) ?_
    refine s1 ?_
    refine res3 rfl (ResOK.cell rfl mm (by exact agg33.h)) (ResOK.tmp rfl) (ResOK.tmp rfl) ⟨(0, 0, (TL.nil T_Sess 0)), ByteArray.empty, false, rfl, rfl, rfl⟩ ms
  · replace hp := cond_f hc2 hp
    refine s4 ?_
    replace hp := ba hp; obtain ⟨y3, hy3, hp⟩ := hp
    refine L_callR rfl fn71.h rfl (by exact fun w hw => i_copyDesks_walk w (a0_1, a0_2, a0_3) (RdT.now (RdT.pair RdT.int (RdT.pair RdT.int (RdT.old h0.2.2))) hw) _ hy3) ?_
    rintro _ _ ⟨⟨y3x0_1, y3x0_2, y3x0_3⟩, rfl, rfl, rfl⟩
    refine sc ?_
    replace hp := dd hp
    refine xL ((y3x0_1, y3x0_2, y3x0_3) : T_Desks) ?_
    refine al fun bk7 => ?_
    refine s6 ?_
    replace hp := ba hp; obtain ⟨y4, hy4, hp⟩ := hp
    refine L_callX rfl fn74.h rfl (by exact fun w hw => i_Desks_at_walk w (a0_1, a0_2, a0_3) a1 (RdT.now (RdT.pair RdT.int (RdT.pair RdT.int (RdT.old h0.2.2))) hw) _ hy4) ?_
    refine s8 ?_
    refine kp [2, 4, 7, 8, 20] ?_
    refine W_cond rfl (fun hc5 => ?_) (fun hc5 => ?_)
    · replace hp := cond_t hc5 hp
      refine s7 ?_
      obtain rfl := Option.some.inj hp
      refine jW ((y3x0_1, y3x0_2, y3x0_3) : T_Desks) ?_
      refine s1 ?_
      refine res3 rfl (ResOK.cell rfl mm (by exact agg33.h)) (ResOK.tmp rfl) (ResOK.tmp rfl) ⟨(y3x0_1, y3x0_2, y3x0_3), ByteArray.empty, false, rfl, rfl, rfl⟩ ms
    · replace hp := cond_f hc5 hp
      refine s6 ?_
      replace hp := idx_bind hp; obtain ⟨⟨u6_1, u6_2, u6_3, u6_4⟩, hy6, hp⟩ := hp
      refine L_idxA (X := a0_3) rfl rfl rfl el31.h (RdT.old h0.2.2) hy6 ?_
      refine s1 ?_
      refine L_load rfl rfl (RdT.at (RdT.old h0.2.2) (hy6).2) one25.h rfl ?_
      replace hp := ba hp; obtain ⟨y7, hy7, hp⟩ := hp
      refine L_callX rfl fn75.h rfl (by exact fun w hw => i_Joined_walk w u6_4 (RdT.now (RdT.snd (RdT.snd (RdT.snd (RdT.of (RdT.old h0.2.2) (hy6).2)))) hw) _ hy7) ?_
      refine s9 ?_
      replace hp := ba hp; obtain ⟨y8, hy8, hp⟩ := hp
      refine L_callM [treeH y3x0_3] _ rfl fn76.h rfl pc (by exact fun w hw => sl_Delete_implSessimplSess_walk w y3x0_3 y4 (IntKind.wrap .i64 (y4 + 1))  _ hy8) ?_
      rintro _ _ ⟨y8x0, rfl, rfl, rfl⟩
      refine sc ?_
      replace hp := dd hp
      refine s11 ?_
      obtain rfl := Option.some.inj hp
      refine jW ((y3x0_1, y3x0_2, y8x0) : T_Desks) ?_
      refine s1 ?_
      refine res3 rfl (ResOK.cell rfl mm (by exact agg33.h)) (ResOK.tmp rfl) (ResOK.tmp rfl) ⟨(y3x0_1, y3x0_2, y8x0), y7, true, rfl, rfl, rfl⟩ ms
noncomputable def i_SessPut (a0 : D_Desks) (a1 : Int) (a2 : ByteArray) : Option (D_Desks × Bool) :=
  Option.bind (i_DesksOk (a0.1, a0.2.1, a0.2.2)) (fun y1 => cond (!y1) (some ((0, 0, ([] : List D_Sess)), false)) (Option.bind (i_copyDesks (a0.1, a0.2.1, a0.2.2)) (fun y3 => Option.bind (i_Desks_at (a0.1, a0.2.1, a0.2.2) a1) (fun y4 => gb (!(decide (y4 < 0))) (idx a0.2.2 y4) (fun y5 => gb (!((decide (y4 < 0)) || (decide ((y5.2.2.2.length : Int) = 6)))) (i_within (a2.size : Int) 1 10) (fun y6 => cond (((decide (y4 < 0)) || (decide ((y5.2.2.2.length : Int) = 6))) || (!y6)) (some ((y3.1, y3.2.1, y3.2.2), false)) (Option.bind (idx y3.2.2 y4) (fun y8 => Option.bind (appP y8.2.2.2 [a2]) (fun y9 => Option.bind (idx y3.2.2 y4) (fun y11 => Option.bind (some (y3.2.2.set (y4.toNat) (y8.1, y8.2.1, y8.2.2.1, y9))) (fun y12 => some ((y3.1, y3.2.1, y12), true))))))))))))
theorem i_SessPut_walk (w : World) (a0 : T_Desks) (a1 : Int) (a2 : ByteArray) (h0 : GT.rd w [] a0) (r : D_Desks × Bool) (hp : i_SessPut (GT.dat a0) a1 a2 = some r) : Spec Try.prog 20 [.agg (GT.cells a0).toArray, .int .i64 a1, .string a2].toArray w [] (fun v M => ∃ (x0 : T_Desks) (x1 : Bool), v = .tuple #[.agg (GT.cells x0).toArray, .bool x1] ∧ (GT.dat x0, GT.dat x1) = r ∧ M = [treeH x0]) := by
  obtain ⟨a0_1, a0_2, a0_3⟩ := a0
  change Spec _ _ ([Value.agg #[.int .i64 a0_1, .int .i64 a0_2, (TL.hdr a0_3)], .int .i64 a1, .string a2] : List Value).toArray w [] _
  refine Spec.intro Try.func20 rfl Try.ntmps20 rfl ?_
  unfold i_SessPut at hp
  replace hp := dd hp
  refine s2 ?_
  refine bx fun bk3 => ?_
  refine al fun bk6 => ?_
  refine s6 ?_
  replace hp := ba hp; obtain ⟨y1, hy1, hp⟩ := hp
  refine L_callX rfl fn70.h rfl (by exact fun w hw => i_DesksOk_walk w (a0_1, a0_2, a0_3) (RdT.now (RdT.pair RdT.int (RdT.pair RdT.int (RdT.old h0.2.2))) hw) _ hy1) ?_
  refine s2 ?_
  refine kp [1, 2, 3, 6, 12] ?_
  refine W_cond rfl (fun hc2 => ?_) (fun hc2 => ?_)
  · replace hp := cond_t hc2 hp
    refine s2 ?_
    refine L_build (xs := []) (cs := [.int .i64 0, .int .i64 0, (TL.hdr (TL.nil T_Sess 0))]) rfl rfl bld33.h rfl ?_
    refine s3 ?_
    obtain rfl := Option.some.inj hp
    refine W_conv (M' := treeH (TL.nil T_Sess 0) :: _) (fun w h => addNilT (τ := T_Sess) 0 h) ?_
    refine jW ((0, 0, (TL.nil T_Sess 0)) : T_Desks) ?_
    refine s1 ?_
    refine res2 rfl (ResOK.cell rfl mm (by exact agg33.h)) (ResOK.tmp rfl) ⟨(0, 0, (TL.nil T_Sess 0)), false, rfl, rfl, rfl⟩ ms
  · replace hp := cond_f hc2 hp
    refine s4 ?_
    replace hp := ba hp; obtain ⟨y3, hy3, hp⟩ := hp
    refine L_callR rfl fn71.h rfl (by exact fun w hw => i_copyDesks_walk w (a0_1, a0_2, a0_3) (RdT.now (RdT.pair RdT.int (RdT.pair RdT.int (RdT.old h0.2.2))) hw) _ hy3) ?_
    rintro _ _ ⟨⟨y3x0_1, y3x0_2, y3x0_3⟩, rfl, rfl, rfl⟩
    refine sc ?_
    replace hp := dd hp
    refine xL ((y3x0_1, y3x0_2, y3x0_3) : T_Desks) ?_
    refine al fun bk8 => ?_
    refine s6 ?_
    replace hp := ba hp; obtain ⟨y4, hy4, hp⟩ := hp
    refine L_callX rfl fn74.h rfl (by exact fun w hw => i_Desks_at_walk w (a0_1, a0_2, a0_3) a1 (RdT.now (RdT.pair RdT.int (RdT.pair RdT.int (RdT.old h0.2.2))) hw) _ hy4) ?_
    refine s4 ?_
    replace hp := idx_gb hp; obtain ⟨⟨u5_1, u5_2, u5_3, u5_4⟩, hy5, hp⟩ := hp
    replace hp := gb_any hp; obtain ⟨y6, hy6, hp⟩ := hp
    refine W_D0 [36] mix (by kernel_rfl) rfl ?_
    refine s6 ?_
    refine D_idxA (X := a0_3) (GC.some rfl rfl) (OpV.s rfl) (OpV.s rfl) el31.h (RdT.old h0.2.2) (fun hg => hy5 (gnot hg.2)) ?_
    refine s1 ?_
    refine D_load (GC.some rfl rfl) (OpV.s rfl) (fun hg => RdT.at (RdT.old h0.2.2) (hy5 (gnot hg.2)).2) one25.h rfl ?_
    refine D_lenP (X := u5_4) (GC.some rfl rfl) (OpV.s rfl) el25.h ?_
    refine s4 ?_
    refine D_lenT (GC.some rfl rfl) (OpV.s rfl) str9.h ?_
    refine D_callX (GC.some rfl rfl) fn73.h (OpVs.cons (OpV.s rfl) (OpVs.cons OpV.c (OpVs.cons OpV.c (OpVs.nil)))) (by exact fun hg w F hF hM => i_within_walk w (a2.size : Int) 1 10  _ (hy6 (gnot hg.2))) ?_
    refine s20 ?_
    refine s2 ?_
    refine kp [2, 6, 8, 9, 36] ?_
    refine W_cond rfl (fun hc7 => ?_) (fun hc7 => ?_)
    · replace hp := cond_t hc7 hp
      refine s6 ?_
      obtain rfl := Option.some.inj hp
      refine jW ((y3x0_1, y3x0_2, y3x0_3) : T_Desks) ?_
      refine s1 ?_
      refine res2 rfl (ResOK.cell rfl mm (by exact agg33.h)) (ResOK.tmp rfl) ⟨(y3x0_1, y3x0_2, y3x0_3), false, rfl, rfl, rfl⟩ ms
    · replace hp := cond_f hc7 hp
      refine s2 ?_
      replace hp := idx_bind hp; obtain ⟨⟨u8_1, u8_2, u8_3, u8_4⟩, hy8, hp⟩ := hp
      refine W_conv (M' := treeH (u8_1, u8_2, u8_3, u8_4) :: holeH y3x0_3 (y4.toNat) (GT.cells (u8_1, u8_2, u8_3, u8_4)) :: _) (fun w h => hole_open hy8.2 pk h) ?_
      refine xW ((u8_1, u8_2, u8_3, u8_4) : T_Sess) ?_
      replace hp := ba hp; obtain ⟨y9, hy9, hp⟩ := hp
      refine W_DS (pre := [_, _, _, _, _, _, _, _, _, _, _, _]) (suf := [_, _, _]) [39, 40, 49] [treeH u8_4] _ pc mix (by kernel_rfl) (by kernel_rfl) rfl ?_
      refine s6 ?_
      refine D_idxH (X := y3x0_3) GC.none (OpV.t rfl) (OpV.t rfl) el31.h mm (fun hg => hy8) ?_
      refine s1 ?_
      refine D_load GC.none (OpV.t rfl) (fun hg => RdC.hole (X := y3x0_3) mm) one25.h rfl ?_
      refine s1 ?_
      refine D_bs1 (OpV.t rfl) el25.h rfl (by decide) (by decide) rfl ?_
      refine D_app1F (X := u8_4) (t := 48) (a2 : ByteArray) (OpV.t rfl) rfl el25.h rfl rfl pk hy9 (by decide) (by kernel_rfl) ?_
      refine s1 ?_
      refine Give_R rfl rfl ?_
      rintro _ _ ⟨X10, rfl, rfl, rfl⟩
      simp only [List.cons_append, List.nil_append]
      refine s12 ?_
      replace hp := idx_bind hp; obtain ⟨u11, hy11, hp⟩ := hp
      obtain rfl : (u8_1, u8_2, u8_3, u8_4) = u11 := Option.some.inj (hy8.2.symm.trans hy11.2)
      refine L_idxH (X := y3x0_3) (cs := _) rfl rfl rfl el31.h mm hy8 ?_
      refine s1 ?_
      refine L_stH (X := y3x0_3) (i := y4.toNat) (sz := 4) (fo := 3) (n := 1) rfl rfl pk rfl (.inr ⟨one25.h, rfl⟩) rfl (allOne rfl) (Nat.le_of_ble_eq_true rfl) ?_
      refine jL ((u8_1, u8_2, u8_3, X10) : T_Sess) ?_
      replace hp := ba hp; obtain ⟨y12, hy12, hp⟩ := hp
      refine L_close (X := y3x0_3) ((u8_1, u8_2, u8_3, X10) : T_Sess) rfl pk pk hy12 (fun X13 hdX13 hhX13 => ?_)
      subst hdX13
      try rw [← hhX13]
      refine s7 ?_
      obtain rfl := Option.some.inj hp
      refine jW ((y3x0_1, y3x0_2, X13) : T_Desks) ?_
      refine s1 ?_
      refine res2 rfl (ResOK.cell rfl mm (by exact agg33.h)) (ResOK.tmp rfl) ⟨(y3x0_1, y3x0_2, X13), true, rfl, rfl, rfl⟩ ms
noncomputable def s_SessOpen (a0 : D_Desks) (a1 : Int) (a2 : Int) : Option (D_Desks × Int × Bool) :=
  Option.bind (s_DesksOk (a0.1, a0.2.1, a0.2.2)) (fun y1 => cond (!y1) (some ((0, 0, ([] : List D_Sess)), 0, false)) (Option.bind (s_l29Copy (a0.1, a0.2.1, a0.2.2)) (fun y3 => Option.bind (s_l1In a1 1 9) (fun y4 => gb (!(!y4)) (s_l1In a2 1 100) (fun y5 => cond ((((!y4) || (!y5)) || (decide (4 ≤ (a0.2.2.length : Int)))) || (decide (1000 ≤ a0.2.1))) (some ((y3.1, y3.2.1, y3.2.2), 0, false)) (Option.bind (appP y3.2.2 [(a0.2.1, a1, IntKind.wrap .i64 (a0.1 + a2), ([] : List ByteArray))]) (fun y8 => some ((y3.1, IntKind.wrap .i64 (a0.2.1 + 1), y8), a0.2.1, true))))))))
theorem s_SessOpen_walk (w : World) (a0 : T_Desks) (a1 : Int) (a2 : Int) (h0 : GT.rd w [] a0) (r : D_Desks × Int × Bool) (hp : s_SessOpen (GT.dat a0) a1 a2 = some r) : Spec Try.prog 128 [.agg (GT.cells a0).toArray, .int .i64 a1, .int .i64 a2].toArray w [] (fun v M => ∃ (x0 : T_Desks) (x1 : Int) (x2 : Bool), v = .tuple #[.agg (GT.cells x0).toArray, .int .i64 x1, .bool x2] ∧ (GT.dat x0, GT.dat x1, GT.dat x2) = r ∧ M = [treeH x0]) := by
  obtain ⟨a0_1, a0_2, a0_3⟩ := a0
  change Spec _ _ ([Value.agg #[.int .i64 a0_1, .int .i64 a0_2, (TL.hdr a0_3)], .int .i64 a1, .int .i64 a2] : List Value).toArray w [] _
  refine Spec.intro Try.func128 rfl Try.ntmps128 rfl ?_
  unfold s_SessOpen at hp
  replace hp := dd hp
  refine s2 ?_
  refine bx fun bk3 => ?_
  refine al fun bk6 => ?_
  refine s7 ?_
  replace hp := ba hp; obtain ⟨y1, hy1, hp⟩ := hp
  refine L_callX rfl fn21.h rfl (by exact fun w hw => s_DesksOk_walk w (a0_1, a0_2, a0_3) (RdT.now (RdT.pair RdT.int (RdT.pair RdT.int (RdT.old h0.2.2))) hw) _ hy1) ?_
  refine s2 ?_
  refine kp [1, 2, 3, 6, 12] ?_
  refine W_cond rfl (fun hc2 => ?_) (fun hc2 => ?_)
  · replace hp := cond_t hc2 hp
    refine s2 ?_
    refine L_build (xs := []) (cs := [.int .i64 0, .int .i64 0, (TL.hdr (TL.nil T_Sess 0))]) rfl rfl bld33.h rfl ?_
    refine s4 ?_
    obtain rfl := Option.some.inj hp
    refine W_conv (M' := treeH (TL.nil T_Sess 0) :: _) (fun w h => addNilT (τ := T_Sess) 0 h) ?_
    refine jW ((0, 0, (TL.nil T_Sess 0)) : T_Desks) ?_
    refine s1 ?_
    refine res3 rfl (ResOK.cell rfl mm (by exact agg33.h)) (ResOK.tmp rfl) (ResOK.tmp rfl) ⟨(0, 0, (TL.nil T_Sess 0)), 0, false, rfl, rfl, rfl⟩ ms
  · replace hp := cond_f hc2 hp
    refine s4 ?_
    replace hp := ba hp; obtain ⟨y3, hy3, hp⟩ := hp
    refine L_callR rfl fn161.h rfl (by exact fun w hw => s_l29Copy_walk w (a0_1, a0_2, a0_3) (RdT.now (RdT.pair RdT.int (RdT.pair RdT.int (RdT.old h0.2.2))) hw) _ hy3) ?_
    rintro _ _ ⟨⟨y3x0_1, y3x0_2, y3x0_3⟩, rfl, rfl, rfl⟩
    refine sc ?_
    replace hp := dd hp
    refine xL ((y3x0_1, y3x0_2, y3x0_3) : T_Desks) ?_
    refine al fun bk9 => ?_
    refine s4 ?_
    replace hp := ba hp; obtain ⟨y4, hy4, hp⟩ := hp
    replace hp := gb_any hp; obtain ⟨y5, hy5, hp⟩ := hp
    refine W_D0 [34] mix (by kernel_rfl) rfl ?_
    refine s1 ?_
    refine D_callX GC.none fn77.h (OpVs.cons (OpV.t rfl) (OpVs.cons OpV.c (OpVs.cons OpV.c (OpVs.nil)))) (by exact fun hg w F hF hM => s_l1In_walk w a1 1 9  _ hy4) ?_
    refine s3 ?_
    refine D_callX (GC.some rfl rfl) fn77.h (OpVs.cons (OpV.s rfl) (OpVs.cons OpV.c (OpVs.cons OpV.c (OpVs.nil)))) (by exact fun hg w F hF hM => s_l1In_walk w a2 1 100  _ (hy5 (gnot hg.2))) ?_
    refine s5 ?_
    refine D_lenP (X := a0_3) (GC.some rfl rfl) (OpV.s rfl) el31.h ?_
    refine s20 ?_
    refine s8 ?_
    refine kp [1, 2, 3, 6, 9, 34] ?_
    refine W_cond rfl (fun hc6 => ?_) (fun hc6 => ?_)
    · replace hp := cond_t hc6 hp
      refine s7 ?_
      obtain rfl := Option.some.inj hp
      refine jW ((y3x0_1, y3x0_2, y3x0_3) : T_Desks) ?_
      refine s1 ?_
      refine res3 rfl (ResOK.cell rfl mm (by exact agg33.h)) (ResOK.tmp rfl) (ResOK.tmp rfl) ⟨(y3x0_1, y3x0_2, y3x0_3), 0, false, rfl, rfl, rfl⟩ ms
    · replace hp := cond_f hc6 hp
      refine s12 ?_
      refine L_build (xs := [(0, .tmp 39), (1, .tmp 40), (2, .tmp 44)]) (cs := [.int .i64 a0_2, .int .i64 a1, .int .i64 (IntKind.wrap .i64 (a0_1 + a2)), (TL.hdr (TL.nil ByteArray 0))]) rfl rfl bld107.h rfl ?_
      refine L_buildSlice1 rfl rfl el31.h rfl (by decide) (by decide) rfl (fun bb46 => ?_)
      replace hp := ba hp; obtain ⟨y8, hy8, hp⟩ := hp
      refine L_conv (M' := treeH (TL.nil ByteArray 0) :: _) (fun w h => addNilT (τ := ByteArray) 0 h) ?_
      refine jL ((a0_2, a1, IntKind.wrap .i64 (a0_1 + a2), (TL.nil ByteArray 0)) : T_Sess) ?_
      refine L_app1 (X := y3x0_3) ((a0_2, a1, IntKind.wrap .i64 (a0_1 + a2), (TL.nil ByteArray 0)) : T_Sess) rfl rfl rfl el31.h rfl rfl pk mm pk hy8 (by decide) (fun X7 hdX7 => ?_)
      subst hdX7
      refine s12 ?_
      refine W_DS (pre := [_, _, _, _, _, _]) (suf := []) [7, 8] [blk bk6 _ _] _ pc mix (by kernel_rfl) (by kernel_rfl) rfl ?_
      refine s3 ?_
      refine D_storeW (OpV.t rfl) (OpV.t rfl) pk (by exact agg33.h) (by rfl) ocs ?_
      refine s11 ?_
      obtain rfl := Option.some.inj hp
      refine jW ((y3x0_1, IntKind.wrap .i64 (a0_2 + 1), X7) : T_Desks) ?_
      refine s1 ?_
      refine res3 rfl (ResOK.cell rfl mm (by exact agg33.h)) (ResOK.tmp rfl) (ResOK.tmp rfl) ⟨(y3x0_1, IntKind.wrap .i64 (a0_2 + 1), X7), a0_2, true, rfl, rfl, rfl⟩ ms
noncomputable def s_SessTick (a0 : D_Desks) (a1 : Int) : Option (D_Desks × (List Int)) :=
  Option.bind (some ([] : List Int)) (fun y2 => Option.bind (s_DesksOk (a0.1, a0.2.1, a0.2.2)) (fun y3 => cond (!y3) (some ((0, 0, ([] : List D_Sess)), y2)) (Option.bind (s_l29Copy (a0.1, a0.2.1, a0.2.2)) (fun y5 => Option.bind (s_l1In a1 1 100) (fun y6 => cond ((!y6) || (decide (100000 < IntKind.wrap .i64 (a0.1 + a1)))) (some ((y5.1, y5.2.1, y5.2.2), y2)) (Option.bind (some ([] : List D_Sess)) (fun y9 => whileP (fun s10 : (List Int) × (List D_Sess) × Int => cond (decide (s10.2.2 < (y5.2.2.length : Int))) (Option.bind (idx y5.2.2 s10.2.2) (fun y12 => cond (decide (IntKind.wrap .i64 (a0.1 + a1) < y12.2.2.1)) (Option.bind (idx y5.2.2 s10.2.2) (fun y14 => Option.bind (appP s10.2.1 [(y14.1, y14.2.1, y14.2.2.1, y14.2.2.2)]) (fun y16 => some (.inl ((s10.1, y16, IntKind.wrap .i64 (s10.2.2 + 1))))))) (Option.bind (idx y5.2.2 s10.2.2) (fun y17 => Option.bind (appP s10.1 [y17.1]) (fun y19 => some (.inl ((y19, s10.2.1, IntKind.wrap .i64 (s10.2.2 + 1))))))))) (Option.map .inr (some ((IntKind.wrap .i64 (a0.1 + a1), y5.2.1, s10.2.1), s10.1)))) (y2, y9, 0))))))))
theorem s_SessTick_walk (w : World) (a0 : T_Desks) (a1 : Int) (h0 : GT.rd w [] a0) (r : D_Desks × (List Int)) (hp : s_SessTick (GT.dat a0) a1 = some r) : Spec Try.prog 129 [.agg (GT.cells a0).toArray, .int .i64 a1].toArray w [] (fun v M => ∃ (x0 : T_Desks) (x1 : TL Int), v = .tuple #[.agg (GT.cells x0).toArray, (TL.hdr x1)] ∧ (GT.dat x0, GT.dat x1) = r ∧ M = [treeH x0, treeH x1]) := by
  obtain ⟨a0_1, a0_2, a0_3⟩ := a0
  change Spec _ _ ([Value.agg #[.int .i64 a0_1, .int .i64 a0_2, (TL.hdr a0_3)], .int .i64 a1] : List Value).toArray w [] _
  refine Spec.intro Try.func129 rfl Try.ntmps129 rfl ?_
  unfold s_SessTick at hp
  replace hp := dd hp
  refine s2 ?_
  refine bx fun bk2 => ?_
  refine al fun bk4 => ?_
  refine L_assign (v := (TL.hdr (TL.nil Int 0))) rfl rfl ?_
  refine s3 ?_
  replace hp := ba hp; obtain ⟨y2, hy2, hp⟩ := hp
  refine L_mk0 Int rfl el34.h (fun X1 hdX1 => ?_)
  obtain rfl : GT.dat X1 = y2 := hdX1.trans (Option.some.inj hy2)
  clear hy2 hdX1
  refine s6 ?_
  replace hp := ba hp; obtain ⟨y3, hy3, hp⟩ := hp
  refine L_callX rfl fn21.h rfl (by exact fun w hw => s_DesksOk_walk w (a0_1, a0_2, a0_3) (RdT.now (RdT.pair RdT.int (RdT.pair RdT.int (RdT.old h0.2.2))) hw) _ hy3) ?_
  refine s2 ?_
  refine kp [1, 2, 4, 6, 13] ?_
  refine W_cond rfl (fun hc4 => ?_) (fun hc4 => ?_)
  · replace hp := cond_t hc4 hp
    refine s2 ?_
    refine L_build (xs := []) (cs := [.int .i64 0, .int .i64 0, (TL.hdr (TL.nil T_Sess 0))]) rfl rfl bld33.h rfl ?_
    refine s4 ?_
    obtain rfl := Option.some.inj hp
    refine W_conv (M' := treeH (TL.nil T_Sess 0) :: _) (fun w h => addNilT (τ := T_Sess) 0 h) ?_
    refine jW ((0, 0, (TL.nil T_Sess 0)) : T_Desks) ?_
    refine s1 ?_
    refine res2 rfl (ResOK.cell rfl mm (by exact agg33.h)) (ResOK.tmp rfl) ⟨(0, 0, (TL.nil T_Sess 0)), X1, rfl, rfl, rfl⟩ ms
  · replace hp := cond_f hc4 hp
    refine s4 ?_
    replace hp := ba hp; obtain ⟨y5, hy5, hp⟩ := hp
    refine L_callR rfl fn161.h rfl (by exact fun w hw => s_l29Copy_walk w (a0_1, a0_2, a0_3) (RdT.now (RdT.pair RdT.int (RdT.pair RdT.int (RdT.old h0.2.2))) hw) _ hy5) ?_
    rintro _ _ ⟨⟨y5x0_1, y5x0_2, y5x0_3⟩, rfl, rfl, rfl⟩
    refine sc ?_
    replace hp := dd hp
    refine xL ((y5x0_1, y5x0_2, y5x0_3) : T_Desks) ?_
    refine al fun bk7 => ?_
    refine s4 ?_
    replace hp := ba hp; obtain ⟨y6, hy6, hp⟩ := hp
    refine W_D0 [27] mix (by kernel_rfl) rfl ?_
    refine s1 ?_
    refine D_callX GC.none fn77.h (OpVs.cons (OpV.t rfl) (OpVs.cons OpV.c (OpVs.cons OpV.c (OpVs.nil)))) (by exact fun hg w F hF hM => s_l1In_walk w a1 1 100  _ hy6) ?_
    refine s20 ?_
    refine kp [1, 2, 4, 6, 7, 27] ?_
    refine W_cond rfl (fun hc7 => ?_) (fun hc7 => ?_)
    · replace hp := cond_t hc7 hp
      refine s7 ?_
      obtain rfl := Option.some.inj hp
      refine jW ((y5x0_1, y5x0_2, y5x0_3) : T_Desks) ?_
      refine s1 ?_
      refine res2 rfl (ResOK.cell rfl mm (by exact agg33.h)) (ResOK.tmp rfl) ⟨(y5x0_1, y5x0_2, y5x0_3), X1, rfl, rfl, rfl⟩ ms
    · replace hp := cond_f hc7 hp
      refine s12 ?_
      replace hp := ba hp; obtain ⟨y9, hy9, hp⟩ := hp
      refine L_mk0 T_Sess rfl el31.h (fun X8 hdX8 => ?_)
      obtain rfl : GT.dat X8 = y9 := hdX8.trans (Option.some.inj hy9)
      clear hy9 hdX8
      refine s8 ?_
      refine W_conv (M' := rowH y5x0_3 :: elsT (y5x0_3.els.drop 0) :: _) (fun w h => els_start pk h) ?_
      refine W_while (σ := (TL Int) × (TL T_Sess) × Int) GT.dat (fun ((v10_0, v10_1, v10_2) : (TL Int) × (TL T_Sess) × Int) => [(6, (TL.hdr v10_0)), (8, (TL.hdr v10_1)), (9, .int .i64 v10_2)]) (fun ((v10_0, v10_1, v10_2) : (TL Int) × (TL T_Sess) × Int) => [treeH v10_0, treeH v10_1, elsT (y5x0_3.els.drop (v10_2.toNat))]) [(4, _), (7, _)] [blk bk4 _ _, blk bk7 _ _, rowH y5x0_3] (X1, X8, 0) hp sb ms ?_
      clear hp
      rintro ⟨v10_0, v10_1, v10_2⟩ x10 hp hx10
      replace hp := dd hp
      refine kq [4, 6, 7, 8, 9] ?_
      refine s9 ?_
      refine kp [4, 6, 7, 8, 9, 40] ?_
      refine W_cond rfl (fun hc11 => ?_) (fun hc11 => ?_)
      · replace hp := cond_t hc11 hp
        refine s4 ?_
        replace hp := idx_bind hp; obtain ⟨⟨u12_1, u12_2, u12_3, u12_4⟩, hy12, hp⟩ := hp
        refine W_D0 [51] mix (by kernel_rfl) rfl ?_
        refine s3 ?_
        refine D_idxR (X := y5x0_3) GC.none (OpV.t rfl) (OpV.t rfl) el31.h mm (fun hg => hy12) ?_
        refine s1 ?_
        refine D_load GC.none (OpV.t rfl) (fun hg => RdC.row (X := y5x0_3) mm (hy12).2) one3.h rfl ?_
        refine s14 ?_
        refine kp [4, 6, 7, 8, 9, 51] ?_
        refine W_cond rfl (fun hc13 => ?_) (fun hc13 => ?_)
        · replace hp := cond_t hc13 hp
          refine s5 ?_
          replace hp := idx_bind hp; obtain ⟨u14, hy14, hp⟩ := hp
          obtain rfl : (u12_1, u12_2, u12_3, u12_4) = u14 := Option.some.inj (hy12.2.symm.trans hy14.2)
          refine L_idxR (X := y5x0_3) rfl rfl rfl el31.h mm hy12 ?_
          refine L_conv (M' := treeH (u12_1, u12_2, u12_3, u12_4) :: elsT (y5x0_3.els.drop (v10_2.toNat + 1)) :: _) (fun w h => els_next hy12.2 pk h) ?_
          refine xL ((u12_1, u12_2, u12_3, u12_4) : T_Sess) ?_
          refine L_loadW rfl rfl (RdC.row (X := y5x0_3) mm hy12.2) (by exact agg107.h) ?_
          refine L_buildSlice1 rfl rfl el31.h rfl (by decide) (by decide) rfl (fun bb58 => ?_)
          replace hp := ba hp; obtain ⟨y16, hy16, hp⟩ := hp
          refine jL ((u12_1, u12_2, u12_3, u12_4) : T_Sess) ?_
          refine L_app1 (X := v10_1) ((u12_1, u12_2, u12_3, u12_4) : T_Sess) rfl rfl rfl el31.h rfl rfl pk mm pk hy16 (by decide) (fun X15 hdX15 => ?_)
          subst hdX15
          refine s7 ?_
          exact ⟨(v10_0, X15, IntKind.wrap .i64 (v10_2 + 1)), sb, ⟨_, fun w h => (els_step hy12 mm pk h), ms⟩, some_eq hp⟩
        · replace hp := cond_f hc13 hp
          refine s5 ?_
          replace hp := idx_bind hp; obtain ⟨u17, hy17, hp⟩ := hp
          obtain rfl : (u12_1, u12_2, u12_3, u12_4) = u17 := Option.some.inj (hy12.2.symm.trans hy17.2)
          refine L_idxR (X := y5x0_3) rfl rfl rfl el31.h mm hy12 ?_
          refine s1 ?_
          refine L_load rfl rfl (RdC.row (X := y5x0_3) mm (hy12).2) one3.h rfl ?_
          refine L_buildSlice1 rfl rfl el34.h rfl (by decide) (by decide) rfl (fun bb67 => ?_)
          replace hp := ba hp; obtain ⟨y19, hy19, hp⟩ := hp
          refine L_app1F (X := v10_0) (u12_1 : Int) rfl rfl rfl el34.h rfl rfl pk mm  hy19 (by decide) (fun X18 hdX18 => ?_)
          subst hdX18
          refine s7 ?_
          exact ⟨(X18, v10_1, IntKind.wrap .i64 (v10_2 + 1)), sb, ⟨_, fun w h => (els_skip hy12 mm pk h), ms⟩, some_eq hp⟩
      · replace hp := cond_f hc11 hp
        refine W_exit ?_
        replace hp := map_any hp; obtain ⟨a20, hp, hx_a20⟩ := hp
        obtain rfl := hx10 _ hx_a20
        refine s13 ?_
        obtain rfl := Option.some.inj hp
        refine jW ((IntKind.wrap .i64 (a0_1 + a1), y5x0_2, v10_1) : T_Desks) ?_
        refine s1 ?_
        refine res2 rfl (ResOK.cell rfl mm (by exact agg33.h)) (ResOK.tmp rfl) ⟨(IntKind.wrap .i64 (a0_1 + a1), y5x0_2, v10_1), v10_0, rfl, rfl, rfl⟩ ms
noncomputable def s_SessEnd (a0 : D_Desks) (a1 : Int) : Option (D_Desks × ByteArray × Bool) :=
  Option.bind (s_DesksOk (a0.1, a0.2.1, a0.2.2)) (fun y1 => cond (!y1) (some ((0, 0, ([] : List D_Sess)), ByteArray.empty, false)) (Option.bind (s_l29Copy (a0.1, a0.2.1, a0.2.2)) (fun y3 => Option.bind (s_l29At (y3.1, y3.2.1, y3.2.2) a1) (fun y4 => cond (decide (y4 < 0)) (some ((y3.1, y3.2.1, y3.2.2), ByteArray.empty, false)) (Option.bind (idx y3.2.2 y4) (fun y6 => Option.bind (s_Joined y6.2.2.2) (fun y7 => Option.bind (some ([] : List D_Sess)) (fun y9 => Option.bind (slcP y3.2.2 (0 : Int) y4) (fun y10 => Option.bind (chkP (decide (0 ≤ ((0 : Int)).toNat))) (fun y13 => Option.bind (appP y9 y10) (fun y14 => Option.bind (slcP y3.2.2 (IntKind.wrap .i64 (y4 + 1)) (y3.2.2.length : Int)) (fun y15 => Option.bind (chkP (decide ((y4).toNat ≤ (IntKind.wrap .i64 (y4 + 1)).toNat))) (fun y18 => Option.bind (appP y14 y15) (fun y19 => some ((y3.1, y3.2.1, y19), y7, true)))))))))))))))
theorem s_SessEnd_walk (w : World) (a0 : T_Desks) (a1 : Int) (h0 : GT.rd w [] a0) (r : D_Desks × ByteArray × Bool) (hp : s_SessEnd (GT.dat a0) a1 = some r) : Spec Try.prog 130 [.agg (GT.cells a0).toArray, .int .i64 a1].toArray w [] (fun v M => ∃ (x0 : T_Desks) (x1 : ByteArray) (x2 : Bool), v = .tuple #[.agg (GT.cells x0).toArray, .string x1, .bool x2] ∧ (GT.dat x0, GT.dat x1, GT.dat x2) = r ∧ M = [treeH x0]) := by
  obtain ⟨a0_1, a0_2, a0_3⟩ := a0
  change Spec _ _ ([Value.agg #[.int .i64 a0_1, .int .i64 a0_2, (TL.hdr a0_3)], .int .i64 a1] : List Value).toArray w [] _
  refine Spec.intro Try.func130 rfl Try.ntmps130 rfl ?_
  unfold s_SessEnd at hp
  replace hp := dd hp
  refine s2 ?_
  refine bx fun bk2 => ?_
  refine al fun bk4 => ?_
  refine s7 ?_
  replace hp := ba hp; obtain ⟨y1, hy1, hp⟩ := hp
  refine L_callX rfl fn21.h rfl (by exact fun w hw => s_DesksOk_walk w (a0_1, a0_2, a0_3) (RdT.now (RdT.pair RdT.int (RdT.pair RdT.int (RdT.old h0.2.2))) hw) _ hy1) ?_
  refine s2 ?_
  refine kp [1, 2, 4, 13] ?_
  refine W_cond rfl (fun hc2 => ?_) (fun hc2 => ?_)
  · replace hp := cond_t hc2 hp
    refine s2 ?_
    refine L_build (xs := []) (cs := [.int .i64 0, .int .i64 0, (TL.hdr (TL.nil T_Sess 0))]) rfl rfl bld33.h rfl ?_
    refine s4 ?_
    obtain rfl := Option.some.inj hp
    refine W_conv (M' := treeH (TL.nil T_Sess 0) :: _) (fun w h => addNilT (τ := T_Sess) 0 h) ?_
    refine jW ((0, 0, (TL.nil T_Sess 0)) : T_Desks) ?_
    refine s1 ?_
    refine res3 rfl (ResOK.cell rfl mm (by exact agg33.h)) (ResOK.tmp rfl) (ResOK.tmp rfl) ⟨(0, 0, (TL.nil T_Sess 0)), ByteArray.empty, false, rfl, rfl, rfl⟩ ms
  · replace hp := cond_f hc2 hp
    refine s4 ?_
    replace hp := ba hp; obtain ⟨y3, hy3, hp⟩ := hp
    refine L_callR rfl fn161.h rfl (by exact fun w hw => s_l29Copy_walk w (a0_1, a0_2, a0_3) (RdT.now (RdT.pair RdT.int (RdT.pair RdT.int (RdT.old h0.2.2))) hw) _ hy3) ?_
    rintro _ _ ⟨⟨y3x0_1, y3x0_2, y3x0_3⟩, rfl, rfl, rfl⟩
    refine sc ?_
    replace hp := dd hp
    refine xL ((y3x0_1, y3x0_2, y3x0_3) : T_Desks) ?_
    refine al fun bk7 => ?_
    refine s6 ?_
    replace hp := ba hp; obtain ⟨y4, hy4, hp⟩ := hp
    refine L_callX rfl fn162.h rfl (by exact fun w hw => s_l29At_walk w (y3x0_1, y3x0_2, y3x0_3) a1 (RdT.now (RdT.pair RdT.int (RdT.pair RdT.int (RdT.tree mm))) hw) _ hy4) ?_
    refine s8 ?_
    refine kp [4, 7, 8, 21] ?_
    refine W_cond rfl (fun hc5 => ?_) (fun hc5 => ?_)
    · replace hp := cond_t hc5 hp
      refine s7 ?_
      obtain rfl := Option.some.inj hp
      refine jW ((y3x0_1, y3x0_2, y3x0_3) : T_Desks) ?_
      refine s1 ?_
      refine res3 rfl (ResOK.cell rfl mm (by exact agg33.h)) (ResOK.tmp rfl) (ResOK.tmp rfl) ⟨(y3x0_1, y3x0_2, y3x0_3), ByteArray.empty, false, rfl, rfl, rfl⟩ ms
    · replace hp := cond_f hc5 hp
      refine s6 ?_
      replace hp := idx_bind hp; obtain ⟨⟨u6_1, u6_2, u6_3, u6_4⟩, hy6, hp⟩ := hp
      refine L_idxA (X := y3x0_3) rfl rfl rfl el31.h (RdT.tree mm) hy6 ?_
      refine s1 ?_
      refine L_load rfl rfl (RdT.at (RdT.tree mm) (hy6).2) one25.h rfl ?_
      replace hp := ba hp; obtain ⟨y7, hy7, hp⟩ := hp
      refine L_callX rfl fn163.h rfl (by exact fun w hw => s_Joined_walk w u6_4 (RdT.now (RdT.snd (RdT.snd (RdT.snd (RdT.of (RdT.tree mm) (hy6).2)))) hw) _ hy7) ?_
      refine s4 ?_
      replace hp := ba hp; obtain ⟨y9, hy9, hp⟩ := hp
      refine L_mk0 T_Sess rfl el31.h (fun X8 hdX8 => ?_)
      obtain rfl : GT.dat X8 = y9 := hdX8.trans (Option.some.inj hy9)
      clear hy9 hdX8
      refine s3 ?_
      refine L_conv (M' := rowH y3x0_3 :: elsT (y3x0_3.els.drop 0) :: _) (fun w h => els_start pk h) ?_
      replace hp := ba hp; obtain ⟨y10, hy10, hp⟩ := hp
      refine L_slM (X := y3x0_3) rfl rfl rfl rfl el31.h rfl mm hy10 (fun X11 hdX11 heX11 => ?_)
      have hsX11 := hy10
      subst hdX11
      replace hp := ba hp; obtain ⟨y13, hy13, hp⟩ := hp
      replace hp := ba hp; obtain ⟨y14, hy14, hp⟩ := hp
      refine L_appM (X := X8) (V := y3x0_3) (Y := X11) rfl rfl rfl el31.h rfl rfl pk heX11 hsX11 mm pk hy13 hy14 (by decide) (fun X12 hdX12 => ?_)
      subst hdX12
      refine s9 ?_
      replace hp := ba hp; obtain ⟨y15, hy15, hp⟩ := hp
      refine L_slM (X := y3x0_3) rfl rfl rfl rfl el31.h rfl mm hy15 (fun X16 hdX16 heX16 => ?_)
      have hsX16 := hy15
      subst hdX16
      replace hp := ba hp; obtain ⟨y18, hy18, hp⟩ := hp
      replace hp := ba hp; obtain ⟨y19, hy19, hp⟩ := hp
      refine L_appM (X := X12) (V := y3x0_3) (Y := X16) rfl rfl rfl el31.h rfl rfl pk heX16 hsX16 mm pk hy18 hy19 (by decide) (fun X17 hdX17 => ?_)
      subst hdX17
      refine s11 ?_
      obtain rfl := Option.some.inj hp
      refine jW ((y3x0_1, y3x0_2, X17) : T_Desks) ?_
      refine s1 ?_
      refine res3 rfl (ResOK.cell rfl mm (by exact agg33.h)) (ResOK.tmp rfl) (ResOK.tmp rfl) ⟨(y3x0_1, y3x0_2, X17), y7, true, rfl, rfl, rfl⟩ ms
noncomputable def s_SessPut (a0 : D_Desks) (a1 : Int) (a2 : ByteArray) : Option (D_Desks × Bool) :=
  Option.bind (s_DesksOk (a0.1, a0.2.1, a0.2.2)) (fun y1 => cond (!y1) (some ((0, 0, ([] : List D_Sess)), false)) (Option.bind (s_l29Copy (a0.1, a0.2.1, a0.2.2)) (fun y3 => Option.bind (s_l29At (y3.1, y3.2.1, y3.2.2) a1) (fun y4 => gb (!(decide (y4 < 0))) (idx y3.2.2 y4) (fun y5 => gb (!((decide (y4 < 0)) || (decide (6 ≤ (y5.2.2.2.length : Int))))) (s_l1In (a2.size : Int) 1 10) (fun y6 => cond (((decide (y4 < 0)) || (decide (6 ≤ (y5.2.2.2.length : Int)))) || (!y6)) (some ((y3.1, y3.2.1, y3.2.2), false)) (Option.bind (some ([] : List ByteArray)) (fun y9 => Option.bind (idx y3.2.2 y4) (fun y10 => Option.bind (appP y9 y10.2.2.2) (fun y12 => Option.bind (appP y12 [a2]) (fun y13 => Option.bind (idx y3.2.2 y4) (fun y15 => Option.bind (some (y3.2.2.set (y4.toNat) (y15.1, y15.2.1, y15.2.2.1, y13))) (fun y16 => some ((y3.1, y3.2.1, y16), true))))))))))))))
theorem s_SessPut_walk (w : World) (a0 : T_Desks) (a1 : Int) (a2 : ByteArray) (h0 : GT.rd w [] a0) (r : D_Desks × Bool) (hp : s_SessPut (GT.dat a0) a1 a2 = some r) : Spec Try.prog 131 [.agg (GT.cells a0).toArray, .int .i64 a1, .string a2].toArray w [] (fun v M => ∃ (x0 : T_Desks) (x1 : Bool), v = .tuple #[.agg (GT.cells x0).toArray, .bool x1] ∧ (GT.dat x0, GT.dat x1) = r ∧ M = [treeH x0]) := by
  obtain ⟨a0_1, a0_2, a0_3⟩ := a0
  change Spec _ _ ([Value.agg #[.int .i64 a0_1, .int .i64 a0_2, (TL.hdr a0_3)], .int .i64 a1, .string a2] : List Value).toArray w [] _
  refine Spec.intro Try.func131 rfl Try.ntmps131 rfl ?_
  unfold s_SessPut at hp
  replace hp := dd hp
  refine s2 ?_
  refine bx fun bk3 => ?_
  refine al fun bk6 => ?_
  refine s6 ?_
  replace hp := ba hp; obtain ⟨y1, hy1, hp⟩ := hp
  refine L_callX rfl fn21.h rfl (by exact fun w hw => s_DesksOk_walk w (a0_1, a0_2, a0_3) (RdT.now (RdT.pair RdT.int (RdT.pair RdT.int (RdT.old h0.2.2))) hw) _ hy1) ?_
  refine s2 ?_
  refine kp [1, 2, 3, 6, 13] ?_
  refine W_cond rfl (fun hc2 => ?_) (fun hc2 => ?_)
  · replace hp := cond_t hc2 hp
    refine s2 ?_
    refine L_build (xs := []) (cs := [.int .i64 0, .int .i64 0, (TL.hdr (TL.nil T_Sess 0))]) rfl rfl bld33.h rfl ?_
    refine s3 ?_
    obtain rfl := Option.some.inj hp
    refine W_conv (M' := treeH (TL.nil T_Sess 0) :: _) (fun w h => addNilT (τ := T_Sess) 0 h) ?_
    refine jW ((0, 0, (TL.nil T_Sess 0)) : T_Desks) ?_
    refine s1 ?_
    refine res2 rfl (ResOK.cell rfl mm (by exact agg33.h)) (ResOK.tmp rfl) ⟨(0, 0, (TL.nil T_Sess 0)), false, rfl, rfl, rfl⟩ ms
  · replace hp := cond_f hc2 hp
    refine s4 ?_
    replace hp := ba hp; obtain ⟨y3, hy3, hp⟩ := hp
    refine L_callR rfl fn161.h rfl (by exact fun w hw => s_l29Copy_walk w (a0_1, a0_2, a0_3) (RdT.now (RdT.pair RdT.int (RdT.pair RdT.int (RdT.old h0.2.2))) hw) _ hy3) ?_
    rintro _ _ ⟨⟨y3x0_1, y3x0_2, y3x0_3⟩, rfl, rfl, rfl⟩
    refine sc ?_
    replace hp := dd hp
    refine xL ((y3x0_1, y3x0_2, y3x0_3) : T_Desks) ?_
    refine al fun bk8 => ?_
    refine s6 ?_
    replace hp := ba hp; obtain ⟨y4, hy4, hp⟩ := hp
    refine L_callX rfl fn162.h rfl (by exact fun w hw => s_l29At_walk w (y3x0_1, y3x0_2, y3x0_3) a1 (RdT.now (RdT.pair RdT.int (RdT.pair RdT.int (RdT.tree mm))) hw) _ hy4) ?_
    refine s4 ?_
    replace hp := idx_gb hp; obtain ⟨⟨u5_1, u5_2, u5_3, u5_4⟩, hy5, hp⟩ := hp
    replace hp := gb_any hp; obtain ⟨y6, hy6, hp⟩ := hp
    refine W_D0 [37] mix (by kernel_rfl) rfl ?_
    refine s6 ?_
    refine D_idxA (X := y3x0_3) (GC.some rfl rfl) (OpV.s rfl) (OpV.s rfl) el31.h (RdT.tree mm) (fun hg => hy5 (gnot hg.2)) ?_
    refine s1 ?_
    refine D_load (GC.some rfl rfl) (OpV.s rfl) (fun hg => RdT.at (RdT.tree mm) (hy5 (gnot hg.2)).2) one25.h rfl ?_
    refine D_lenP (X := u5_4) (GC.some rfl rfl) (OpV.s rfl) el25.h ?_
    refine s4 ?_
    refine D_lenT (GC.some rfl rfl) (OpV.s rfl) str9.h ?_
    refine D_callX (GC.some rfl rfl) fn77.h (OpVs.cons (OpV.s rfl) (OpVs.cons OpV.c (OpVs.cons OpV.c (OpVs.nil)))) (by exact fun hg w F hF hM => s_l1In_walk w (a2.size : Int) 1 10  _ (hy6 (gnot hg.2))) ?_
    refine s20 ?_
    refine s2 ?_
    refine kp [2, 6, 8, 9, 37] ?_
    refine W_cond rfl (fun hc7 => ?_) (fun hc7 => ?_)
    · replace hp := cond_t hc7 hp
      refine s6 ?_
      obtain rfl := Option.some.inj hp
      refine jW ((y3x0_1, y3x0_2, y3x0_3) : T_Desks) ?_
      refine s1 ?_
      refine res2 rfl (ResOK.cell rfl mm (by exact agg33.h)) (ResOK.tmp rfl) ⟨(y3x0_1, y3x0_2, y3x0_3), false, rfl, rfl, rfl⟩ ms
    · replace hp := cond_f hc7 hp
      refine s3 ?_
      replace hp := ba hp; obtain ⟨y9, hy9, hp⟩ := hp
      refine L_mk0 ByteArray rfl el25.h (fun X8 hdX8 => ?_)
      obtain rfl : GT.dat X8 = y9 := hdX8.trans (Option.some.inj hy9)
      clear hy9 hdX8
      refine s3 ?_
      replace hp := idx_bind hp; obtain ⟨⟨u10_1, u10_2, u10_3, u10_4⟩, hy10, hp⟩ := hp
      refine L_idxA (X := y3x0_3) rfl rfl rfl el31.h (RdT.tree mm) hy10 ?_
      refine s1 ?_
      refine L_load rfl rfl (RdT.at (RdT.tree mm) (hy10).2) one25.h rfl ?_
      replace hp := ba hp; obtain ⟨y12, hy12, hp⟩ := hp
      refine L_appT (X := X8) (Y := u10_4) rfl rfl rfl el25.h rfl rfl pk (RdT.snd (RdT.snd (RdT.snd (RdT.of (RdT.tree mm) (hy10).2)))) hy12 (by decide) (fun X11 hdX11 => ?_)
      subst hdX11
      refine s3 ?_
      replace hp := ba hp; obtain ⟨y13, hy13, hp⟩ := hp
      refine W_DS (pre := [_, _, _, _, _, _, _]) (suf := [_, _, _]) [48, 49, 53] [treeH X11] _ pc mix (by kernel_rfl) (by kernel_rfl) rfl ?_
      refine s5 ?_
      refine D_bs1 (OpV.t rfl) el25.h rfl (by decide) (by decide) rfl ?_
      refine D_app1F (X := X11) (t := 52) (a2 : ByteArray) (OpV.t rfl) rfl el25.h rfl rfl pk hy13 (by decide) (by kernel_rfl) ?_
      refine s1 ?_
      refine Give_R rfl rfl ?_
      rintro _ _ ⟨X14, rfl, rfl, rfl⟩
      simp only [List.cons_append, List.nil_append]
      refine s7 ?_
      replace hp := idx_bind hp; obtain ⟨u15, hy15, hp⟩ := hp
      obtain rfl : (u10_1, u10_2, u10_3, u10_4) = u15 := Option.some.inj (hy10.2.symm.trans hy15.2)
      refine L_idxA (X := y3x0_3) rfl rfl rfl el31.h (RdT.tree mm) hy10 ?_
      refine s1 ?_
      refine L_conv (M' := treeH (u10_1, u10_2, u10_3, u10_4) :: holeH y3x0_3 (y4.toNat) (GT.cells (u10_1, u10_2, u10_3, u10_4)) :: _) (fun w h => hole_open hy10.2 pk h) ?_
      refine xL ((u10_1, u10_2, u10_3, u10_4) : T_Sess) ?_
      refine L_stH (X := y3x0_3) (i := y4.toNat) (sz := 4) (fo := 3) (n := 1) rfl rfl pk rfl (.inr ⟨one25.h, rfl⟩) rfl (allOne rfl) (Nat.le_of_ble_eq_true rfl) ?_
      refine jL ((u10_1, u10_2, u10_3, X14) : T_Sess) ?_
      replace hp := ba hp; obtain ⟨y16, hy16, hp⟩ := hp
      refine L_close (X := y3x0_3) ((u10_1, u10_2, u10_3, X14) : T_Sess) rfl pk pk hy16 (fun X17 hdX17 hhX17 => ?_)
      subst hdX17
      try rw [← hhX17]
      refine s7 ?_
      obtain rfl := Option.some.inj hp
      refine jW ((y3x0_1, y3x0_2, X17) : T_Desks) ?_
      refine s1 ?_
      refine res2 rfl (ResOK.cell rfl mm (by exact agg33.h)) (ResOK.tmp rfl) ⟨(y3x0_1, y3x0_2, X17), true, rfl, rfl, rfl⟩ ms
noncomputable def i_SessOf (a0 : D_Desks) (a1 : Int) : Option (List Int) :=
  Option.bind (i_DesksOk (a0.1, a0.2.1, a0.2.2)) (fun y1 => cond (!y1) (some ([] : List Int)) (Option.bind (some ([] : List Int)) (fun y4 => whileP (fun s5 : (List Int) × Int => cond (decide (s5.2 < (a0.2.2.length : Int))) (Option.bind (idx a0.2.2 s5.2) (fun y7 => cond (decide (y7.2.1 = a1)) (Option.bind (appP s5.1 [y7.1]) (fun y10 => some (.inl ((y10, IntKind.wrap .i64 (s5.2 + 1)))))) (some (.inl ((s5.1, IntKind.wrap .i64 (s5.2 + 1))))))) (Option.map .inr (some s5.1))) (y4, 0))))
theorem i_SessOf_walk (w : World) (a0 : T_Desks) (a1 : Int) (h0 : GT.rd w [] a0) (r : (List Int)) (hp : i_SessOf (GT.dat a0) a1 = some r) : Spec Try.prog 24 [.agg (GT.cells a0).toArray, .int .i64 a1].toArray w [] (fun v M => ∃ (x0 : TL Int), v = (TL.hdr x0) ∧ GT.dat x0 = r ∧ M = [treeH x0]) := by
  obtain ⟨a0_1, a0_2, a0_3⟩ := a0
  change Spec _ _ ([Value.agg #[.int .i64 a0_1, .int .i64 a0_2, (TL.hdr a0_3)], .int .i64 a1] : List Value).toArray w [] _
  refine Spec.intro Try.func24 rfl Try.ntmps24 rfl ?_
  unfold i_SessOf at hp
  replace hp := dd hp
  refine s2 ?_
  refine bx fun bk2 => ?_
  refine L_assign (v := (TL.hdr (TL.nil Int 0))) rfl rfl ?_
  refine s5 ?_
  replace hp := ba hp; obtain ⟨y1, hy1, hp⟩ := hp
  refine L_callX rfl fn70.h rfl (by exact fun w hw => i_DesksOk_walk w (a0_1, a0_2, a0_3) (RdT.now (RdT.pair RdT.int (RdT.pair RdT.int (RdT.old h0.2.2))) hw) _ hy1) ?_
  refine s2 ?_
  refine kp [1, 2, 10] ?_
  refine W_cond rfl (fun hc2 => ?_) (fun hc2 => ?_)
  · replace hp := cond_t hc2 hp
    refine s2 ?_
    refine L_assign (v := (TL.hdr (TL.nil Int 0))) rfl rfl ?_
    refine s1 ?_
    obtain rfl := Option.some.inj hp
    refine W_conv (M' := treeH (TL.nil Int 0) :: _) (fun w h => addNilT (τ := Int) 0 h) ?_
    refine s1 ?_
    refine res1 rfl (ResOK.tmp rfl) ⟨(TL.nil Int 0), rfl, rfl, rfl⟩ ms
  · replace hp := cond_f hc2 hp
    refine s3 ?_
    replace hp := ba hp; obtain ⟨y4, hy4, hp⟩ := hp
    refine L_mk0 Int rfl el34.h (fun X3 hdX3 => ?_)
    obtain rfl : GT.dat X3 = y4 := hdX3.trans (Option.some.inj hy4)
    clear hy4 hdX3
    refine s11 ?_
    refine W_while (σ := (TL Int) × Int) GT.dat (fun ((v5_0, v5_1) : (TL Int) × Int) => [(5, (TL.hdr v5_0)), (15, .int .i64 v5_1)]) (fun ((v5_0, v5_1) : (TL Int) × Int) => [treeH v5_0]) [(1, _), (13, _), (14, _)] [] (X3, 0) hp sb ms ?_
    clear hp
    rintro ⟨v5_0, v5_1⟩ x5 hp hx5
    replace hp := dd hp
    refine kq [1, 5, 13, 14, 15] ?_
    refine s5 ?_
    refine kp [1, 5, 13, 14, 15, 16] ?_
    refine W_cond rfl (fun hc6 => ?_) (fun hc6 => ?_)
    · replace hp := cond_t hc6 hp
      refine s5 ?_
      replace hp := idx_bind hp; obtain ⟨⟨u7_1, u7_2, u7_3, u7_4⟩, hy7, hp⟩ := hp
      refine L_idxA (X := a0_3) rfl rfl rfl el31.h (RdT.old h0.2.2) hy7 ?_
      refine L_loadW rfl rfl (RdT.at (RdT.old h0.2.2) (hy7).2) (by exact agg107.h) ?_
      refine al fun bk7 => ?_
      refine s9 ?_
      refine kp [1, 5, 7, 13, 14, 15, 22] ?_
      refine W_cond rfl (fun hc8 => ?_) (fun hc8 => ?_)
      · replace hp := cond_t hc8 hp
        refine s4 ?_
        refine L_buildSlice1 rfl rfl el34.h rfl (by decide) (by decide) rfl (fun bb26 => ?_)
        replace hp := ba hp; obtain ⟨y10, hy10, hp⟩ := hp
        refine L_app1F (X := v5_0) (u7_1 : Int) rfl rfl rfl el34.h rfl rfl pk mm  hy10 (by decide) (fun X9 hdX9 => ?_)
        subst hdX9
        refine s6 ?_
        exact ⟨(X9, IntKind.wrap .i64 (v5_1 + 1)), sb, (.sub ms), some_eq hp⟩
      · replace hp := cond_f hc8 hp
        refine s5 ?_
        exact ⟨(v5_0, IntKind.wrap .i64 (v5_1 + 1)), sb, (.sub ms), some_eq hp⟩
    · replace hp := cond_f hc6 hp
      refine W_exit ?_
      replace hp := map_any hp; obtain ⟨a11, hp, hx_a11⟩ := hp
      obtain rfl := hx5 _ hx_a11
      refine s5 ?_
      obtain rfl := Option.some.inj hp
      refine s1 ?_
      refine res1 rfl (ResOK.tmp rfl) ⟨v5_0, rfl, rfl, rfl⟩ ms
noncomputable def s_SessOf (a0 : D_Desks) (a1 : Int) : Option (List Int) :=
  Option.bind (some ([] : List Int)) (fun y2 => whileP (fun s3 : (List Int) × Int => gb (decide (s3.2 < (a0.2.2.length : Int))) (s_DesksOk (a0.1, a0.2.1, a0.2.2)) (fun y4 => cond ((decide (s3.2 < (a0.2.2.length : Int))) && y4) (Option.bind (idx a0.2.2 s3.2) (fun y6 => cond (decide (y6.2.1 = a1)) (Option.bind (idx a0.2.2 s3.2) (fun y8 => Option.bind (appP s3.1 [y8.1]) (fun y10 => some (.inl ((y10, IntKind.wrap .i64 (s3.2 + 1))))))) (some (.inl ((s3.1, IntKind.wrap .i64 (s3.2 + 1))))))) (Option.map .inr (some s3.1)))) (y2, 0))
theorem s_SessOf_walk (w : World) (a0 : T_Desks) (a1 : Int) (h0 : GT.rd w [] a0) (r : (List Int)) (hp : s_SessOf (GT.dat a0) a1 = some r) : Spec Try.prog 25 [.agg (GT.cells a0).toArray, .int .i64 a1].toArray w [] (fun v M => ∃ (x0 : TL Int), v = (TL.hdr x0) ∧ GT.dat x0 = r ∧ M = [treeH x0]) := by
  obtain ⟨a0_1, a0_2, a0_3⟩ := a0
  change Spec _ _ ([Value.agg #[.int .i64 a0_1, .int .i64 a0_2, (TL.hdr a0_3)], .int .i64 a1] : List Value).toArray w [] _
  refine Spec.intro Try.func25 rfl Try.ntmps25 rfl ?_
  unfold s_SessOf at hp
  replace hp := dd hp
  refine s2 ?_
  refine bx fun bk2 => ?_
  refine L_assign (v := (TL.hdr (TL.nil Int 0))) rfl rfl ?_
  refine s3 ?_
  replace hp := ba hp; obtain ⟨y2, hy2, hp⟩ := hp
  refine L_mk0 Int rfl el34.h (fun X1 hdX1 => ?_)
  obtain rfl : GT.dat X1 = y2 := hdX1.trans (Option.some.inj hy2)
  clear hy2 hdX1
  refine s8 ?_
  refine W_while (σ := (TL Int) × Int) GT.dat (fun ((v3_0, v3_1) : (TL Int) × Int) => [(5, (TL.hdr v3_0)), (6, .int .i64 v3_1)]) (fun ((v3_0, v3_1) : (TL Int) × Int) => [treeH v3_0]) [(1, _), (2, _)] [blk bk2 _ _] (X1, 0) hp sb ms ?_
  clear hp
  rintro ⟨v3_0, v3_1⟩ x3 hp hx3
  replace hp := dd hp
  refine kq [1, 2, 5, 6] ?_
  refine s2 ?_
  replace hp := gb_any hp; obtain ⟨y4, hy4, hp⟩ := hp
  refine W_D0 [16] mix (by kernel_rfl) rfl ?_
  refine s3 ?_
  refine D_lenP (X := a0_3) GC.none (OpV.t rfl) el31.h ?_
  refine s3 ?_
  refine D_callX (GC.some rfl rfl) fn21.h (OpVs.cons (OpV.s rfl) (OpVs.nil)) (by exact fun hg w F hF hM => s_DesksOk_walk w (a0_1, a0_2, a0_3) (RdT.nowS (RdT.pair RdT.int (RdT.pair RdT.int (RdT.old h0.2.2))) hF hM) _ (hy4 hg.2)) ?_
  refine s12 ?_
  refine kp [1, 2, 5, 6, 16] ?_
  refine W_cond rfl (fun hc5 => ?_) (fun hc5 => ?_)
  · replace hp := cond_t hc5 hp
    refine s8 ?_
    replace hp := idx_bind hp; obtain ⟨⟨u6_1, u6_2, u6_3, u6_4⟩, hy6, hp⟩ := hp
    refine L_idxA (X := a0_3) rfl rfl rfl el31.h (RdT.old h0.2.2) hy6 ?_
    refine s1 ?_
    refine L_load rfl rfl (RdT.at (RdT.old h0.2.2) (hy6).2) one3.h rfl ?_
    refine s3 ?_
    refine kp [1, 2, 5, 6, 26] ?_
    refine W_cond rfl (fun hc7 => ?_) (fun hc7 => ?_)
    · replace hp := cond_t hc7 hp
      refine s5 ?_
      replace hp := idx_bind hp; obtain ⟨u8, hy8, hp⟩ := hp
      obtain rfl : (u6_1, u6_2, u6_3, u6_4) = u8 := Option.some.inj (hy6.2.symm.trans hy8.2)
      refine L_idxA (X := a0_3) rfl rfl rfl el31.h (RdT.old h0.2.2) hy6 ?_
      refine s1 ?_
      refine L_load rfl rfl (RdT.at (RdT.old h0.2.2) (hy6).2) one3.h rfl ?_
      refine L_buildSlice1 rfl rfl el34.h rfl (by decide) (by decide) rfl (fun bb34 => ?_)
      replace hp := ba hp; obtain ⟨y10, hy10, hp⟩ := hp
      refine L_app1F (X := v3_0) (u6_1 : Int) rfl rfl rfl el34.h rfl rfl pk mm  hy10 (by decide) (fun X9 hdX9 => ?_)
      subst hdX9
      refine s7 ?_
      exact ⟨(X9, IntKind.wrap .i64 (v3_1 + 1)), sb, (.sub ms), some_eq hp⟩
    · replace hp := cond_f hc7 hp
      refine s6 ?_
      exact ⟨(v3_0, IntKind.wrap .i64 (v3_1 + 1)), sb, (.sub ms), some_eq hp⟩
  · replace hp := cond_f hc5 hp
    refine W_exit ?_
    replace hp := map_any hp; obtain ⟨a11, hp, hx_a11⟩ := hp
    obtain rfl := hx3 _ hx_a11
    refine s5 ?_
    obtain rfl := Option.some.inj hp
    refine s1 ?_
    refine res1 rfl (ResOK.tmp rfl) ⟨v3_0, rfl, rfl, rfl⟩ ms
end Go.Proofs.SL
namespace Go.Proofs.SL
open Go
theorem l1In_eq (x a b : Int) : s_l1In x a b = some (decide (a ≤ x ∧ x ≤ b)) := by
  unfold s_l1In; rw [Bool.decide_and]
theorem within_eq (x a b : Int) : i_within x a b = some (decide (a ≤ x ∧ x ≤ b)) := by
  unfold i_within; rw [Bool.decide_and]
theorem firstI_some {α : Type} {p : α → Bool} {xs : List α} {k : Nat} (h : xs.findIdx? p = some k) : firstI p xs = (k : Int) := by unfold firstI; rw [h]
theorem firstI_none {α : Type} {p : α → Bool} {xs : List α} (h : xs.findIdx? p = none) : firstI p xs = -1 := by unfold firstI; rw [h]
theorem gbs {α β : Type} [Inhabited α] (g : Bool) (a : α) (k : α → Option β) : gb g (some a) k = if g then k a else k default := by cases g <;> rfl
def partsOk (l : List ByteArray) : Bool := l.all fun p => decide (1 ≤ (p.size : Int) ∧ (p.size : Int) ≤ 10)
theorem parts_loop {β : Type} {l : List ByteArray} {f : Int → Option (Int ⊕ β)} {no yes : Option β} (hl : l.length ≤ 9223372036854775807)
    (hf : ∀ (k : Nat) (p : ByteArray), l[k]? = some p → f (k : Int) = if decide (1 ≤ (p.size : Int) ∧ (p.size : Int) ≤ 10) then some (.inl (IntKind.wrap .i64 ((k : Int) + 1))) else no.map .inr) (hn : f (l.length : Int) = yes.map .inr) :
    whileP f 0 = if partsOk l then yes else no := by
  rw [whileP_all (n := l.length) (fun k => (l[k]?).all fun p => decide (1 ≤ (p.size : Int) ∧ (p.size : Int) ≤ 10)) no yes ?_ hn, all_range_get]
  · rfl
  · intro k hk
    have h := hf k l[k] (List.getElem?_eq_getElem hk)
    rw [h, List.getElem?_eq_getElem hk, wrap_succ (by omega)]
    rfl
end Go.Proofs.SL
namespace Go.Proofs.SL
open Go
theorem toList_inj {a b : ByteArray} (h : a.toList = b.toList) : a = b := by
  rw [ByteArray.toList_eq, ByteArray.toList_eq] at h
  cases a; cases b
  congr 1
  exact Array.toList_inj.1 h
end Go.Proofs.SL
namespace Go.Proofs.SL
open Go
theorem isClient_eq (x : Int) : i_isClient x = some (decide (1 ≤ x ∧ x ≤ 9)) := by
  unfold i_isClient; rw [within_eq]; rfl
/-- Session k of a list is right. -/
def sessOk (m lo hi : Int) (l : List D_Sess) (k : Nat) : Bool := match l[k]? with
  | none => false
  | some s => decide (1 ≤ s.1 ∧ s.1 ≤ m) && (decide (k = 0) || (l[k - 1]?).all fun r => decide (r.1 < s.1)) && decide (1 ≤ s.2.1 ∧ s.2.1 ≤ 9) && decide (lo ≤ s.2.2.1 ∧ s.2.2.1 ≤ hi) && decide (s.2.2.2.length ≤ 6) && partsOk s.2.2.2
def desksOk (d : D_Desks) : Bool := decide (0 ≤ d.1 ∧ d.1 ≤ 100000) && decide (1 ≤ d.2.1 ∧ d.2.1 ≤ 1000) && decide (d.2.2.length ≤ 4) && (List.range d.2.2.length).all (sessOk (d.2.1 - 1) (d.1 + 1) (d.1 + 100) d.2.2)
/-- What stands before a place, or nothing at its beginning. -/
theorem prev_idx {l : List D_Sess} {k : Nat} (hk : k < l.length) (hl : l.length ≤ 9223372036854775807) (h0 : 0 < k) : ∃ r, l[k - 1]? = some r ∧ idx l (IntKind.wrap .i64 ((k : Int) - 1)) = some r := by
  refine ⟨l[k - 1], List.getElem?_eq_getElem (by omega), ?_⟩
  rw [wrap64_in (by unfold inR; omega), show ((k : Int) - 1) = ((k - 1 : Nat) : Int) by omega, idx_nat]
  exact List.getElem?_eq_getElem (by omega)
theorem s_DesksOk_eq (d : D_Desks) (ho : Ok.ok d) : s_DesksOk d = some (desksOk d) := by
  obtain ⟨a, b, l⟩ := d
  have hl : l.length ≤ 9223372036854775807 := ho.2.2.1
  have hl2 : ∀ x, x ∈ l → Ok.ok x := ho.2.2.2
  unfold s_DesksOk desksOk
  simp only [l1In_eq, Option.bind_some]
  generalize hW : whileP _ (0 : Int) = W
  cases h1 : decide (0 ≤ a ∧ a ≤ 100000) with
  | false => rfl
  | true =>
    cases h2 : decide (1 ≤ b ∧ b ≤ 1000) with
    | false => rfl
    | true =>
      cases h3 : decide (l.length ≤ 4) with
      | false =>
        have : decide (4 < (l.length : Int)) = true := by simp at h3 ⊢; omega
        simp [gb, this]
      | true =>
        have h4 : decide (4 < (l.length : Int)) = false := by simp at h3 ⊢; omega
        simp only [decide_eq_true_eq] at h1 h2 h3
        simp only [gb, h4, Bool.not_true, Bool.not_false, Option.bind_some, Bool.or_false, cond_false, Bool.true_and]
        rw [← hW]
        rw [whileP_all (n := l.length) (sessOk (b - 1) (a + 1) (a + 100) l) (some false) (some true)]
        · split <;> simp_all
        · intro k hk
          have hx : l[k]? = some l[k] := List.getElem?_eq_getElem hk
          generalize l[k] = s at hx
          have hs := hl2 s (List.mem_of_getElem? hx)
          have hp : s.2.2.2.length ≤ 9223372036854775807 := hs.2.2.2.1
          have hc : decide ((k : Int) < (l.length : Int)) = true := by simp; omega
          simp only [idx_nat, hx, Option.bind_some, hc, cond_true]
          rw [wrap64_in (show inR (b - 1) by unfold inR; omega), wrap64_in (show inR (a + 1) by unfold inR; omega), wrap64_in (show inR (a + 100) by unfold inR; omega)]
          rw [parts_loop (no := some (.inr false)) (yes := some (.inl ((k + 1 : Nat) : Int))) hp]
          · unfold sessOk
            simp only [hx]
            have hq : decide (6 < (s.2.2.2.length : Int)) = !decide (s.2.2.2.length ≤ 6) := by
              rw [Bool.eq_iff_iff]; simp; omega
            rw [hq]
            rcases Nat.eq_zero_or_pos k with h0 | h0
            · subst h0
              cases decide (1 ≤ s.1 ∧ s.1 ≤ b - 1) <;> cases decide (1 ≤ s.2.1 ∧ s.2.1 ≤ 9) <;> cases decide (a + 1 ≤ s.2.2.1 ∧ s.2.2.1 ≤ a + 100) <;> cases decide (s.2.2.2.length ≤ 6) <;> cases partsOk s.2.2.2 <;> simp [gb]
            · obtain ⟨r, hr1, hr2⟩ := prev_idx hk hl h0
              have h5 : decide (0 < (k : Int)) = true := by simp; omega
              have h6 : decide (k = 0) = false := by simp; omega
              have h7 : decide (s.1 ≤ r.1) = !decide (r.1 < s.1) := by rw [Bool.eq_iff_iff]; simp
              rw [hr1, hr2, h5, h6]
              simp only [h7, Option.all_some]
              by_cases h8 : r.1 < s.1 <;> cases decide (1 ≤ s.1 ∧ s.1 ≤ b - 1) <;> cases decide (1 ≤ s.2.1 ∧ s.2.1 ≤ 9) <;> cases decide (a + 1 ≤ s.2.2.1 ∧ s.2.2.1 ≤ a + 100) <;> cases decide (s.2.2.2.length ≤ 6) <;> cases partsOk s.2.2.2 <;> simp [gb, h7, h8]
          · intro j p hj
            have hlt := (List.getElem?_eq_some_iff.1 hj).1
            have hc2 : decide ((j : Int) < (s.2.2.2.length : Int)) = true := by simp; omega
            simp only [hc2, cond_true, idx_nat, hj, Option.bind_some]
            cases decide (1 ≤ (p.size : Int) ∧ (p.size : Int) ≤ 10) <;> rfl
          · have hc2 : decide (((s.2.2.2.length : Nat) : Int) < (s.2.2.2.length : Int)) = false := by simp
            simp only [hc2, cond_false, wrap_succ (show k < 9223372036854775807 by omega)]
        · have hc2 : decide (((l.length : Nat) : Int) < (l.length : Int)) = false := by simp
          simp only [hc2, cond_false]
theorem i_DesksOk_eq (d : D_Desks) (ho : Ok.ok d) : i_DesksOk d = some (desksOk d) := by
  obtain ⟨a, b, l⟩ := d
  have hl : l.length ≤ 9223372036854775807 := ho.2.2.1
  have hl2 : ∀ x, x ∈ l → Ok.ok x := ho.2.2.2
  unfold i_DesksOk desksOk
  simp only [within_eq, isClient_eq, Option.bind_some]
  have hr : (0 ≤ a ∧ a ≤ 100000) → (1 ≤ b ∧ b ≤ 1000) → IntKind.wrap .i64 (b - 1) = b - 1 ∧ IntKind.wrap .i64 (a + 1) = a + 1 ∧ IntKind.wrap .i64 (a + 100) = a + 100 := fun h1 h2 =>
    ⟨wrap64_in (by unfold inR; omega), wrap64_in (by unfold inR; omega), wrap64_in (by unfold inR; omega)⟩
  generalize IntKind.wrap .i64 (b - 1) = m at *
  generalize IntKind.wrap .i64 (a + 1) = lo at *
  generalize IntKind.wrap .i64 (a + 100) = hi at *
  rw [whileP_all (n := l.length) (sessOk m lo hi l) (some false) (some (decide (0 ≤ a ∧ a ≤ 100000) && decide (1 ≤ b ∧ b ≤ 1000) && decide (l.length ≤ 4)))]
  · by_cases h1 : 0 ≤ a ∧ a ≤ 100000
    · by_cases h2 : 1 ≤ b ∧ b ≤ 1000
      · obtain ⟨rfl, rfl, rfl⟩ := hr h1 h2
        cases (List.range l.length).all (sessOk (b - 1) (a + 1) (a + 100) l) <;> simp [h1, h2]
      · have : decide (1 ≤ b ∧ b ≤ 1000) = false := decide_eq_false h2
        simp [this]
    · have : decide (0 ≤ a ∧ a ≤ 100000) = false := decide_eq_false h1
      simp [this]
  · intro k hk
    have hx : l[k]? = some l[k] := List.getElem?_eq_getElem hk
    generalize l[k] = s at hx
    have hs := hl2 s (List.mem_of_getElem? hx)
    have hp : s.2.2.2.length ≤ 9223372036854775807 := hs.2.2.2.1
    have hc : decide ((k : Int) < (l.length : Int)) = true := by simp; omega
    simp only [idx_nat, hx, Option.bind_some, hc, cond_true]
    rw [parts_loop (no := some (.inr false)) (yes := some (.inl ((k + 1 : Nat) : Int))) hp]
    · unfold sessOk
      simp only [hx]
      have hq : decide (6 < (s.2.2.2.length : Int)) = !decide (s.2.2.2.length ≤ 6) := by
        rw [Bool.eq_iff_iff]; simp; omega
      rw [hq]
      rcases Nat.eq_zero_or_pos k with h0 | h0
      · subst h0
        cases decide (1 ≤ s.1 ∧ s.1 ≤ m) <;> cases decide (1 ≤ s.2.1 ∧ s.2.1 ≤ 9) <;> cases decide (lo ≤ s.2.2.1 ∧ s.2.2.1 ≤ hi) <;> cases decide (s.2.2.2.length ≤ 6) <;> cases partsOk s.2.2.2 <;> simp [gb]
      · obtain ⟨r, hr1, hr2⟩ := prev_idx hk hl h0
        have h5 : decide (0 < (k : Int)) = true := by simp; omega
        have h6 : decide (k = 0) = false := by simp; omega
        have h7 : decide (s.1 ≤ r.1) = !decide (r.1 < s.1) := by rw [Bool.eq_iff_iff]; simp
        rw [hr1, hr2, h5, h6]
        simp only [h7, Option.all_some]
        by_cases h8 : r.1 < s.1 <;> cases decide (1 ≤ s.1 ∧ s.1 ≤ m) <;> cases decide (1 ≤ s.2.1 ∧ s.2.1 ≤ 9) <;> cases decide (lo ≤ s.2.2.1 ∧ s.2.2.1 ≤ hi) <;> cases decide (s.2.2.2.length ≤ 6) <;> cases partsOk s.2.2.2 <;> simp [gb, h7, h8]
    · intro j p hj
      have hlt := (List.getElem?_eq_some_iff.1 hj).1
      have hc2 : decide ((j : Int) < (s.2.2.2.length : Int)) = true := by simp; omega
      simp only [hc2, cond_true, idx_nat, hj, Option.bind_some]
      cases decide (1 ≤ (p.size : Int) ∧ (p.size : Int) ≤ 10) <;> rfl
    · have hc2 : decide (((s.2.2.2.length : Nat) : Int) < (s.2.2.2.length : Int)) = false := by simp
      simp only [hc2, cond_false, wrap_succ (show k < 9223372036854775807 by omega)]
  · have hc2 : decide (((l.length : Nat) : Int) < (l.length : Int)) = false := by simp
    simp only [hc2, cond_false]
    have h9 : decide ((l.length : Int) ≤ 4) = decide (l.length ≤ 4) := by rw [Bool.eq_iff_iff]; simp; omega
    rw [h9]
    cases decide (0 ≤ a ∧ a ≤ 100000) <;> cases decide (1 ≤ b ∧ b ≤ 1000) <;> rfl
/-- A copy. -/
theorem copyTexts_eq {l : List ByteArray} (h : l.length ≤ 4294967296) : i_copyTexts l = some l := by
  unfold i_copyTexts appP
  rw [if_pos (by simpa using h)]; rfl
theorem s_l29Copy_eq {d : D_Desks} (h1 : d.2.2.length ≤ 1000) (h2 : ∀ s, s ∈ d.2.2 → s.2.2.2.length ≤ 1000) : s_l29Copy d = some d := by
  obtain ⟨a, b, l⟩ := d
  unfold s_l29Copy
  rw [whileP_for (l := l) (fun k (t : List D_Sess) => ((k : Int), t)) (fun t x => .inl (t ++ [x])) (fun t => some (a, b, t)) (fun k t => t.length = k) [] (s0 := (0, [])) rfl rfl, goE_app]
  · rfl
  · intro k t x hx ht
    have hlt := (List.getElem?_eq_some_iff.1 hx).1
    have hm := h2 x (List.mem_of_getElem? hx)
    dsimp only at h1 hm ht
    refine .inl ⟨t ++ [x], rfl, ?_, by simp [ht]⟩
    have hc : decide ((k : Int) < (l.length : Int)) = true := by simp; omega
    simp only [hc, cond_true, idx_nat, hx, Option.bind_some, appP_ok (a := ([] : List ByteArray)) (b := x.2.2.2) (by simp; omega), List.nil_append, wrap_succ (show k < 9223372036854775807 by omega)]
    rw [appP_ok (by simp; omega)]; rfl
  · intro t ht
    simp
theorem i_copyDesks_eq {d : D_Desks} (h1 : d.2.2.length ≤ 1000) (h2 : ∀ s, s ∈ d.2.2 → s.2.2.2.length ≤ 1000) : i_copyDesks d = some d := by
  obtain ⟨a, b, l⟩ := d
  unfold i_copyDesks
  rw [whileP_for (l := l) (fun k (t : List D_Sess) => ((k : Int), t)) (fun t x => .inl (t ++ [x])) (fun t => some (a, b, t)) (fun k t => t.length = k) [] (s0 := (0, [])) rfl rfl, goE_app]
  · rfl
  · intro k t x hx ht
    have hlt := (List.getElem?_eq_some_iff.1 hx).1
    have hm := h2 x (List.mem_of_getElem? hx)
    dsimp only at h1 hm ht
    refine .inl ⟨t ++ [x], rfl, ?_, by simp [ht]⟩
    have hc : decide ((k : Int) < (l.length : Int)) = true := by simp; omega
    simp only [hc, cond_true, idx_nat, hx, Option.bind_some, copyTexts_eq (show x.2.2.2.length ≤ 4294967296 by omega), wrap_succ (show k < 9223372036854775807 by omega)]
    rw [appP_ok (by simp; omega)]; rfl
  · intro t ht
    simp
theorem s_l29At_eq {d : D_Desks} {id : Int} (h : d.2.2.length ≤ 9223372036854775807) : s_l29At d id = some (firstI (fun s : D_Sess => decide (s.1 = id)) d.2.2) := by
  unfold s_l29At
  rw [whileP_find (fun s : D_Sess => decide (s.1 = id)) some h]
  · intro k x hx
    have hlt := (List.getElem?_eq_some_iff.1 hx).1
    simp only [lt_dec hlt, cond_true, idx_nat, hx, Option.bind_some]
    cases decide (x.1 = id) <;> rfl
  · simp only [ge_dec]; rfl
theorem i_Desks_at_eq {d : D_Desks} {id : Int} (h : d.2.2.length ≤ 9223372036854775807) : i_Desks_at d id = some (firstI (fun s : D_Sess => decide (s.1 = id)) d.2.2) := by
  unfold i_Desks_at sl_IndexFunc_implSessimplSess i_Desks_at_c1
  rw [whileP_find (fun s : D_Sess => decide (s.1 = id)) some h]
  · rfl
  · intro k x hx
    have hlt := (List.getElem?_eq_some_iff.1 hx).1
    simp only [lt_dec hlt, cond_true, idx_nat, hx, Option.bind_some]
    cases decide (x.1 = id) <;> rfl
  · simp only [ge_dec]; rfl
/-- What a right desk holds. -/
theorem desksOk_facts {d : D_Desks} (h : desksOk d = true) : (0 ≤ d.1 ∧ d.1 ≤ 100000) ∧ (1 ≤ d.2.1 ∧ d.2.1 ≤ 1000) ∧ d.2.2.length ≤ 4 ∧ ∀ s, s ∈ d.2.2 → s.2.2.2.length ≤ 6 ∧ (∀ p, p ∈ s.2.2.2 → p.size ≤ 10) := by
  unfold desksOk at h
  simp only [Bool.and_eq_true, decide_eq_true_eq, List.all_eq_true, List.mem_range] at h
  refine ⟨h.1.1.1, h.1.1.2, h.1.2, fun s hs => ?_⟩
  obtain ⟨k, hk⟩ := List.getElem?_of_mem hs
  have := h.2 k (List.getElem?_eq_some_iff.1 hk).1
  unfold sessOk at this
  rw [hk] at this
  simp only [Bool.and_eq_true, decide_eq_true_eq, partsOk, List.all_eq_true] at this
  exact ⟨this.1.2, fun p hp => by have := (this.2 p hp).2; omega⟩
theorem copy_eq {d : D_Desks} (h : desksOk d = true) : s_l29Copy d = some d ∧ i_copyDesks d = some d := by
  obtain ⟨_, _, h3, h4⟩ := desksOk_facts h
  exact ⟨s_l29Copy_eq (by omega) fun s hs => by have := (h4 s hs).1; omega, i_copyDesks_eq (by omega) fun s hs => by have := (h4 s hs).1; omega⟩
noncomputable def sessPutD (d : D_Desks) (id : Int) (p : ByteArray) : D_Desks × Bool :=
  if desksOk d then
    match d.2.2.findIdx? (fun s => decide (s.1 = id)) with
    | none => (d, false)
    | some k => match d.2.2[k]? with
      | none => (d, false)
      | some s => if s.2.2.2.length < 6 ∧ 1 ≤ p.size ∧ p.size ≤ 10 then ((d.1, d.2.1, d.2.2.set k (s.1, s.2.1, s.2.2.1, s.2.2.2 ++ [p])), true) else (d, false)
  else ((0, 0, []), false)
theorem s_SessPut_eq {d : D_Desks} {id : Int} {p : ByteArray} (ho : Ok.ok d) : s_SessPut d id p = some (sessPutD d id p) := by
  unfold s_SessPut sessPutD
  have hl : d.2.2.length ≤ 9223372036854775807 := ho.2.2.1
  simp only [Prod.eta, s_DesksOk_eq d ho, Option.bind_some]
  cases hk : desksOk d with
  | false => rfl
  | true =>
    obtain ⟨h1, h2, h3, h4⟩ := desksOk_facts hk
    simp only [Bool.not_true, cond_false, (copy_eq hk).1, Option.bind_some, s_l29At_eq hl, if_true, l1In_eq]
    cases hf : d.2.2.findIdx? (fun s : D_Sess => decide (s.1 = id)) with
    | none => rw [firstI_none hf]; rfl
    | some k =>
      have hlt : k < d.2.2.length := by obtain ⟨h, _⟩ := List.findIdx?_eq_some_iff_getElem.1 hf; exact h
      rw [firstI_some hf]
      have hx : d.2.2[k]? = some d.2.2[k] := List.getElem?_eq_getElem hlt
      generalize d.2.2[k] = s at hx
      have hs := (h4 s (List.mem_of_getElem? hx)).1
      simp only [show decide ((k : Int) < 0) = false by simp, idx_nat, hx, Option.bind_some, gb, Bool.not_false, Bool.false_or, Int.toNat_natCast]
      by_cases h5 : s.2.2.2.length < 6
      · have h6 : decide (6 ≤ (s.2.2.2.length : Int)) = false := by simp; omega
        simp only [h6, Bool.not_false, Bool.false_or]
        by_cases h7 : 1 ≤ p.size ∧ p.size ≤ 10
        · rw [if_pos ⟨h5, h7⟩, appP_ok (by simp; omega)]
          simp only [show decide (1 ≤ (p.size : Int) ∧ (p.size : Int) ≤ 10) = true by simp; omega, Bool.not_true, cond_false, Option.bind_some, List.nil_append]
          rw [appP_ok (by simp; omega)]; rfl
        · rw [if_neg (fun h => h7 h.2)]
          simp only [show decide (1 ≤ (p.size : Int) ∧ (p.size : Int) ≤ 10) = false by simp; omega, Bool.not_false, cond_true]
      · have h6 : decide (6 ≤ (s.2.2.2.length : Int)) = true := by simp; omega
        rw [if_neg (fun h => h5 h.1)]
        simp only [h6, Bool.true_or, cond_true, Bool.not_true]
theorem i_SessPut_eq {d : D_Desks} {id : Int} {p : ByteArray} (ho : Ok.ok d) : i_SessPut d id p = some (sessPutD d id p) := by
  unfold i_SessPut sessPutD
  have hl : d.2.2.length ≤ 9223372036854775807 := ho.2.2.1
  simp only [Prod.eta, i_DesksOk_eq d ho, Option.bind_some]
  cases hk : desksOk d with
  | false => rfl
  | true =>
    obtain ⟨h1, h2, h3, h4⟩ := desksOk_facts hk
    simp only [Bool.not_true, cond_false, (copy_eq hk).2, Option.bind_some, i_Desks_at_eq hl, if_true, within_eq]
    cases hf : d.2.2.findIdx? (fun s : D_Sess => decide (s.1 = id)) with
    | none => rw [firstI_none hf]; rfl
    | some k =>
      have hlt : k < d.2.2.length := by obtain ⟨h, _⟩ := List.findIdx?_eq_some_iff_getElem.1 hf; exact h
      rw [firstI_some hf]
      have hx : d.2.2[k]? = some d.2.2[k] := List.getElem?_eq_getElem hlt
      generalize d.2.2[k] = s at hx
      have hs := (h4 s (List.mem_of_getElem? hx)).1
      simp only [show decide ((k : Int) < 0) = false by simp, idx_nat, hx, Option.bind_some, gb, Bool.not_false, Bool.false_or, Int.toNat_natCast]
      by_cases h5 : s.2.2.2.length < 6
      · have h6 : decide ((s.2.2.2.length : Int) = 6) = false := by simp; omega
        simp only [h6, Bool.not_false, Bool.false_or]
        by_cases h7 : 1 ≤ p.size ∧ p.size ≤ 10
        · rw [if_pos ⟨h5, h7⟩, appP_ok (by simp; omega)]
          simp only [show decide (1 ≤ (p.size : Int) ∧ (p.size : Int) ≤ 10) = true by simp; omega, Bool.not_true, cond_false, Option.bind_some]
        · rw [if_neg (fun h => h7 h.2)]
          simp only [show decide (1 ≤ (p.size : Int) ∧ (p.size : Int) ≤ 10) = false by simp; omega, Bool.not_false, cond_true]
      · have h6 : decide ((s.2.2.2.length : Int) = 6) = true := by simp; omega
        rw [if_neg (fun h => h5 h.1)]
        simp only [h6, Bool.true_or, cond_true, Bool.not_true]
noncomputable def sessTickD (d : D_Desks) (n : Int) : D_Desks × List Int :=
  if desksOk d then
    if (1 ≤ n ∧ n ≤ 100) ∧ d.1 + n ≤ 100000 then ((d.1 + n, d.2.1, d.2.2.filter fun s => decide (d.1 + n < s.2.2.1)), (d.2.2.filter fun s => !decide (d.1 + n < s.2.2.1)).map fun s => s.1) else (d, [])
  else ((0, 0, []), [])
theorem foldl_part {β γ : Type} (p : β → Bool) (g : β → γ) : ∀ (xs : List β) (a : List γ) (b : List β),
    xs.foldl (fun (t : List γ × List β) x => if p x then (t.1, t.2 ++ [x]) else (t.1 ++ [g x], t.2)) (a, b) = (a ++ (xs.filter fun x => !p x).map g, b ++ xs.filter p)
  | [], a, b => by simp
  | x :: xs, a, b => by
    rw [List.foldl_cons]
    cases hp : p x with
    | true => simp only [hp, if_true]; rw [foldl_part p g xs a (b ++ [x])]; simp [hp]
    | false => simp only [hp, Bool.false_eq_true, if_false]; rw [foldl_part p g xs (a ++ [g x]) b]; simp [hp]
theorem s_SessTick_eq {d : D_Desks} {n : Int} (ho : Ok.ok d) (hn : inR n) : s_SessTick d n = some (sessTickD d n) := by
  unfold s_SessTick sessTickD
  have ha : inR d.1 := ho.1
  simp only [Prod.eta, s_DesksOk_eq d ho, Option.bind_some]
  cases hk : desksOk d with
  | false => rfl
  | true =>
    obtain ⟨h1, h2, h3, h4⟩ := desksOk_facts hk
    simp only [Bool.not_true, cond_false, (copy_eq hk).1, Option.bind_some, if_true, l1In_eq]
    by_cases h5 : 1 ≤ n ∧ n ≤ 100
    · rw [wrap64_in (show inR (d.1 + n) by unfold inR; omega)]
      by_cases h6 : d.1 + n ≤ 100000
      · rw [if_pos ⟨h5, h6⟩]
        simp only [show decide (1 ≤ n ∧ n ≤ 100) = true by simp; omega, show decide (100000 < d.1 + n) = false by simp; omega, Bool.not_true, Bool.false_or, cond_false]
        rw [whileP_for (l := d.2.2) (fun k (t : List Int × List D_Sess) => (t.1, t.2, (k : Int))) (fun t s => .inl (if decide (d.1 + n < s.2.2.1) then (t.1, t.2 ++ [s]) else (t.1 ++ [s.1], t.2)))
          (fun t => some ((d.1 + n, d.2.1, t.2), t.1)) (fun k t => t.1.length ≤ k ∧ t.2.length ≤ k) ([], []) (s0 := ([], [], 0)) rfl ⟨Nat.le_refl _, Nat.le_refl _⟩, goE_fold, foldl_part (fun s : D_Sess => decide (d.1 + n < s.2.2.1)) (fun s => s.1)]
        · rfl
        · intro k t s hs hI
          have hlt := (List.getElem?_eq_some_iff.1 hs).1
          try dsimp only at hI
          cases hc : decide (d.1 + n < s.2.2.1) with
          | true =>
            refine .inl ⟨(t.1, t.2 ++ [s]), rfl, ?_, by dsimp only; omega, by simp; omega⟩
            simp only [lt_dec hlt, cond_true, idx_nat, hs, Option.bind_some, hc, wrap_succ (show k < 9223372036854775807 by omega)]
            rw [appP_ok (by simp; omega)]; rfl
          | false =>
            refine .inl ⟨(t.1 ++ [s.1], t.2), rfl, ?_, by simp; omega, by dsimp only; omega⟩
            simp only [lt_dec hlt, cond_true, cond_false, idx_nat, hs, Option.bind_some, hc, wrap_succ (show k < 9223372036854775807 by omega)]
            rw [appP_ok (by simp; omega)]; rfl
        · intro t ht
          simp only [ge_dec]; rfl
      · rw [if_neg (fun h => h6 h.2)]
        simp only [show decide (100000 < d.1 + n) = true by simp; omega, Bool.or_true, cond_true]
    · rw [if_neg (fun h => h5 h.1)]
      simp only [show decide (1 ≤ n ∧ n ≤ 100) = false by simp; omega, Bool.not_false, Bool.true_or, cond_true]
theorem i_SessTick_eq {d : D_Desks} {n : Int} (ho : Ok.ok d) (hn : inR n) : i_SessTick d n = some (sessTickD d n) := by
  unfold i_SessTick sessTickD
  have ha : inR d.1 := ho.1
  simp only [Prod.eta, i_DesksOk_eq d ho, Option.bind_some]
  cases hk : desksOk d with
  | false => rfl
  | true =>
    obtain ⟨h1, h2, h3, h4⟩ := desksOk_facts hk
    simp only [Bool.not_true, cond_false, (copy_eq hk).2, Option.bind_some, if_true, within_eq]
    by_cases h5 : 1 ≤ n ∧ n ≤ 100
    · rw [wrap64_in (show inR (d.1 + n) by unfold inR; omega)]
      by_cases h6 : d.1 + n ≤ 100000
      · rw [if_pos ⟨h5, h6⟩]
        simp only [show decide (1 ≤ n ∧ n ≤ 100) = true by simp; omega, show decide (100000 < d.1 + n) = false by simp; omega, Bool.not_true, Bool.false_or, cond_false]
        rw [whileP_for (l := d.2.2) (fun k (t : List Int × List D_Sess) => (t.2, t.1, (k : Int))) (fun t s => .inl (if decide (d.1 + n < s.2.2.1) then (t.1, t.2 ++ [s]) else (t.1 ++ [s.1], t.2)))
          (fun t => some ((d.1 + n, d.2.1, t.2), t.1)) (fun k t => t.1.length ≤ k ∧ t.2.length ≤ k) ([], []) (s0 := ([], [], 0)) rfl ⟨Nat.le_refl _, Nat.le_refl _⟩, goE_fold, foldl_part (fun s : D_Sess => decide (d.1 + n < s.2.2.1)) (fun s => s.1)]
        · rfl
        · intro k t s hs hI
          have hlt := (List.getElem?_eq_some_iff.1 hs).1
          try dsimp only at hI
          have hneg : decide (s.2.2.1 ≤ d.1 + n) = !decide (d.1 + n < s.2.2.1) := by rw [Bool.eq_iff_iff]; simp
          cases hc : decide (d.1 + n < s.2.2.1) with
          | true =>
            refine .inl ⟨(t.1, t.2 ++ [s]), rfl, ?_, by dsimp only; omega, by simp; omega⟩
            simp only [lt_dec hlt, cond_true, cond_false, idx_nat, hs, Option.bind_some, hneg, hc, Bool.not_true, wrap_succ (show k < 9223372036854775807 by omega)]
            rw [appP_ok (by simp; omega)]; rfl
          | false =>
            refine .inl ⟨(t.1 ++ [s.1], t.2), rfl, ?_, by simp; omega, by dsimp only; omega⟩
            simp only [lt_dec hlt, cond_true, cond_false, idx_nat, hs, Option.bind_some, hneg, hc, Bool.not_false, wrap_succ (show k < 9223372036854775807 by omega)]
            rw [appP_ok (by simp; omega)]; rfl
        · intro t ht
          simp only [ge_dec]; rfl
      · rw [if_neg (fun h => h6 h.2)]
        simp only [show decide (100000 < d.1 + n) = true by simp; omega, Bool.or_true, cond_true]
    · rw [if_neg (fun h => h5 h.1)]
      simp only [show decide (1 ≤ n ∧ n ≤ 100) = false by simp; omega, Bool.not_false, Bool.true_or, cond_true]
noncomputable def joined (l : List ByteArray) : ByteArray := l.foldl (fun a b => a ++ b) ByteArray.empty
theorem joined_loop {l : List ByteArray} (h1 : l.length ≤ 1000) (h2 : ∀ p, p ∈ l → p.size ≤ 10) :
    whileP (fun s1 : ByteArray × Int => cond (decide (s1.2 < (l.length : Int))) (Option.bind (idx l s1.2) (fun y3 => Option.bind (catP s1.1 y3) (fun y4 => some (.inl ((y4, IntKind.wrap .i64 (s1.2 + 1))))))) (Option.map .inr (some s1.1))) (ByteArray.empty, 0) = some (joined l) := by
  rw [whileP_for (l := l) (fun k (t : ByteArray) => (t, (k : Int))) (fun t s => .inl (t ++ s)) (fun t => some t) (fun k t => t.size ≤ 10 * k) ByteArray.empty (s0 := (ByteArray.empty, 0)) rfl (by simp), goE_fold]
  · rfl
  · intro k t s hs hI
    have hlt := (List.getElem?_eq_some_iff.1 hs).1
    have hsz := h2 s (List.mem_of_getElem? hs)
    refine .inl ⟨t ++ s, rfl, ?_, by rw [ByteArray.size_append]; omega⟩
    simp only [lt_dec hlt, cond_true, idx_nat, hs, Option.bind_some, wrap_succ (show k < 9223372036854775807 by omega)]
    rw [catP_ok (by omega)]; rfl
  · intro t ht
    simp only [ge_dec]; rfl
theorem s_Joined_eq {l : List ByteArray} (h1 : l.length ≤ 1000) (h2 : ∀ p, p ∈ l → p.size ≤ 10) : s_Joined l = some (joined l) := joined_loop h1 h2
theorem i_Joined_eq {l : List ByteArray} (h1 : l.length ≤ 1000) (h2 : ∀ p, p ∈ l → p.size ≤ 10) : i_Joined l = some (joined l) := joined_loop h1 h2
theorem joined_size {l : List ByteArray} : (joined l).size = (l.map ByteArray.size).sum := by
  unfold joined
  have : ∀ (xs : List ByteArray) (a : ByteArray), (xs.foldl (fun a b => a ++ b) a).size = a.size + (xs.map ByteArray.size).sum := by
    intro xs
    induction xs with
    | nil => intro a; simp
    | cons x xs ih => intro a; rw [List.foldl_cons, ih, ByteArray.size_append]; simp; omega
  rw [this]; simp
noncomputable def sessEndD (d : D_Desks) (id : Int) : D_Desks × ByteArray × Bool :=
  if desksOk d then
    match d.2.2.findIdx? (fun s => decide (s.1 = id)) with
    | none => (d, ByteArray.empty, false)
    | some k => match d.2.2[k]? with
      | none => (d, ByteArray.empty, false)
      | some s => ((d.1, d.2.1, d.2.2.eraseIdx k), joined s.2.2.2, true)
  else ((0, 0, []), ByteArray.empty, false)
theorem s_SessEnd_eq {d : D_Desks} {id : Int} (ho : Ok.ok d) : s_SessEnd d id = some (sessEndD d id) := by
  unfold s_SessEnd sessEndD
  have hl : d.2.2.length ≤ 9223372036854775807 := ho.2.2.1
  simp only [Prod.eta, s_DesksOk_eq d ho, Option.bind_some]
  cases hk : desksOk d with
  | false => rfl
  | true =>
    obtain ⟨h1, h2, h3, h4⟩ := desksOk_facts hk
    simp only [Bool.not_true, cond_false, (copy_eq hk).1, Option.bind_some, s_l29At_eq hl, if_true]
    cases hf : d.2.2.findIdx? (fun s : D_Sess => decide (s.1 = id)) with
    | none => rw [firstI_none hf]; rfl
    | some k =>
      have hlt : k < d.2.2.length := by obtain ⟨h, _⟩ := List.findIdx?_eq_some_iff_getElem.1 hf; exact h
      rw [firstI_some hf]
      have hx : d.2.2[k]? = some d.2.2[k] := List.getElem?_eq_getElem hlt
      generalize d.2.2[k] = s at hx
      have hs := h4 s (List.mem_of_getElem? hx)
      simp only [show decide ((k : Int) < 0) = false by simp, idx_nat, hx, Option.bind_some, cond_false, wrap_succ (show k < 9223372036854775807 by omega)]
      rw [s_Joined_eq (by omega) hs.2]
      simp only [Option.bind_some]
      have e1 : slcP d.2.2 0 (k : Int) = some (d.2.2.take k) := by
        unfold slcP; rw [if_pos ⟨by omega, by omega, by omega⟩]; simp
      have e2 : slcP d.2.2 ((k + 1 : Nat) : Int) (d.2.2.length : Int) = some (d.2.2.drop (k + 1)) := by
        unfold slcP; rw [if_pos ⟨by omega, by omega, by omega⟩]
        rw [Int.toNat_natCast, Int.toNat_natCast, List.take_of_length_le (by simp)]
      have c1 : chkP (decide (0 ≤ ((0 : Int)).toNat)) = some () := rfl
      have c2 : chkP (decide ((k : Int).toNat ≤ ((k + 1 : Nat) : Int).toNat)) = some () := by
        unfold chkP; rw [if_pos (decide_eq_true (by omega))]
      rw [e1, e2, c1, c2]
      simp only [Option.bind_some, List.nil_append]
      have l1 : (d.2.2.take k).length ≤ 4 := by rw [List.length_take]; omega
      have l2 : (d.2.2.drop (k + 1)).length ≤ 4 := by rw [List.length_drop]; omega
      rw [appP_ok (by simp only [List.length_nil]; omega)]
      simp only [Option.bind_some, List.nil_append]
      rw [appP_ok (by omega), List.eraseIdx_eq_take_drop_succ]; rfl
theorem i_SessEnd_eq {d : D_Desks} {id : Int} (ho : Ok.ok d) : i_SessEnd d id = some (sessEndD d id) := by
  unfold i_SessEnd sessEndD
  have hl : d.2.2.length ≤ 9223372036854775807 := ho.2.2.1
  simp only [Prod.eta, i_DesksOk_eq d ho, Option.bind_some]
  cases hk : desksOk d with
  | false => rfl
  | true =>
    obtain ⟨h1, h2, h3, h4⟩ := desksOk_facts hk
    simp only [Bool.not_true, cond_false, (copy_eq hk).2, Option.bind_some, i_Desks_at_eq hl, if_true]
    cases hf : d.2.2.findIdx? (fun s : D_Sess => decide (s.1 = id)) with
    | none => rw [firstI_none hf]; rfl
    | some k =>
      have hlt : k < d.2.2.length := by obtain ⟨h, _⟩ := List.findIdx?_eq_some_iff_getElem.1 hf; exact h
      rw [firstI_some hf]
      have hx : d.2.2[k]? = some d.2.2[k] := List.getElem?_eq_getElem hlt
      generalize d.2.2[k] = s at hx
      have hs := h4 s (List.mem_of_getElem? hx)
      simp only [show decide ((k : Int) < 0) = false by simp, idx_nat, hx, Option.bind_some, cond_false, wrap_succ (show k < 9223372036854775807 by omega)]
      rw [i_Joined_eq (by omega) hs.2]
      simp only [Option.bind_some]
      have e1 : delP d.2.2 (k : Int) ((k + 1 : Nat) : Int) = some (d.2.2.eraseIdx k) := by
        unfold delP; rw [if_pos ⟨by omega, by omega, by omega⟩, List.eraseIdx_eq_take_drop_succ, Int.toNat_natCast, Int.toNat_natCast]
      rw [e1]; rfl
end Go.Proofs.SL
namespace Go.Proofs.SL
open Go
/-- A right session of a desk whose next number and time are known. -/
def SeI (now nxt : Int) (s : D_Sess) : Prop := (1 ≤ s.1 ∧ s.1 ≤ nxt - 1) ∧ (1 ≤ s.2.1 ∧ s.2.1 ≤ 9) ∧ (now + 1 ≤ s.2.2.1 ∧ s.2.2.1 ≤ now + 100) ∧ s.2.2.2.length ≤ 6 ∧ ∀ p, p ∈ s.2.2.2 → 1 ≤ p.size ∧ p.size ≤ 10
def SI (d : D_Desks) : Prop := (0 ≤ d.1 ∧ d.1 ≤ 100000) ∧ (1 ≤ d.2.1 ∧ d.2.1 ≤ 1000) ∧ d.2.2.length ≤ 4 ∧ (∀ s, s ∈ d.2.2 → SeI d.1 d.2.1 s) ∧ d.2.2.Pairwise (fun a b => a.1 < b.1)
theorem ok_of {d : D_Desks} (h : SI d) : desksOk d = true := by
  obtain ⟨h1, h2, h3, h4, h5⟩ := h
  unfold desksOk
  simp only [Bool.and_eq_true, decide_eq_true_eq, List.all_eq_true, List.mem_range]
  refine ⟨⟨⟨h1, h2⟩, h3⟩, fun k hk => ?_⟩
  unfold sessOk
  rw [List.getElem?_eq_getElem hk]
  obtain ⟨a, c, e, f, g⟩ := h4 _ (List.getElem_mem hk)
  simp only [Bool.and_eq_true, decide_eq_true_eq, partsOk, List.all_eq_true]
  refine ⟨⟨⟨⟨⟨a, ?_⟩, c⟩, e⟩, f⟩, fun p hp => by have := g p hp; omega⟩
  rcases Nat.eq_zero_or_pos k with h0 | h0
  · subst h0; rfl
  · rw [List.getElem?_eq_getElem (by omega)]
    have := List.pairwise_iff_getElem.1 h5 (k - 1) k (by omega) hk (by omega)
    simp [this]
theorem okd_of {d : D_Desks} (h : SI d) : Ok.ok d := by
  obtain ⟨h1, h2, h3, h4, h5⟩ := h
  refine ⟨show inR d.1 by unfold inR; omega, show inR d.2.1 by unfold inR; omega, by omega, fun s hs => ?_⟩
  obtain ⟨a, c, e, f, g⟩ := h4 s hs
  exact ⟨show inR _ by unfold inR; omega, show inR _ by unfold inR; omega, show inR _ by unfold inR; omega, by omega, fun p hp => by have := g p hp; show p.size ≤ _; omega⟩
/-- Opening. -/
noncomputable def sessOpenD (d : D_Desks) (c w : Int) : D_Desks × Int × Bool :=
  if (1 ≤ c ∧ c ≤ 9) ∧ (1 ≤ w ∧ w ≤ 100) ∧ d.2.2.length < 4 ∧ d.2.1 < 1000 then ((d.1, d.2.1 + 1, d.2.2 ++ [(d.2.1, c, d.1 + w, [])]), d.2.1, true) else (d, 0, false)
theorem i_SessOpen_eq {d : D_Desks} {c w : Int} (h : SI d) : i_SessOpen d c w = some (sessOpenD d c w) := by
  have hk := ok_of h
  have ho := okd_of h
  obtain ⟨h1, h2, h3, h4, h5⟩ := h
  unfold i_SessOpen
  simp only [Prod.eta, i_DesksOk_eq d ho, hk, Bool.not_true, cond_false, (copy_eq hk).2, Option.bind_some, isClient_eq, within_eq, gbs]
  by_cases a1 : 1 ≤ c ∧ c ≤ 9
  · by_cases a2 : 1 ≤ w ∧ w ≤ 100
    · by_cases a3 : d.2.2.length < 4
      · by_cases a4 : d.2.1 < 1000
        · rw [show sessOpenD d c w = _ from if_pos ⟨a1, a2, a3, a4⟩]
          have e1 : decide ((d.2.2.length : Int) = 4) = false := by simp; omega
          have e2 : decide (d.2.1 = 1000) = false := by simp; omega
          simp only [a1, a2, e1, e2, and_self, decide_true, Bool.not_true, Bool.not_false, if_true, Bool.or_false, cond_false]
          rw [appP_ok (by simp; omega), wrap64_in (show inR (d.1 + w) by unfold inR; omega), wrap64_in (show inR (d.2.1 + 1) by unfold inR; omega)]; rfl
        · rw [show sessOpenD d c w = _ from if_neg (by omega)]
          have e2 : decide (d.2.1 = 1000) = true := by simp; omega
          simp only [e2, Bool.or_true, cond_true, ite_self]
      · rw [show sessOpenD d c w = _ from if_neg (by omega)]
        have e1 : decide ((d.2.2.length : Int) = 4) = true := by simp; omega
        simp only [e1, Bool.or_true, Bool.true_or, cond_true, ite_self]
    · rw [show sessOpenD d c w = _ from if_neg (fun h => a2 h.2.1)]
      simp only [a1, a2, and_self, decide_true, decide_false, Bool.not_true, Bool.not_false, if_true, Bool.or_true, Bool.true_or, cond_true, ite_self]
  · rw [show sessOpenD d c w = _ from if_neg (fun h => a1 h.1)]
    simp only [a1, decide_false, Bool.not_false, Bool.true_or, cond_true, ite_self]
theorem s_SessOpen_eq {d : D_Desks} {c w : Int} (h : SI d) : s_SessOpen d c w = some (sessOpenD d c w) := by
  have hk := ok_of h
  have ho := okd_of h
  obtain ⟨h1, h2, h3, h4, h5⟩ := h
  unfold s_SessOpen
  simp only [Prod.eta, s_DesksOk_eq d ho, hk, Bool.not_true, cond_false, (copy_eq hk).1, Option.bind_some, l1In_eq, gbs]
  by_cases a1 : 1 ≤ c ∧ c ≤ 9
  · by_cases a2 : 1 ≤ w ∧ w ≤ 100
    · by_cases a3 : d.2.2.length < 4
      · by_cases a4 : d.2.1 < 1000
        · rw [show sessOpenD d c w = _ from if_pos ⟨a1, a2, a3, a4⟩]
          have e1 : decide (4 ≤ (d.2.2.length : Int)) = false := by simp; omega
          have e2 : decide (1000 ≤ d.2.1) = false := by simp; omega
          simp only [a1, a2, e1, e2, and_self, decide_true, Bool.not_true, Bool.not_false, if_true, Bool.or_false, cond_false]
          rw [appP_ok (by simp; omega), wrap64_in (show inR (d.1 + w) by unfold inR; omega), wrap64_in (show inR (d.2.1 + 1) by unfold inR; omega)]; rfl
        · rw [show sessOpenD d c w = _ from if_neg (by omega)]
          have e2 : decide (1000 ≤ d.2.1) = true := by simp; omega
          simp only [e2, Bool.or_true, cond_true, ite_self]
      · rw [show sessOpenD d c w = _ from if_neg (by omega)]
        have e1 : decide (4 ≤ (d.2.2.length : Int)) = true := by simp; omega
        simp only [e1, Bool.or_true, Bool.true_or, cond_true, ite_self]
    · rw [show sessOpenD d c w = _ from if_neg (fun h => a2 h.2.1)]
      simp only [a1, a2, and_self, decide_true, decide_false, Bool.not_true, Bool.not_false, if_true, Bool.or_true, Bool.true_or, cond_true, ite_self]
  · rw [show sessOpenD d c w = _ from if_neg (fun h => a1 h.1)]
    simp only [a1, decide_false, Bool.not_false, Bool.true_or, cond_true, ite_self]
theorem open_si {d : D_Desks} {c w : Int} (h : SI d) : SI (sessOpenD d c w).1 := by
  unfold sessOpenD
  split
  · rename_i a
    obtain ⟨h1, h2, h3, h4, h5⟩ := h
    refine ⟨h1, by dsimp only; omega, by simp; omega, fun s hs => ?_, ?_⟩
    · rcases List.mem_append.1 hs with hs | hs
      · obtain ⟨a, c, e, f, g⟩ := h4 s hs
        exact ⟨by dsimp only; omega, c, e, f, g⟩
      · obtain rfl := List.mem_singleton.1 hs
        exact ⟨by dsimp only; omega, by dsimp only; omega, by dsimp only; omega, by simp, fun p hp => by cases hp⟩
    · refine List.pairwise_append.2 ⟨h5, List.pairwise_singleton _ _, fun a ha b hb => ?_⟩
      obtain rfl := List.mem_singleton.1 hb
      have := (h4 a ha).1
      dsimp only; omega
  · exact h
/-- Two sessions with one number are one. -/
theorem uniq {l : List D_Sess} (h : l.Pairwise (fun a b => a.1 < b.1)) {a b : D_Sess} (ha : a ∈ l) (hb : b ∈ l) (e : a.1 = b.1) : a = b := by
  induction l with
  | nil => cases ha
  | cons x l ih =>
    obtain ⟨h1, h2⟩ := List.pairwise_cons.1 h
    rcases List.mem_cons.1 ha with ea | ha
    · rcases List.mem_cons.1 hb with eb | hb
      · rw [ea, eb]
      · have := h1 b hb; subst ea; omega
    · rcases List.mem_cons.1 hb with eb | hb
      · have := h1 a ha; subst eb; omega
      · exact ih h2 ha hb
/-- Ticking, of a right desk. -/
theorem tick_si {d : D_Desks} {n : Int} (h : SI d) : SI (sessTickD d n).1 := by
  unfold sessTickD
  rw [if_pos (ok_of h)]
  split
  · rename_i a
    obtain ⟨h1, h2, h3, h4, h5⟩ := h
    refine ⟨by dsimp only; omega, h2, Nat.le_trans (List.length_filter_le _ _) h3, fun s hs => ?_, List.Pairwise.filter _ h5⟩
    obtain ⟨m1, m2⟩ := List.mem_filter.1 hs
    have m3 : d.1 + n < s.2.2.1 := of_decide_eq_true m2
    obtain ⟨a, c, e, f, g⟩ := h4 s m1
    exact ⟨a, c, by dsimp only; omega, f, g⟩
  · exact h
theorem set_map {l : List D_Sess} (h : l.Pairwise (fun a b => a.1 < b.1)) {k : Nat} {s t : D_Sess} (hk : l[k]? = some s) : l.set k t = l.map fun x => if x.1 = s.1 then t else x := by
  induction l generalizing k with
  | nil => cases hk
  | cons x l ih =>
    obtain ⟨h1, h2⟩ := List.pairwise_cons.1 h
    cases k with
    | zero =>
      obtain rfl : x = s := Option.some.inj hk
      rw [List.set_cons_zero, List.map_cons, if_pos rfl]
      congr 1
      symm
      rw [List.map_congr_left (g := id), List.map_id]
      intro a ha
      rw [if_neg (by have := h1 a ha; omega)]; rfl
    | succ k =>
      rw [List.set_cons_succ, List.map_cons, ih h2 hk, if_neg]
      have := h1 s (List.mem_of_getElem? hk); omega
theorem erase_filter {l : List D_Sess} (h : l.Pairwise (fun a b => a.1 < b.1)) {k : Nat} {s : D_Sess} (hk : l[k]? = some s) : l.eraseIdx k = l.filter fun x => decide (x.1 ≠ s.1) := by
  induction l generalizing k with
  | nil => cases hk
  | cons x l ih =>
    obtain ⟨h1, h2⟩ := List.pairwise_cons.1 h
    cases k with
    | zero =>
      obtain rfl : x = s := Option.some.inj hk
      rw [List.eraseIdx_cons_zero, List.filter_cons_of_neg (by simp)]
      symm
      refine List.filter_eq_self.2 fun a ha => ?_
      have := h1 a ha
      simp; omega
    | succ k =>
      have := h1 s (List.mem_of_getElem? hk)
      rw [List.eraseIdx_cons_succ, ih h2 hk, List.filter_cons_of_pos (by simp; omega)]
/-- Ending and putting, of a right desk. -/
theorem end_cases {d : D_Desks} {id : Int} (h : SI d) : (sessEndD d id = (d, ByteArray.empty, false) ∧ ∀ s, s ∈ d.2.2 → s.1 ≠ id) ∨ ∃ s, s ∈ d.2.2 ∧ s.1 = id ∧ sessEndD d id = ((d.1, d.2.1, d.2.2.filter fun x => decide (x.1 ≠ id)), joined s.2.2.2, true) := by
  unfold sessEndD
  rw [if_pos (ok_of h)]
  cases hf : d.2.2.findIdx? (fun s : D_Sess => decide (s.1 = id)) with
  | none => exact .inl ⟨rfl, fun s hs e => by have := List.findIdx?_eq_none_iff.1 hf s hs; simp [e] at this⟩
  | some k =>
    obtain ⟨hlt, h1, _⟩ := List.findIdx?_eq_some_iff_getElem.1 hf
    have hx : d.2.2[k]? = some d.2.2[k] := List.getElem?_eq_getElem hlt
    generalize d.2.2[k] = s at hx h1
    have h1 : s.1 = id := of_decide_eq_true h1
    refine .inr ⟨s, List.mem_of_getElem? hx, h1, ?_⟩
    dsimp only
    rw [hx]
    dsimp only
    rw [erase_filter h.2.2.2.2 hx, h1]
theorem end_si {d : D_Desks} {id : Int} (h : SI d) : SI (sessEndD d id).1 := by
  rcases end_cases (id := id) h with ⟨e, _⟩ | ⟨s, _, _, e⟩
  · rw [e]; exact h
  · rw [e]
    obtain ⟨h1, h2, h3, h4, h5⟩ := h
    exact ⟨h1, h2, Nat.le_trans (List.length_filter_le _ _) h3, fun s hs => h4 s (List.mem_filter.1 hs).1, List.Pairwise.filter _ h5⟩
theorem put_cases {d : D_Desks} {id : Int} {p : ByteArray} (h : SI d) : sessPutD d id p = (d, false) ∨ ∃ s, s ∈ d.2.2 ∧ s.1 = id ∧ s.2.2.2.length < 6 ∧ (1 ≤ p.size ∧ p.size ≤ 10) ∧
    sessPutD d id p = ((d.1, d.2.1, d.2.2.map fun x => if x.1 = id then (s.1, s.2.1, s.2.2.1, s.2.2.2 ++ [p]) else x), true) := by
  unfold sessPutD
  rw [if_pos (ok_of h)]
  cases hf : d.2.2.findIdx? (fun s : D_Sess => decide (s.1 = id)) with
  | none => exact .inl rfl
  | some k =>
    obtain ⟨hlt, h1, _⟩ := List.findIdx?_eq_some_iff_getElem.1 hf
    have hx : d.2.2[k]? = some d.2.2[k] := List.getElem?_eq_getElem hlt
    generalize d.2.2[k] = s at hx h1
    have h1 : s.1 = id := of_decide_eq_true h1
    dsimp only
    rw [hx]
    dsimp only
    split
    · rename_i a
      refine .inr ⟨s, List.mem_of_getElem? hx, h1, a.1, a.2, ?_⟩
      rw [set_map h.2.2.2.2 hx, h1]
    · exact .inl rfl
theorem map_pairwise {l : List D_Sess} {t : D_Sess} {id : Int} (ht : t.1 = id) (h : l.Pairwise (fun a b => a.1 < b.1)) : (l.map fun x => if x.1 = id then t else x).Pairwise (fun a b => a.1 < b.1) := by
  refine List.pairwise_map.2 (h.imp fun {a b} hab => ?_)
  split <;> split <;> first | omega | (simp_all)
theorem put_si {d : D_Desks} {id : Int} {p : ByteArray} (h : SI d) : SI (sessPutD d id p).1 := by
  rcases put_cases (id := id) (p := p) h with e | ⟨s, m, e1, e2, e3, e⟩
  · rw [e]; exact h
  · rw [e]
    obtain ⟨h1, h2, h3, h4, h5⟩ := h
    refine ⟨h1, h2, by simpa using h3, fun x hx => ?_, map_pairwise e1 h5⟩
    obtain ⟨y, hy, rfl⟩ := List.mem_map.1 hx
    dsimp only
    split
    · obtain ⟨a, c, e, f, g⟩ := h4 s m
      refine ⟨a, c, e, by simp; omega, fun q hq => ?_⟩
      rcases List.mem_append.1 hq with hq | hq
      · exact g q hq
      · obtain rfl := List.mem_singleton.1 hq; exact e3
    · exact h4 y hy
/-- The sessions of a client. -/
noncomputable def sessOfD (d : D_Desks) (c : Int) : List Int := if desksOk d then (d.2.2.filter fun s => decide (s.2.1 = c)).map (·.1) else []
theorem foldl_fm {β γ : Type} (p : β → Bool) (g : β → γ) : ∀ (xs : List β) (a : List γ), xs.foldl (fun t x => if p x then t ++ [g x] else t) a = a ++ (xs.filter p).map g
  | [], a => by simp
  | x :: xs, a => by
    rw [List.foldl_cons]
    cases hp : p x with
    | true => simp only [hp, if_true]; rw [foldl_fm p g xs]; simp [hp]
    | false => simp only [hp, Bool.false_eq_true, if_false]; rw [foldl_fm p g xs]; simp [hp]
theorem i_SessOf_eq {d : D_Desks} {c : Int} (ho : Ok.ok d) (hl : d.2.2.length ≤ 1000) : i_SessOf d c = some (sessOfD d c) := by
  unfold i_SessOf sessOfD
  simp only [Prod.eta, i_DesksOk_eq d ho, Option.bind_some]
  cases hk : desksOk d with
  | false => rfl
  | true =>
    simp only [Bool.not_true, cond_false, if_true]
    rw [whileP_for (l := d.2.2) (fun k (t : List Int) => (t, (k : Int))) (fun t s => .inl (if decide (s.2.1 = c) then t ++ [s.1] else t)) (fun t => some t) (fun k t => t.length ≤ k) [] (s0 := ([], 0)) rfl (Nat.le_refl _), goE_fold, foldl_fm (fun s : D_Sess => decide (s.2.1 = c)) (fun s => s.1)]
    · simp
    · intro k t s hs hI
      have hlt := (List.getElem?_eq_some_iff.1 hs).1
      try dsimp only at hI
      cases hc : decide (s.2.1 = c) with
      | true =>
        refine .inl ⟨t ++ [s.1], rfl, ?_, by simp; omega⟩
        simp only [lt_dec hlt, cond_true, idx_nat, hs, Option.bind_some, hc, wrap_succ (show k < 9223372036854775807 by omega)]
        rw [appP_ok (by simp; omega)]; rfl
      | false =>
        refine .inl ⟨t, rfl, ?_, by omega⟩
        simp only [lt_dec hlt, cond_true, cond_false, idx_nat, hs, Option.bind_some, hc, wrap_succ (show k < 9223372036854775807 by omega)]
    · intro t ht
      simp only [ge_dec]; rfl
theorem s_SessOf_eq {d : D_Desks} {c : Int} (ho : Ok.ok d) (hl : d.2.2.length ≤ 1000) : s_SessOf d c = some (sessOfD d c) := by
  unfold s_SessOf sessOfD
  simp only [Prod.eta, s_DesksOk_eq d ho, Option.bind_some, gbs]
  cases hk : desksOk d with
  | false =>
    rw [whileP_eq]
    cases decide ((0 : Int) < (d.2.2.length : Int)) <;> rfl
  | true =>
    simp only [if_true]
    rw [whileP_for (l := d.2.2) (fun k (t : List Int) => (t, (k : Int))) (fun t s => .inl (if decide (s.2.1 = c) then t ++ [s.1] else t)) (fun t => some t) (fun k t => t.length ≤ k) [] (s0 := ([], 0)) rfl (Nat.le_refl _), goE_fold, foldl_fm (fun s : D_Sess => decide (s.2.1 = c)) (fun s => s.1)]
    · simp
    · intro k t s hs hI
      have hlt := (List.getElem?_eq_some_iff.1 hs).1
      try dsimp only at hI
      cases hc : decide (s.2.1 = c) with
      | true =>
        refine .inl ⟨t ++ [s.1], rfl, ?_, by simp; omega⟩
        simp only [lt_dec hlt, cond_true, Bool.and_true, if_true, idx_nat, hs, Option.bind_some, hc, wrap_succ (show k < 9223372036854775807 by omega)]
        rw [appP_ok (by simp; omega)]; rfl
      | false =>
        refine .inl ⟨t, rfl, ?_, by omega⟩
        simp only [lt_dec hlt, cond_true, cond_false, Bool.and_true, if_true, idx_nat, hs, Option.bind_some, hc, wrap_succ (show k < 9223372036854775807 by omega)]
    · intro t ht
      simp only [ge_dec, Bool.false_and, if_false, Bool.false_eq_true]; rfl
theorem joined_le {l : List ByteArray} (h : ∀ p, p ∈ l → p.size ≤ 10) : (joined l).size ≤ 10 * l.length := by
  rw [joined_size]
  induction l with
  | nil => simp
  | cons x l ih =>
    have h1 := h x (List.mem_cons_self)
    have h2 := ih fun p hp => h p (List.mem_cons_of_mem _ hp)
    simp only [List.map_cons, List.sum_cons, List.length_cons]; omega
theorem joined_snoc (l : List ByteArray) (p : ByteArray) : joined (l ++ [p]) = joined l ++ p := by
  unfold joined; rw [List.foldl_append]; rfl
end Go.Proofs.SL
