/- The base of the walks, second part: data in memory, one rule for each kind of operation. -/
import Derived.Test.YthebgoognabinaaBase1
namespace Go.Proofs.SL
open Go

/-! Old memory -/
def Old (w0 : World) (S0 : List Nat) (a : Addr) (v : Value) : Prop := w0.cell? a = some v ∧ a.block ∉ S0

variable {Γ : Cx} {l : Envl} {M : List HP} {Q : Post} {K : Kont} {w0 w : World} {S0 : List Nat}

/-- What suffices for reading. -/
structure Sees (w0 : World) (S0 : List Nat) (M : List HP) (w : World) : Prop where
  old : ∀ k, k < w0.heap.size → k ∉ S0 → w.heap[k]? = w0.heap[k]?
  prs : ∀ h, h ∈ M → h.pr w
theorem Holds.sees (h : Holds w0 S0 M w) : Sees w0 S0 M w := ⟨h.old, h.prs⟩
theorem Holds.seesSub {M' : List HP} (h : Holds w0 S0 M w) (hs : ∀ x, x ∈ M' → x ∈ M) : Sees w0 S0 M' w := ⟨h.old, fun x hx => h.prs x (hs x hx)⟩

theorem Old.now {a : Addr} {v : Value} (h : Old w0 S0 a v) (hw : Sees w0 S0 M w) : w.cell? a = some v := by
  have hb := World.block_lt_of_cell? w0 a h.1
  rw [World.cell?_of_block (w := w0) (hw.old a.block hb h.2)]
  exact h.1

theorem Old.carry {a : Addr} {v : Value} {M1 M2 : List HP} (h : Old w0 S0 a v) (hw : Holds w0 S0 (M1 ++ M2) w) : Old w (fps M1) a v := by
  have hb := World.block_lt_of_cell? w0 a h.1
  refine ⟨h.now hw.sees, fun hm => ?_⟩
  rcases (hw.rng a.block (by rw [fps_append]; exact List.mem_append_left _ hm)).1 with h1 | h1
  · exact h.2 h1
  · omega

def inR (n : Int) : Prop := -9223372036854775808 ≤ n ∧ n ≤ 9223372036854775807

/-- Data that lies in memory, as a tree that bears its addresses. -/
class GT (τ : Type) (δ : outParam Type) where
  sz : Nat
  pos : 0 < sz
  cells : τ → List Value
  len : ∀ t, (cells t).length = sz
  one : ∀ t, ∀ v, v ∈ cells t → v.oneCell' = true
  rd : World → List Nat → τ → Prop
  fp : τ → List Nat
  ow : World → τ → Prop
  dat : τ → δ
  rd_mono : ∀ {w0 w S0 S t}, rd w0 S0 t → (∀ a v, Old w0 S0 a v → Old w S a v) → rd w S t
  ow_st : ∀ {w w' t}, (∀ k, k ∈ fp t → w'.heap[k]? = w.heap[k]?) → ow w t → ow w' t
  ow_rd : ∀ {w S t}, ow w t → (∀ k, k ∈ fp t → k ∉ S) → rd w S t

instance : GT Int Int where
  sz := 1
  pos := by decide
  cells n := [.int .i64 n]
  len _ := rfl
  one _ v hv := by simp at hv; subst hv; rfl
  rd _ _ _ := True
  fp _ := []
  ow _ _ := True
  dat n := n
  rd_mono h _ := h
  ow_st _ h := h
  ow_rd h _ := h

instance : GT Bool Bool where
  sz := 1
  pos := by decide
  cells b := [.bool b]
  len _ := rfl
  one _ v hv := by simp at hv; subst hv; rfl
  rd _ _ _ := True
  fp _ := []
  ow _ _ := True
  dat b := b
  rd_mono h _ := h
  ow_st _ h := h
  ow_rd h _ := h

instance : GT UInt8 UInt8 where
  sz := 1
  pos := by decide
  cells b := [.int .u8 b.toNat]
  len _ := rfl
  one _ v hv := by simp at hv; subst hv; rfl
  rd _ _ _ := True
  fp _ := []
  ow _ _ := True
  dat b := b
  rd_mono h _ := h
  ow_st _ h := h
  ow_rd h _ := h

def okStr (s : ByteArray) : Prop := s.size ≤ 9223372036854775807

instance : GT ByteArray ByteArray where
  sz := 1
  pos := by decide
  cells s := [.string s]
  len _ := rfl
  one _ v hv := by simp at hv; subst hv; rfl
  rd _ _ _ := True
  fp _ := []
  ow _ _ := True
  dat s := s
  rd_mono h _ := h
  ow_st _ h := h
  ow_rd h _ := h

instance {α β δ ε : Type} [GT α δ] [GT β ε] : GT (α × β) (δ × ε) where
  sz := GT.sz α + GT.sz β
  pos := by have := GT.pos (τ := α); omega
  cells t := GT.cells t.1 ++ GT.cells t.2
  len t := by simp [GT.len]
  one t v hv := by
    rcases List.mem_append.1 hv with h | h
    · exact GT.one _ v h
    · exact GT.one _ v h
  rd w S t := GT.rd w S t.1 ∧ GT.rd w S t.2
  fp t := GT.fp t.1 ++ GT.fp t.2
  ow w t := GT.ow w t.1 ∧ GT.ow w t.2
  dat t := (GT.dat t.1, GT.dat t.2)
  rd_mono h hm := ⟨GT.rd_mono h.1 hm, GT.rd_mono h.2 hm⟩
  ow_st hh h := ⟨GT.ow_st (fun k hk => hh k (List.mem_append_left _ hk)) h.1, GT.ow_st (fun k hk => hh k (List.mem_append_right _ hk)) h.2⟩
  ow_rd h hn := ⟨GT.ow_rd h.1 fun k hk => hn k (List.mem_append_left _ hk), GT.ow_rd h.2 fun k hk => hn k (List.mem_append_right _ hk)⟩

/-- A slice: where it begins, its capacity, its elements; behind them what stands up to the capacity (where that is known). -/
structure TL (τ : Type) where
  a : Option Addr
  cap : Nat
  e : TypeId
  els : List τ
  tail : List Value

def TL.hdr {τ : Type} (L : TL τ) : Value := .slice L.a L.els.length L.cap

section
variable {τ δ : Type} [GT τ δ]
def rowCells (xs : List τ) : List Value := xs.flatMap GT.cells
theorem rowCells_cons (x : τ) (xs : List τ) : rowCells (x :: xs) = GT.cells x ++ rowCells xs := by simp [rowCells]
theorem rowCells_append (xs ys : List τ) : rowCells (xs ++ ys) = rowCells xs ++ rowCells ys := by simp [rowCells]
@[simp] theorem length_rowCells (xs : List τ) : (rowCells xs).length = xs.length * GT.sz τ := by
  induction xs with
  | nil => simp [rowCells]
  | cons x xs ih => rw [rowCells_cons, List.length_append, ih, GT.len, List.length_cons, Nat.add_mul]; omega
theorem rowCells_get (xs : List τ) (i j : Nat) (x : τ) (h : xs[i]? = some x) (hj : j < GT.sz τ) : (rowCells xs)[i * GT.sz τ + j]? = (GT.cells x)[j]? := by
  induction xs generalizing i with
  | nil => simp at h
  | cons y ys ih =>
    rw [rowCells_cons]
    cases i with
    | zero =>
      simp at h; subst h
      rw [Nat.zero_mul, Nat.zero_add, List.getElem?_append_left (by rw [GT.len]; exact hj)]
    | succ i =>
      rw [List.getElem?_append_right (by rw [GT.len, Nat.add_mul]; omega), GT.len, show (i + 1) * GT.sz τ + j - GT.sz τ = i * GT.sz τ + j by rw [Nat.add_mul]; omega]
      exact ih i (by simpa using h)
theorem rowCells_one (xs : List τ) (v : Value) (h : v ∈ rowCells xs) : v.oneCell' = true := by
  obtain ⟨x, _, hx⟩ := List.mem_flatMap.1 h
  exact GT.one x v hx

instance : GT (TL τ) (List δ) where
  sz := 1
  pos := by decide
  cells L := [L.hdr]
  len _ := rfl
  one L v hv := by simp at hv; subst hv; rfl
  rd w S L := L.els.length ≤ L.cap ∧ L.cap ≤ maxLen ∧ (∀ x, x ∈ L.els → GT.rd w S x) ∧ (L.a = none → L.els = []) ∧
    ∀ a, L.a = some a → (L.els ≠ [] → a.spot = none) ∧ ∀ j v, (rowCells L.els)[j]? = some v → Old w S ⟨a.block, a.off + j, none⟩ v
  fp L := (match L.a with | none => [] | some a => [a.block]) ++ L.els.flatMap GT.fp
  ow w L := L.els.length ≤ L.cap ∧ L.cap ≤ maxLen ∧ (∀ x, x ∈ L.els → GT.ow w x) ∧ (L.a = none → L.els = [] ∧ L.cap = 0) ∧
    ∀ a, L.a = some a → a.spot = none ∧ a.off = 0 ∧ w.heap[a.block]? = some (.cells (rowCells L.els ++ L.tail).toArray L.e (0, 0)) ∧ L.els.length * GT.sz τ + L.tail.length = L.cap * GT.sz τ
  dat L := L.els.map GT.dat
  rd_mono h hm := ⟨h.1, h.2.1, fun x hx => GT.rd_mono (h.2.2.1 x hx) hm, h.2.2.2.1, fun a ha => ⟨(h.2.2.2.2 a ha).1, fun j v hv => hm _ _ ((h.2.2.2.2 a ha).2 j v hv)⟩⟩
  ow_st hh h := ⟨h.1, h.2.1, fun x hx => GT.ow_st (fun k hk => hh k (List.mem_append_right _ (List.mem_flatMap.2 ⟨x, hx, hk⟩))) (h.2.2.1 x hx), h.2.2.2.1, fun a ha => by
    obtain ⟨h1, h2, h3, h4⟩ := h.2.2.2.2 a ha
    exact ⟨h1, h2, by rw [hh a.block (by rw [ha]; simp)]; exact h3, h4⟩⟩
  ow_rd h hn := ⟨h.1, h.2.1, fun x hx => GT.ow_rd (h.2.2.1 x hx) (fun k hk => hn k (List.mem_append_right _ (List.mem_flatMap.2 ⟨x, hx, hk⟩))), fun ha => (h.2.2.2.1 ha).1, fun a ha => by
    obtain ⟨h1, h2, h3, h4⟩ := h.2.2.2.2 a ha
    refine ⟨fun _ => h1, fun j v hv => ⟨?_, hn a.block (by rw [ha]; simp)⟩⟩
    rw [cell_of_row _ _ _ _ _ _ h3, h2, Nat.zero_add]
    simp only [List.getElem?_toArray]
    rw [List.getElem?_append_left (List.getElem?_eq_some_iff.1 hv).1]
    exact hv⟩
end

def treeH {τ δ : Type} [GT τ δ] (t : τ) : HP := ⟨GT.fp t, fun w => GT.ow w t, fun _ _ h => GT.ow_st h⟩

/-- A block of cells that is known whole. -/
def blk (b : Nat) (cs : List Value) (T : TypeId) : HP := ⟨[b], fun w => w.heap[b]? = some (.cells cs.toArray T (0, 0)), fun w w' h hp => by rw [h b (by simp)]; exact hp⟩

/-! Picking a part out of a list of parts -/
inductive Pick (h : HP) : List HP → List HP → Prop
  | here (M : List HP) : Pick h (h :: M) M
  | there (g : HP) {M M' : List HP} (hp : Pick h M M') : Pick h (g :: M) (g :: M')
theorem Pick.perm {h : HP} {M M' : List HP} (p : Pick h M M') : List.Perm M (h :: M') := by
  induction p with
  | here M => exact List.Perm.refl _
  | there g _ ih => exact (ih.cons g).trans (List.Perm.swap _ _ _)
theorem MSub.cons {h : HP} {Ms M M' : List HP} (p : Pick h M M') (hs : MSub Ms M') : MSub (h :: Ms) M := by
  obtain ⟨r, hr⟩ := hs
  exact ⟨r, p.perm.trans (hr.cons h)⟩
/-- The same, as a split. -/
theorem perm_nil_left (M : List HP) : List.Perm M ([] ++ M) := by simp
theorem perm_cons {h : HP} {Ms M M' R : List HP} (p : Pick h M M') (hs : List.Perm M' (Ms ++ R)) : List.Perm M ((h :: Ms) ++ R) := p.perm.trans (hs.cons h)

/-! Reading -/
def RdC (Γ : Cx) (M : List HP) (g off : Nat) (cs : List Value) : Prop := ∀ w, Sees Γ.w0 Γ.S0 M w → ∀ j v, cs[j]? = some v → w.cell? ⟨g, off + j, none⟩ = some v
def Cells (w0 : World) (S0 : List Nat) (g off : Nat) (cs : List Value) : Prop := ∀ j v, cs[j]? = some v → Old w0 S0 ⟨g, off + j, none⟩ v
theorem RdC.old {g off : Nat} {cs : List Value} (h : Cells Γ.w0 Γ.S0 g off cs) : RdC Γ M g off cs := fun _ hw j v hv => (h j v hv).now hw
theorem RdC.blk {b : Nat} {cs : List Value} {T : TypeId} (h : blk b cs T ∈ M) : RdC Γ M b 0 cs := fun w hw j v hv => by
  have hp : w.heap[b]? = some (.cells cs.toArray T (0, 0)) := hw.prs _ h
  rw [cell_of_row _ _ _ _ _ _ hp, Nat.zero_add]
  simpa using hv

section
variable {τ δ : Type} [GT τ δ]
theorem Cells.el {L : TL τ} {g o i : Nat} {x : τ} (h : GT.rd w0 S0 L) (ha : L.a = some ⟨g, o, none⟩) (hi : L.els[i]? = some x) : Cells w0 S0 g (o + i * GT.sz τ) (GT.cells x) := fun j v hv => by
  have hj : j < GT.sz τ := by rw [← GT.len x]; exact (List.getElem?_eq_some_iff.1 hv).1
  have := (h.2.2.2.2 _ ha).2 (i * GT.sz τ + j) v (by rw [rowCells_get _ _ _ _ hi hj]; exact hv)
  rw [Nat.add_assoc]; exact this
theorem RdC.el {L : TL τ} {g o i : Nat} {x : τ} (hm : treeH L ∈ M) (ha : L.a = some ⟨g, o, none⟩) (hi : L.els[i]? = some x) : RdC Γ M g (o + i * GT.sz τ) (GT.cells x) := fun w hw j v hv => by
  have hj : j < GT.sz τ := by rw [← GT.len x]; exact (List.getElem?_eq_some_iff.1 hv).1
  have h : GT.ow w L := hw.prs _ hm
  obtain ⟨h1, h2, h3, h4⟩ := h.2.2.2.2 _ ha
  have h2' : o = 0 := h2
  subst h2'
  have hlt : i * GT.sz τ + j < (rowCells L.els).length := by
    have := (List.getElem?_eq_some_iff.1 (rowCells_get L.els i j x hi hj ▸ hv : (rowCells L.els)[i * GT.sz τ + j]? = some v)).1
    exact this
  rw [cell_of_row _ _ _ _ _ _ h3, Nat.zero_add]
  simp only [List.getElem?_toArray]
  rw [List.getElem?_append_left hlt, rowCells_get _ _ _ _ hi hj]
  exact hv
end

/-! Facts on types, asked of the program's tables by closed facts. -/
def aggOf (P : Program) (T : TypeId) : Option Nat :=
  match P.underlying T, P.info? T with
  | some (.struct _), some i => some i.size
  | some (.array _ _), some i => some i.size
  | _, _ => none
def oneOf (P : Program) (T : TypeId) : Bool :=
  match P.underlying T, P.info? T with
  | some (.struct _), _ => false
  | some (.array _ _), _ => false
  | some _, some i => i.size == 1
  | _, _ => false
def fldOf (P : Program) (T : TypeId) (f : Nat) : Option Nat :=
  match P.underlying T with
  | some (.struct fs) => match fs[f]? with
    | some x => match P.info? x.type with
      | some i => if i.size = 0 then none else some x.offset
      | none => none
    | none => none
  | _ => none
def elOf (P : Program) (T : TypeId) : Option (TypeId × Nat × Nat × List Value) :=
  match P.underlying T with
  | some (.slice e) => match P.info? e with
    | some i => match i.zero with
      | some z => some (e, i.size, i.bytes, z.cells.toList)
      | none => none
    | none => none
  | _ => none
def zeroOf (P : Program) (T : TypeId) : Option (List Value) :=
  match P.info? T with
  | some i => match i.zero with
    | some z => some z.cells.toList
    | none => none
  | none => none
def isStr (P : Program) (T : TypeId) : Bool := match P.underlying T with | some .string => true | _ => false

theorem run_isAgg_agg {P : Program} {T n : Nat} (h : aggOf P T = some n) (w : World) : (isAgg T).run P w = .ok true w ∧ (sizeOf T).run P w = .ok n w := by
  unfold aggOf at h
  split at h <;> (try cases h) <;> (rename_i h1 h2; simp [isAgg, underlying, sizeOf, typeInfo, h1, h2])
theorem run_isAgg_one {P : Program} {T : Nat} (h : oneOf P T = true) (w : World) : (isAgg T).run P w = .ok false w ∧ (sizeOf T).run P w = .ok 1 w := by
  unfold oneOf at h
  split at h
  · cases h
  · cases h
  · rename_i d i hd1 hd2 h1 h2
    simp only [beq_iff_eq] at h
    simp only [isAgg, underlying, sizeOf, typeInfo, Sem.run_bind, run_program, Result.andThen_ok, h1, h2, Sem.run_pure, h, and_true]
  · cases h

/-! Entering a function and leaving it -/
def envOf : Nat → List Value → Envl
  | _, [] => []
  | i, v :: vs => (i, v) :: envOf (i + 1) vs
theorem lookup_envOf (vs : List Value) : ∀ i t v, (envOf i vs).lookup t = some v → i ≤ t ∧ vs[t - i]? = some v := by
  induction vs with
  | nil => intro i t v h; simp [envOf] at h
  | cons u us ih =>
    intro i t v h
    simp only [envOf, List.lookup_cons] at h
    split at h
    · rename_i he; simp only [beq_iff_eq] at he; subst he; cases h; simp
    · rename_i he
      obtain ⟨h1, h2⟩ := ih (i + 1) t v h
      refine ⟨by omega, ?_⟩
      rw [show t - i = (t - (i + 1)) + 1 by omega]
      simpa using h2

def retQ (P : Program) (fn : Func) (w0 : World) (S0 : List Nat) (R : Value → List HP → Prop) : Post
  | .normal, l, M => ∃ v M', (∀ a w, Env a fn.ntmps l → Holds w0 S0 M w → (results fn a.tmps).run P w = .ok v w) ∧ R v M' ∧ MSub M' M
  | .ret, l, M => ∃ v M', (∀ a w, Env a fn.ntmps l → Holds w0 S0 M w → (results fn a.tmps).run P w = .ok v w) ∧ R v M' ∧ MSub M' M
  | _, _, _ => False

theorem Spec.intro {P : Program} {f : FuncId} {fn : Func} {c : Code} {args : List Value} {R : Value → List HP → Prop} {n : Nat} (hf : P.funcs[f]? = some fn) (hb : fn.body = some c)
    (hn : fn.ntmps = n) (hs : Nat.ble args.length n = true) (h : W ⟨P, n, w, fps M⟩ c (envOf 0 args) M (retQ P fn w (fps M) R)) : Spec P f args.toArray w M R := by
  subst hn
  have hs := Nat.le_of_ble_eq_true hs
  intro hh
  refine calls_of_wp hf hb (Code.wp_mono ?_ (h _ w ?_ hh))
  · intro e a w' q
    cases e <;> first
      | exact q.elim
      | (obtain ⟨l, M', h1, h2, h3⟩ := q; exact h3.elim)
      | (obtain ⟨l, M', h1, h2, v, M'', h3, h4, h5⟩ := q; exact ⟨h1.defers, v, h3 a w' h1 h2, v, M'', rfl, h4, h2.sub h5⟩)
  · refine ⟨by simp; omega, rfl, fun t v ht => ?_⟩
    obtain ⟨_, h2⟩ := lookup_envOf _ _ _ _ ht
    have hlt := (List.getElem?_eq_some_iff.1 h2).1
    rw [Array.getElem?_append_left (by simpa using hlt)]
    simpa using h2

def resS (tmps : Array Value) (rv : ResultVar) : Sem Value :=
  match rv with
  | .tmp t => pure (tmps.getD t undef)
  | .cell a t => do loadVar t (← asAddr (tmps.getD a undef))
theorem results_eq (fn : Func) (tmps : Array Value) : results fn tmps = (do
  let vs ← fn.results.mapM (resS tmps)
  pure (if h : vs.size = 1 then vs[0] else .tuple vs)) := rfl
/-- What a result variable yields. -/
def ResOK (P : Program) (n : Nat) (w0 : World) (S0 : List Nat) (l : Envl) (M : List HP) (rv : ResultVar) (v : Value) : Prop :=
  ∀ a w, Env a n l → Holds w0 S0 M w → (resS a.tmps rv).run P w = .ok v w

theorem ResOK.tmp {P : Program} {n t : Nat} {v : Value} (h : l.lookup t = some v) : ResOK P n w0 S0 l M (.tmp t) v := fun a w ha _ => by
  have := ha.get t v h
  simp [resS, Array.getD_eq_getD_getElem?, this]

theorem run_loadCells_at {P : Program} {g off : Nat} {cs : List Value} (h : ∀ j v, cs[j]? = some v → w.cell? ⟨g, off + j, none⟩ = some v) :
    (loadCells ⟨g, off, none⟩ cs.length).run P w = .ok cs.toArray w :=
  run_loadCells_list (P := P) w ⟨g, off, none⟩ cs (fun j v hv => by
    have hadd : (⟨g, off, none⟩ : Addr).add j = ⟨g, off + j, none⟩ := by unfold Addr.add; split <;> simp_all
    rw [hadd]; exact h j v hv)

theorem ResOK.cell {P : Program} {n t ty b : Nat} {cs : List Value} {T : TypeId} (h : l.lookup t = some (.pointer (some ⟨b, 0, none⟩))) (hm : blk b cs T ∈ M)
    (ht : aggOf P ty = some cs.length) : ResOK P n w0 S0 l M (.cell t ty) (.agg cs.toArray) := fun a w ha hw => by
  have := ha.get t _ h
  have hp : w.heap[b]? = some (.cells cs.toArray T (0, 0)) := hw.prs _ hm
  have hl : (loadCells ⟨b, 0, none⟩ cs.length).run P w = .ok cs.toArray w := run_loadCells_at (fun j v hv => by
    rw [cell_of_row _ _ _ _ _ _ hp, Nat.zero_add]; simpa using hv)
  simp [resS, Array.getD_eq_getD_getElem?, this, asAddr, loadVar, run_isAgg_agg ht, hl]

theorem res1 {P : Program} {fn : Func} {rv : ResultVar} {v : Value} {R : Value → List HP → Prop} {M' : List HP} (hr : fn.results = #[rv])
    (h : ResOK P fn.ntmps w0 S0 l M rv v) (hR : R v M') (hm : MSub M' M) : retQ P fn w0 S0 R .ret l M :=
  ⟨v, M', fun a w ha hw => by
    rw [results_eq, hr]
    simp [h a w ha hw], hR, hm⟩

theorem res2 {P : Program} {fn : Func} {r1 r2 : ResultVar} {v1 v2 : Value} {R : Value → List HP → Prop} {M' : List HP} (hr : fn.results = #[r1, r2])
    (h1 : ResOK P fn.ntmps w0 S0 l M r1 v1) (h2 : ResOK P fn.ntmps w0 S0 l M r2 v2) (hR : R (.tuple #[v1, v2]) M') (hm : MSub M' M) : retQ P fn w0 S0 R .ret l M :=
  ⟨_, M', fun a w ha hw => by
    rw [results_eq, hr]
    simp [h1 a w ha hw, h2 a w ha hw], hR, hm⟩

theorem res3 {P : Program} {fn : Func} {r1 r2 r3 : ResultVar} {v1 v2 v3 : Value} {R : Value → List HP → Prop} {M' : List HP} (hr : fn.results = #[r1, r2, r3])
    (h1 : ResOK P fn.ntmps w0 S0 l M r1 v1) (h2 : ResOK P fn.ntmps w0 S0 l M r2 v2) (h3 : ResOK P fn.ntmps w0 S0 l M r3 v3) (hR : R (.tuple #[v1, v2, v3]) M') (hm : MSub M' M) : retQ P fn w0 S0 R .ret l M :=
  ⟨_, M', fun a w ha hw => by
    rw [results_eq, hr]
    simp [h1 a w ha hw, h2 a w ha hw, h3 a w ha hw], hR, hm⟩

end Go.Proofs.SL
