/- The base of the walks, fifth part: one rule for each kind of operation, in a region whose order is open or whose operations bear guards. -/
import Derived.Test.YthebgoognabinaaBase4
namespace Go.Proofs.SL
open Go

variable {Γ : Cx} {ops : Array Oper} {Msh pool : List HP} {E : Fl} {rs : List (Option Nat × Rel)} {rest : List Oper} {KD : RKont} {cs0 : List Nat}
variable {d : Nat} {ty : TypeId} {pos : String} {af : Array Edge} {gd : Option (Nat × Bool)}

theorem dropE_nil (E : Fl) : dropE [] E = E := by simp [dropE]
theorem DV_nil (h : KD rs cs0 pool) : DV Γ ops Msh pool E rs cs0 [] KD := h

/-- An operand holds v wherever c. -/
def OpV (E : Fl) (x : Operand) (c : Prop) (v : Value) : Prop :=
  match x with
  | .tmp t => ∃ R, E.lookup t = some R ∧ ∀ u M, R u M → c → u = v
  | .const u => u = v
  | .func f => .func (.func f) #[] #[] = v
  | .global g => .pointer (some ⟨g, 0, none⟩) = v
theorem OpV.c {c : Prop} {v : Value} : OpV E (.const v) c v := rfl
theorem OpV.g {t : Nat} {c c' : Prop} {v : Value} (h : E.lookup t = some (FC c' v)) (hc : c → c') : OpV E (.tmp t) c v := ⟨_, h, fun _ _ hR hcc => hR.2.1 (hc hcc)⟩
theorem OpV.t {t : Nat} {c : Prop} {v : Value} (h : E.lookup t = some (FC True v)) : OpV E (.tmp t) c v := .g h fun _ => trivial
theorem OpV.s {t : Nat} {c : Prop} {v : Value} (h : E.lookup t = some (FC c v)) : OpV E (.tmp t) c v := .g h id

theorem OpV.eval {a : Act} {F : List HP} {o : Oper} {x : Operand} {c : Prop} {v : Value} (h : OpV E x c v) (hf : Facts E (o.looksAt ops) F a) (hx : x ∈ o.op.operands.toList) (hc : c) : a.eval x = v := by
  cases x with
  | tmp t =>
    obtain ⟨R, h1, h2⟩ := h
    obtain ⟨M, h3, _⟩ := hf t R (List.mem_append_left _ (List.mem_filterMap.2 ⟨_, hx, rfl⟩)) h1
    exact h2 _ _ h3 hc
  | const u => exact h
  | func f => exact h
  | global g => exact h

/-- When an operation is carried out. -/
def GC (ops : Array Oper) (E : Fl) (o : Oper) (c : Prop) : Prop := ∀ a F, Facts E (o.looksAt ops) F a → (Region.wanted o (yielded ops a.tmps) = true ↔ c)
theorem GC.none {op : Op} : GC ops E { dst := some d, op, type := ty, pos, after := af, guard := Option.none } True := fun a F _ => by simp [Region.wanted]
theorem GC.none' {o : Oper} (h : o.guard = Option.none) : GC ops E o True := fun a F _ => by simp [Region.wanted, h]
theorem GC.some {op : Op} {g tg : Nat} {want b : Bool} {c0 : Prop} {dd : Option Nat} (h1 : (ops[g]?).bind (·.dst) = some tg) (h2 : E.lookup tg = Option.some (FC c0 (.bool b))) :
    GC ops E { dst := dd, op, type := ty, pos, after := af, guard := Option.some (g, want) } (c0 ∧ b = want) := fun a F hf => by
  obtain ⟨M, ⟨_, h4, h5⟩, _⟩ := hf tg _ (List.mem_append_right _ (by simp [h1])) h2
  simp only [Region.wanted, yielded, h1, Option.bind_some]
  by_cases hc : c0
  · have h6 := h4 hc
    by_cases hlt : tg < a.tmps.size
    · simp only [Array.getD_eq_getD_getElem?, Array.getElem?_eq_getElem hlt, Option.getD_some] at h6
      rw [Array.getElem?_eq_getElem hlt, h6]
      simp [hc]
    · simp only [Array.getD_eq_getD_getElem?, Array.getElem?_eq_none (Nat.le_of_not_lt hlt), Option.getD_none] at h6
      cases h6
  · have h6 := h5 hc
    by_cases hlt : tg < a.tmps.size
    · simp only [Array.getD_eq_getD_getElem?, Array.getElem?_eq_getElem hlt, Option.getD_some] at h6
      rw [Array.getElem?_eq_getElem hlt, h6]
      simp [hc, undef]
    · rw [Array.getElem?_eq_none (Nat.le_of_not_lt hlt)]
      simp [hc]

theorem DV_pure {op : Op} (c : Prop) (x : Value) (hg : GC ops E { dst := some d, op, type := ty, pos, after := af, guard := gd } c)
    (he : ∀ a w F, c → Facts E (Oper.looksAt ops { dst := some d, op, type := ty, pos, after := af, guard := gd }) F a → Sees Γ.w0 Γ.S0 Msh w →
      (execOp a.eval { dst := some d, op, type := ty, pos, after := af, guard := gd }).run Γ.P w = .ok (.value x) w)
    (hk : DV Γ ops Msh pool ((d, FC c x) :: E) ((some d, FC c x) :: rs) cs0 rest KD) :
    DV Γ ops Msh pool E rs cs0 ({ dst := some d, op, type := ty, pos, after := af, guard := gd } :: rest) KD := by
  refine ⟨FC c x, [], pool, [], by simp, rfl, ?_, by rw [dropE_nil]; exact hk⟩
  intro a w F Mk _ _ hw hm hf hcf
  have hMk : Mk = [] := hcf
  subst hMk
  rw [dropE_nil] at hf
  simp only [List.nil_append] at hw ⊢
  have hgc := hg a F hf
  split
  · rename_i hwt
    have hc := hgc.1 hwt
    rw [he a w F hc hf ((show Holds Γ.w0 Γ.S0 F w by simpa using hw).seesSub hm)]
    exact ⟨[], ⟨rfl, fun _ => rfl, fun hn => (hn hc).elim⟩, hw⟩
  · rename_i hwt
    exact ⟨rfl, fun hc => (hwt (hgc.2 hc)).elim, fun _ => rfl⟩

theorem D_move {x : Operand} {c : Prop} {v : Value} (hg : GC ops E { dst := some d, op := .move x, type := ty, pos, after := af, guard := gd } c) (hx : OpV E x c v)
    (hk : DV Γ ops Msh pool ((d, FC c v) :: E) ((some d, FC c v) :: rs) cs0 rest KD) : DV Γ ops Msh pool E rs cs0 ({ dst := some d, op := .move x, type := ty, pos, after := af, guard := gd } :: rest) KD :=
  DV_pure c v hg (fun a w F hc hf _ => by have e := hx.eval hf (by simp [Op.operands]) hc; simp [execOp, e]) hk
theorem D_assign {x : Operand} {c : Prop} {v : Value} (hg : GC ops E { dst := some d, op := .assign x, type := ty, pos, after := af, guard := gd } c) (hx : OpV E x c v)
    (hk : DV Γ ops Msh pool ((d, FC c v) :: E) ((some d, FC c v) :: rs) cs0 rest KD) : DV Γ ops Msh pool E rs cs0 ({ dst := some d, op := .assign x, type := ty, pos, after := af, guard := gd } :: rest) KD :=
  DV_pure c v hg (fun a w F hc hf _ => by have e := hx.eval hf (by simp [Op.operands]) hc; simp [execOp, e]) hk
theorem D_not {x : Operand} {T : TypeId} {c : Prop} {b : Bool} (hg : GC ops E { dst := some d, op := .unOp .not T x, type := ty, pos, after := af, guard := gd } c) (hx : OpV E x c (.bool b))
    (hk : DV Γ ops Msh pool ((d, FC c (.bool (!b))) :: E) ((some d, FC c (.bool (!b))) :: rs) cs0 rest KD) : DV Γ ops Msh pool E rs cs0 ({ dst := some d, op := .unOp .not T x, type := ty, pos, after := af, guard := gd } :: rest) KD :=
  DV_pure c _ hg (fun a w F hc hf _ => by have e := hx.eval hf (by simp [Op.operands]) hc; simp [execOp, e, Op.unary]) hk
theorem D_bin {op : BinOp} {T U : TypeId} {x y : Operand} {c : Prop} {u v r : Value} (hg : GC ops E { dst := some d, op := .binOp op T x y U, type := ty, pos, after := af, guard := gd } c)
    (hx : OpV E x c u) (hy : OpV E y c v) (he : c → BinV Γ.P op T x y u v r)
    (hk : DV Γ ops Msh pool ((d, FC c r) :: E) ((some d, FC c r) :: rs) cs0 rest KD) : DV Γ ops Msh pool E rs cs0 ({ dst := some d, op := .binOp op T x y U, type := ty, pos, after := af, guard := gd } :: rest) KD :=
  DV_pure c r hg (fun a w F hc hf _ => by
    have e1 := hx.eval hf (by simp [Op.operands]) hc
    have e2 := hy.eval hf (by simp [Op.operands]) hc
    simp only [execOp, e1, e2]
    rw [Sem.run_bind, he hc w]; rfl) hk
theorem eval_const (a : Act) (v : Value) : a.eval (.const v) = v := rfl
/-- 'a || b' -/
theorem D_or {x y : Operand} {c cy : Prop} {b b' : Bool} (hg : GC ops E { dst := some d, op := .pick x (.const (.bool true)) y, type := ty, pos, after := af, guard := gd } c) (hx : OpV E x c (.bool b))
    (hy : OpV E y cy (.bool b')) (hcy : c → b = false → cy)
    (hk : DV Γ ops Msh pool ((d, FC c (.bool (b || b'))) :: E) ((some d, FC c (.bool (b || b'))) :: rs) cs0 rest KD) : DV Γ ops Msh pool E rs cs0 ({ dst := some d, op := .pick x (.const (.bool true)) y, type := ty, pos, after := af, guard := gd } :: rest) KD :=
  DV_pure c _ hg (fun a w F hc hf _ => by
    have e := hx.eval hf (by simp [Op.operands]) hc
    cases hb : b with
    | true => subst hb; simp [execOp, e, asBool, eval_const]
    | false =>
      have e2 := hy.eval hf (by simp [Op.operands]) (hcy hc hb)
      subst hb; simp [execOp, e, e2, asBool, eval_const]) hk
/-- 'a && b' -/
theorem D_and {x y : Operand} {c cy : Prop} {b b' : Bool} (hg : GC ops E { dst := some d, op := .pick x y (.const (.bool false)), type := ty, pos, after := af, guard := gd } c) (hx : OpV E x c (.bool b))
    (hy : OpV E y cy (.bool b')) (hcy : c → b = true → cy)
    (hk : DV Γ ops Msh pool ((d, FC c (.bool (b && b'))) :: E) ((some d, FC c (.bool (b && b'))) :: rs) cs0 rest KD) : DV Γ ops Msh pool E rs cs0 ({ dst := some d, op := .pick x y (.const (.bool false)), type := ty, pos, after := af, guard := gd } :: rest) KD :=
  DV_pure c _ hg (fun a w F hc hf _ => by
    have e := hx.eval hf (by simp [Op.operands]) hc
    cases hb : b with
    | false => subst hb; simp [execOp, e, asBool, eval_const]
    | true =>
      have e2 := hy.eval hf (by simp [Op.operands]) (hcy hc hb)
      subst hb; simp [execOp, e, e2, asBool, eval_const]) hk
theorem D_lenS {x : Operand} {T : TypeId} {e : TypeId × Nat × Nat × List Value} {a : Option Addr} {n cp : Nat} {c : Prop} (hg : GC ops E { dst := some d, op := .call { callee := .builtin .len, args := #[x], argTypes := #[T] }, type := ty, pos := pos, after := af, guard := gd } c)
    (hx : OpV E x c (.slice a n cp)) (ht : elOf Γ.P T = some e)
    (hk : DV Γ ops Msh pool ((d, FC c (.int .i64 n)) :: E) ((some d, FC c (.int .i64 n)) :: rs) cs0 rest KD) :
    DV Γ ops Msh pool E rs cs0 ({ dst := some d, op := .call { callee := .builtin .len, args := #[x], argTypes := #[T] }, type := ty, pos := pos, after := af, guard := gd } :: rest) KD :=
  DV_pure c _ hg (fun a' w F hc hf _ => by
    have e1 := hx.eval hf (by simp [Op.operands, Call.operands]) hc
    have := run_len_slice (z := e) ht a n cp ty w
    simp [execOp, resolve, invoke, builtin, e1, this]) hk
theorem D_lenT {x : Operand} {T : TypeId} {s : ByteArray} {c : Prop} (hg : GC ops E { dst := some d, op := .call { callee := .builtin .len, args := #[x], argTypes := #[T] }, type := ty, pos := pos, after := af, guard := gd } c)
    (hx : OpV E x c (.string s)) (ht : isStr Γ.P T = true)
    (hk : DV Γ ops Msh pool ((d, FC c (.int .i64 s.size)) :: E) ((some d, FC c (.int .i64 s.size)) :: rs) cs0 rest KD) :
    DV Γ ops Msh pool E rs cs0 ({ dst := some d, op := .call { callee := .builtin .len, args := #[x], argTypes := #[T] }, type := ty, pos := pos, after := af, guard := gd } :: rest) KD :=
  DV_pure c _ hg (fun a' w F hc hf _ => by
    have e1 := hx.eval hf (by simp [Op.operands, Call.operands]) hc
    have h2 : Γ.P.underlying T = some .string := by unfold isStr at ht; split at ht <;> simp_all
    simp [execOp, resolve, invoke, builtin, e1, Builtin.len_, underlying, h2, goInt]) hk

theorem run_fieldAt {P : Program} {T f fo : Nat} (ht : fldOf P T f = some fo) (g o : Nat) (w : World) : (Instr.fieldAt T (.pointer (some ⟨g, o, none⟩)) f).run P w = .ok (.pointer (some ⟨g, o + fo, none⟩)) w := by
  unfold fldOf at ht
  split at ht <;> (try cases ht)
  rename_i fs hfs
  split at ht <;> (try cases ht)
  rename_i x' hx'
  split at ht <;> (try cases ht)
  rename_i i hi
  split at ht <;> cases ht
  rename_i hsz
  simp [Instr.fieldAt, underlying, hfs, hx', Instr.sureAddr, fieldPlace, sizeOf, typeInfo, hi, hsz, addr_add]
theorem D_fieldAddr {x : Operand} {T f fo g o : Nat} {c : Prop} (hg : GC ops E { dst := some d, op := .fieldAddr T x f, type := ty, pos := pos, after := af, guard := gd } c)
    (hx : OpV E x c (.pointer (some ⟨g, o, none⟩))) (ht : fldOf Γ.P T f = some fo)
    (hk : DV Γ ops Msh pool ((d, FC c (.pointer (some ⟨g, o + fo, none⟩))) :: E) ((some d, FC c (.pointer (some ⟨g, o + fo, none⟩))) :: rs) cs0 rest KD) :
    DV Γ ops Msh pool E rs cs0 ({ dst := some d, op := .fieldAddr T x f, type := ty, pos := pos, after := af, guard := gd } :: rest) KD :=
  DV_pure c _ hg (fun a' w F hc hf _ => by
    have e1 := hx.eval hf (by simp [Op.operands]) hc
    simp [execOp, e1, run_fieldAt ht]) hk
theorem D_nilCheck {x : Operand} {a : Addr} {c : Prop} (hg : GC ops E { dst := some d, op := .nilCheck x, type := ty, pos := pos, after := af, guard := gd } c)
    (hx : OpV E x c (.pointer (some a)))
    (hk : DV Γ ops Msh pool ((d, FC c (.pointer (some a))) :: E) ((some d, FC c (.pointer (some a))) :: rs) cs0 rest KD) :
    DV Γ ops Msh pool E rs cs0 ({ dst := some d, op := .nilCheck x, type := ty, pos := pos, after := af, guard := gd } :: rest) KD :=
  DV_pure c _ hg (fun a' w F hc hf _ => by
    have e1 := hx.eval hf (by simp [Op.operands]) hc
    simp [execOp, e1]) hk
theorem D_indexAddr {x y : Operand} {T e sz by_ g o n cp : Nat} {z : List Value} {k : IntKind} {i : Int} (j : Nat) {c : Prop} (hg : GC ops E { dst := some d, op := .indexAddr T x y, type := ty, pos := pos, after := af, guard := gd } c)
    (hx : OpV E x c (.slice (some ⟨g, o, none⟩) n cp)) (hy : OpV E y c (.int k i)) (ht : elOf Γ.P T = some (e, sz, by_, z)) (hi : c → i = (j : Int) ∧ j < n)
    (hk : DV Γ ops Msh pool ((d, FC c (.pointer (some ⟨g, o + j * sz, none⟩))) :: E) ((some d, FC c (.pointer (some ⟨g, o + j * sz, none⟩))) :: rs) cs0 rest KD) :
    DV Γ ops Msh pool E rs cs0 ({ dst := some d, op := .indexAddr T x y, type := ty, pos := pos, after := af, guard := gd } :: rest) KD :=
  DV_pure c _ hg (fun a' w F hc hf _ => by
    have e1 := hx.eval hf (by simp [Op.operands]) hc
    have e2 := hy.eval hf (by simp [Op.operands]) hc
    simp [execOp, e1, e2, run_indexAt ht g o n cp k i j (hi hc).1 (hi hc).2 w]) hk
theorem D_index {x y : Operand} {T : TypeId} {s : ByteArray} {k : IntKind} {i : Int} (j : Nat) {c : Prop} (hg : GC ops E { dst := some d, op := .index T x y, type := ty, pos := pos, after := af, guard := gd } c)
    (hx : OpV E x c (.string s)) (hy : OpV E y c (.int k i)) (ht : isStr Γ.P T = true) (hi : c → i = (j : Int) ∧ j < s.size)
    (hk : DV Γ ops Msh pool ((d, FC c (.int .u8 (s.data.getD j 0).toNat)) :: E) ((some d, FC c (.int .u8 (s.data.getD j 0).toNat)) :: rs) cs0 rest KD) :
    DV Γ ops Msh pool E rs cs0 ({ dst := some d, op := .index T x y, type := ty, pos := pos, after := af, guard := gd } :: rest) KD :=
  DV_pure c _ hg (fun a' w F hc hf _ => by
    have e1 := hx.eval hf (by simp [Op.operands]) hc
    have e2 := hy.eval hf (by simp [Op.operands]) hc
    have h2 : Γ.P.underlying T = some .string := by unfold isStr at ht; split at ht <;> simp_all
    obtain ⟨h3, h4⟩ := hi hc
    subst h3
    have h5 : s.data.getD j 0 = s[j] := by
      simp only [Array.getD_eq_getD_getElem?]
      rw [Array.getElem?_eq_getElem (show j < s.data.size from h4)]; rfl
    rw [h5]
    simp [execOp, e1, e2, Instr.index, asIntOf, underlying, h2, h4]) hk
theorem D_convInt {x : Operand} {S T : TypeId} {k k' : IntKind} {n : Int} {c : Prop} (hg : GC ops E { dst := some d, op := .convert S T x, type := ty, pos := pos, after := af, guard := gd } c)
    (hx : OpV E x c (.int k n)) (ht : Γ.P.underlying T = some (.int k')) (hs : (Γ.P.underlying S).isSome = true)
    (hk : DV Γ ops Msh pool ((d, FC c (.int k' (k'.wrap n))) :: E) ((some d, FC c (.int k' (k'.wrap n))) :: rs) cs0 rest KD) :
    DV Γ ops Msh pool E rs cs0 ({ dst := some d, op := .convert S T x, type := ty, pos := pos, after := af, guard := gd } :: rest) KD :=
  DV_pure c _ hg (fun a' w F hc hf _ => by
    have e1 := hx.eval hf (by simp [Op.operands]) hc
    obtain ⟨u, hu⟩ := Option.isSome_iff_exists.1 hs
    simp [execOp, e1, convert, underlying, hu, ht, Conv.intToInt]) hk
theorem D_load {x : Operand} {T g off fo : Nat} {cs : List Value} {v : Value} {c : Prop} (hg : GC ops E { dst := some d, op := .load T x, type := ty, pos := pos, after := af, guard := gd } c)
    (hx : OpV E x c (.pointer (some ⟨g, off + fo, none⟩))) (hc : c → RdC Γ Msh g off cs) (ht : oneOf Γ.P T = true) (hv : cs[fo]? = some v)
    (hk : DV Γ ops Msh pool ((d, FC c v) :: E) ((some d, FC c v) :: rs) cs0 rest KD) :
    DV Γ ops Msh pool E rs cs0 ({ dst := some d, op := .load T x, type := ty, pos := pos, after := af, guard := gd } :: rest) KD :=
  DV_pure c _ hg (fun a' w F hcc hf hw => by
    have e1 := hx.eval hf (by simp [Op.operands]) hcc
    simp [execOp, e1, Instr.loadAt, Instr.sureAddr, loadVar, run_isAgg_one ht, hc hcc w hw fo v hv]) hk
theorem D_load0 {x : Operand} {T g off : Nat} {cs : List Value} {v : Value} {c : Prop} (hg : GC ops E { dst := some d, op := .load T x, type := ty, pos := pos, after := af, guard := gd } c)
    (hx : OpV E x c (.pointer (some ⟨g, off, none⟩))) (hc : c → RdC Γ Msh g off cs) (ht : oneOf Γ.P T = true) (hv : cs[0]? = some v)
    (hk : DV Γ ops Msh pool ((d, FC c v) :: E) ((some d, FC c v) :: rs) cs0 rest KD) :
    DV Γ ops Msh pool E rs cs0 ({ dst := some d, op := .load T x, type := ty, pos := pos, after := af, guard := gd } :: rest) KD :=
  D_load (fo := 0) hg hx hc ht hv hk
theorem D_loadW {x : Operand} {T g off : Nat} {cs : List Value} {c : Prop} (hg : GC ops E { dst := some d, op := .load T x, type := ty, pos := pos, after := af, guard := gd } c)
    (hx : OpV E x c (.pointer (some ⟨g, off, none⟩))) (hc : c → RdC Γ Msh g off cs) (ht : aggOf Γ.P T = some cs.length)
    (hk : DV Γ ops Msh pool ((d, FC c (.agg cs.toArray)) :: E) ((some d, FC c (.agg cs.toArray)) :: rs) cs0 rest KD) :
    DV Γ ops Msh pool E rs cs0 ({ dst := some d, op := .load T x, type := ty, pos := pos, after := af, guard := gd } :: rest) KD :=
  DV_pure c _ hg (fun a' w F hcc hf hw => by
    have e1 := hx.eval hf (by simp [Op.operands]) hcc
    have hl := run_loadCells_at (P := Γ.P) (hc hcc w hw)
    simp [execOp, e1, Instr.loadAt, Instr.sureAddr, loadVar, run_isAgg_agg ht, hl]) hk

/-! Calls -/
/-- The value x, and nothing new in memory. -/
def IsV (x : Value) : Rel := fun v M => v = x ∧ M = []

def OpVs (E : Fl) (c : Prop) : List Operand → List Value → Prop
  | [], [] => True
  | x :: xs, v :: vs => OpV E x c v ∧ OpVs E c xs vs
  | _, _ => False
theorem OpVs.nil {c : Prop} : OpVs E c [] [] := trivial
theorem OpVs.cons {c : Prop} {x : Operand} {v : Value} {xs : List Operand} {vs : List Value} (h : OpV E x c v) (hs : OpVs E c xs vs) : OpVs E c (x :: xs) (v :: vs) := ⟨h, hs⟩
theorem OpVs.evals {a : Act} {F : List HP} {o : Oper} {c : Prop} (hc : c) (hf : Facts E (o.looksAt ops) F a) : ∀ (xs : List Operand) (vs : List Value), OpVs E c xs vs → (∀ x, x ∈ xs → x ∈ o.op.operands.toList) → xs.map a.eval = vs
  | [], [], _, _ => rfl
  | x :: xs, v :: vs, h, hm => by
    rw [List.map_cons, h.1.eval hf (hm x (by simp)) hc, OpVs.evals hc hf xs vs h.2 (fun y hy => hm y (List.mem_cons_of_mem _ hy))]
  | [], _ :: _, h, _ => h.elim
  | _ :: _, [], h, _ => h.elim

/-- A call that only reads. -/
theorem D_callX {f : Nat} {xs : List Operand} {ats : Array TypeId} {vs : List Value} {c : Prop} {x : Value}
    (hg : GC ops E { dst := some d, op := .call { callee := .value (.func f), args := xs.toArray, argTypes := ats }, type := ty, pos := pos, after := af, guard := gd } c)
    (hf : IsFn Γ.P f) (hx : OpVs E c xs vs) (hc : c → ∀ w F, Holds Γ.w0 Γ.S0 F w → (∀ h, h ∈ Msh → h ∈ F) → Spec Γ.P f vs.toArray w [] (IsV x))
    (hk : DV Γ ops Msh pool ((d, FC c x) :: E) ((some d, FC c x) :: rs) cs0 rest KD) :
    DV Γ ops Msh pool E rs cs0 ({ dst := some d, op := .call { callee := .value (.func f), args := xs.toArray, argTypes := ats }, type := ty, pos := pos, after := af, guard := gd } :: rest) KD := by
  refine ⟨FC c x, [], pool, [], by simp, rfl, ?_, by rw [dropE_nil]; exact hk⟩
  intro a w F Mk _ _ hw hm hfa hcf
  have hMk : Mk = [] := hcf
  subst hMk
  rw [dropE_nil] at hfa
  simp only [List.nil_append] at hw ⊢
  have hgc := hg a F hfa
  split
  · rename_i hwt
    have hcc := hgc.1 hwt
    have hw' : Holds Γ.w0 Γ.S0 F w := by simpa using hw
    have h2 : (#[] ++ xs.toArray.map a.eval ++ #[] : Array Value) = vs.toArray := by
      simp [OpVs.evals (o := { dst := some d, op := .call { callee := .value (.func f), args := xs.toArray, argTypes := ats }, type := ty, pos := pos, after := af, guard := gd }) hcc hfa xs vs hx (fun x hx => by simp [Op.operands, Call.operands, hx])]
    rw [execOp_call_go, h2, hf.run]
    exact (hc hcc w F hw' hm (Holds.split (M1 := []) (M2 := F) hw)).mono fun e w'' ⟨v, M', h1, h3, h4⟩ => ⟨v, M', h1, ⟨h3.2, fun _ => h3.1, fun hn => (hn hcc).elim⟩, Holds.frame (M1 := []) (M2 := F) hw h4⟩
  · rename_i hwt
    exact ⟨rfl, fun hc => (hwt (hgc.2 hc)).elim, fun _ => rfl⟩

/-- What the operands of a call hold, exactly or not. -/
def OpRs (E : Fl) : List Operand → List Rel → Prop
  | [], [] => True
  | x :: xs, R :: Rs => (match x with | .tmp t => ∃ R', E.lookup t = some R' ∧ ∀ v M, R' v M → R v M | .const u => R u [] | .func f => R (.func (.func f) #[] #[]) [] | .global g => R (.pointer (some ⟨g, 0, none⟩)) []) ∧ OpRs E xs Rs
  | _, _ => False
def AllR (F : List HP) : List Rel → List Value → Prop
  | [], vs => vs = []
  | R :: Rs, vs => ∃ v us M, vs = v :: us ∧ R v M ∧ (∀ h, h ∈ M → h ∈ F) ∧ AllR F Rs us
theorem OpRs.evals {a : Act} {F : List HP} {o : Oper} (hf : Facts E (o.looksAt ops) F a) : ∀ (xs : List Operand) (Rs : List Rel), OpRs E xs Rs → (∀ x, x ∈ xs → x ∈ o.op.operands.toList) → AllR F Rs (xs.map a.eval)
  | [], [], _, _ => rfl
  | x :: xs, R :: Rs, h, hm => by
    have h2 := OpRs.evals hf xs Rs h.2 (fun y hy => hm y (List.mem_cons_of_mem _ hy))
    have h1 := h.1
    cases x with
    | tmp t =>
      obtain ⟨R', h3, h4⟩ := h1
      obtain ⟨M, h5, h6⟩ := hf t R' (List.mem_append_left _ (List.mem_filterMap.2 ⟨_, hm _ (List.mem_cons_self ..), rfl⟩)) h3
      exact ⟨_, _, M, rfl, h4 _ _ h5, h6, h2⟩
    | const u => exact ⟨_, _, [], rfl, h1, fun x hx => (by cases hx), h2⟩
    | func f => exact ⟨_, _, [], rfl, h1, fun x hx => (by cases hx), h2⟩
    | global g => exact ⟨_, _, [], rfl, h1, fun x hx => (by cases hx), h2⟩
  | [], _ :: _, h, _ => h.elim
  | _ :: _, [], h, _ => h.elim

/-- A call, its operands and its result known by relations alone. -/
theorem D_callR {f : Nat} {xs : List Operand} {ats : Array TypeId} (Rs : List Rel) (R : Rel)
    (hf : IsFn Γ.P f) (hx : OpRs E xs Rs) (hc : ∀ w F vs, Holds Γ.w0 Γ.S0 F w → (∀ h, h ∈ Msh → h ∈ F) → AllR F Rs vs → Spec Γ.P f vs.toArray w [] R)
    (hk : DV Γ ops Msh pool ((d, R) :: E) ((some d, R) :: rs) cs0 rest KD) :
    DV Γ ops Msh pool E rs cs0 ({ dst := some d, op := .call { callee := .value (.func f), args := xs.toArray, argTypes := ats }, type := ty, pos := pos, after := af, guard := none } :: rest) KD := by
  refine ⟨R, [], pool, [], by simp, rfl, ?_, by rw [dropE_nil]; exact hk⟩
  intro a w F Mk _ _ hw hm hfa hcf
  have hMk : Mk = [] := hcf
  subst hMk
  rw [dropE_nil] at hfa
  simp only [List.nil_append] at hw ⊢
  rw [if_pos (by simp [Region.wanted])]
  have hw' : Holds Γ.w0 Γ.S0 F w := by simpa using hw
  have h1 := OpRs.evals (o := { dst := some d, op := .call { callee := .value (.func f), args := xs.toArray, argTypes := ats }, type := ty, pos := pos, after := af, guard := none }) hfa xs Rs hx (fun x hx => by simp [Op.operands, Call.operands, hx])
  have h2 : (#[] ++ xs.toArray.map a.eval ++ #[] : Array Value) = (xs.map a.eval).toArray := by simp
  rw [execOp_call_go, h2, hf.run]
  exact (hc w F _ hw' hm h1 (Holds.split (M1 := []) (M2 := F) hw)).mono fun e w'' ⟨v, M', h1, h3, h4⟩ => ⟨v, M', h1, h3, Holds.frame (M1 := []) (M2 := F) hw h4⟩

/-- A store of one cell into a block of the pool. -/
theorem D_store {x y : Operand} {T b fo : Nat} {T' : TypeId} {cs : List Value} {v : Value} {pool' : List HP} (hx : OpV E x True (.pointer (some ⟨b, 0 + fo, none⟩))) (hy : OpV E y True v) (hp : Pick (blk b cs T') pool pool')
    (ht : oneOf Γ.P T = true) (h1 : v.oneCell' = true) (hlt : Nat.blt fo cs.length = true)
    (hk : DV Γ ops Msh pool' E ((none, fun _ M => M = [blk b (cs.set fo v) T']) :: rs) cs0 rest KD) :
    DV Γ ops Msh pool E rs cs0 ({ dst := none, op := .store T x y, type := ty, pos, after := af, guard := none } :: rest) KD := by
  refine ⟨fun _ M => M = [blk b (cs.set fo v) T'], [blk b cs T'], pool', [], hp.perm, rfl, ?_, by rw [dropE_nil]; exact hk⟩
  intro a w F Mk _ _ hw hm hfa hcf
  have hMk : Mk = [] := hcf
  subst hMk
  rw [dropE_nil] at hfa
  simp only [List.nil_append] at hw
  rw [if_pos (by simp [Region.wanted])]
  have e1 := hx.eval hfa (by simp [Op.operands]) trivial
  have e2 := hy.eval hfa (by simp [Op.operands]) trivial
  rw [Nat.zero_add] at e1
  have hlt := Nat.le_of_ble_eq_true hlt
  have hh : w.heap[b]? = some (.cells cs.toArray T' (0, 0)) := hw.prs (blk b cs T') (by simp)
  have hc : v.cells = #[v] := by cases v <;> first | rfl | cases h1
  have hs := run_store_blk (P := Γ.P) (fo := fo) (vs := [v]) (ty := T) hh (by simpa using hlt) (by simpa using h1)
  have e : (cs.take fo ++ [v] ++ cs.drop (fo + [v].length)) = cs.set fo v := by
    rw [List.set_eq_take_append_cons_drop, if_pos (show fo < cs.length from hlt)]; simp
  rw [e] at hs
  have hrun : (execOp a.eval { dst := none, op := .store T x y, type := ty, pos, after := af, guard := none }).run Γ.P w = .ok .skip (w.setRow b (cs.set fo v).toArray) := by
    simp [execOp, e1, e2, Instr.storeAt, Instr.sureAddr, storeVar, run_isAgg_one ht, hc, hs]
  rw [hrun]
  exact ⟨_, rfl, setRow_blk (cs' := cs.set fo v) hw⟩
/-- A store of a whole struct. -/
theorem D_storeW {x y : Operand} {T b : Nat} {T' : TypeId} {cs cs' : List Value} {pool' : List HP} (hx : OpV E x True (.pointer (some ⟨b, 0, none⟩))) (hy : OpV E y True (.agg cs'.toArray)) (hp : Pick (blk b cs T') pool pool')
    (ht : aggOf Γ.P T = some cs'.length) (hl : cs'.length = cs.length) (h1 : ∀ v, v ∈ cs' → v.oneCell' = true)
    (hk : DV Γ ops Msh pool' E ((none, fun _ M => M = [blk b cs' T']) :: rs) cs0 rest KD) :
    DV Γ ops Msh pool E rs cs0 ({ dst := none, op := .store T x y, type := ty, pos, after := af, guard := none } :: rest) KD := by
  refine ⟨fun _ M => M = [blk b cs' T'], [blk b cs T'], pool', [], hp.perm, rfl, ?_, by rw [dropE_nil]; exact hk⟩
  intro a w F Mk _ _ hw hm hfa hcf
  have hMk : Mk = [] := hcf
  subst hMk
  rw [dropE_nil] at hfa
  simp only [List.nil_append] at hw
  rw [if_pos (by simp [Region.wanted])]
  have e1 := hx.eval hfa (by simp [Op.operands]) trivial
  have e2 := hy.eval hfa (by simp [Op.operands]) trivial
  have hh : w.heap[b]? = some (.cells cs.toArray T' (0, 0)) := hw.prs (blk b cs T') (by simp)
  have hs := run_store_blk (P := Γ.P) (fo := 0) (vs := cs') (ty := T) hh (by omega) h1
  have e : (cs.take 0 ++ cs' ++ cs.drop (0 + cs'.length)) = cs' := by simp [hl]
  rw [e] at hs
  have hrun : (execOp a.eval { dst := none, op := .store T x y, type := ty, pos, after := af, guard := none }).run Γ.P w = .ok .skip (w.setRow b cs'.toArray) := by
    simp [execOp, e1, e2, Instr.storeAt, Instr.sureAddr, storeVar, run_isAgg_agg ht, Value.cells, hs]
  rw [hrun]
  exact ⟨_, rfl, setRow_blk (cs' := cs') hw⟩

/-! Taking what is there at the end -/
theorem Give_is {ts : List Nat} {t : Nat} {x : Value} {l : Envl} {M : List HP} {K : Kont} (hc : cs0.elem t = false) (ht : ts.elem t = true) (h : Give ts cs0 rs ((t, x) :: l) M K) : Give ts cs0 ((some t, FC True x) :: rs) l M K := by
  simp only [Give, ht, hc]
  rintro v Mr ⟨rfl, h1, _⟩
  rw [h1 trivial]; exact h
theorem Give_drop {ts : List Nat} {t : Nat} {R : Rel} {l : Envl} {M : List HP} {K : Kont} (ht : ts.elem t = false) (h : Give ts cs0 rs l M K) : Give ts cs0 ((some t, R) :: rs) l M K := by
  simp only [Give, ht]; split <;> exact h
theorem Give_cons {ts : List Nat} {t : Nat} {R : Rel} {l : Envl} {M : List HP} {K : Kont} (hc : cs0.elem t = true) (h : Give ts cs0 rs l M K) : Give ts cs0 ((some t, R) :: rs) l M K := by
  simp only [Give, hc]; exact h
theorem Give_R {ts : List Nat} {t : Nat} {R : Rel} {l : Envl} {M : List HP} {K : Kont} (hc : cs0.elem t = false) (ht : ts.elem t = true) (h : ∀ v Mr, R v Mr → Give ts cs0 rs ((t, v) :: l) (Mr ++ M) K) : Give ts cs0 ((some t, R) :: rs) l M K := by
  simp only [Give, ht, hc]; exact h
theorem Give_st {ts : List Nat} {b : List HP} {l : Envl} {M : List HP} {K : Kont} (h : Give ts cs0 rs l (b ++ M) K) : Give ts cs0 ((none, fun _ M => M = b) :: rs) l M K := by
  rintro Mr rfl; exact h
theorem Give_stR {ts : List Nat} {R : Rel} {l : Envl} {M : List HP} {K : Kont} (h : ∀ Mr, R undef Mr → Give ts cs0 rs l (Mr ++ M) K) : Give ts cs0 ((none, R) :: rs) l M K := h
theorem Give_nil {ts : List Nat} {l : Envl} {M : List HP} {K : Kont} (h : K l M) : Give ts cs0 [] l M K := h

/-- A call that only reads, in a region as it stands. -/
theorem L_callX {l : Envl} {M : List HP} {K : Kont} {f : Nat} {xs : List Operand} {ats : Array TypeId} {vs : List Value} {x : Value}
    (hn : Nat.blt d Γ.n = true) (hf : IsFn Γ.P f) (hx : evs l xs = some vs) (hc : ∀ w, Holds Γ.w0 Γ.S0 M w → Spec Γ.P f vs.toArray w [] (IsV x))
    (hk : L Γ rest ((d, x) :: l) M K) : L Γ ({ dst := some d, op := .call { callee := .value (.func f), args := xs.toArray, argTypes := ats }, type := ty, pos := pos, after := af, guard := none } :: rest) l M K :=
  L_call (M1 := []) (M2 := M) (R := IsV x) rfl rfl rfl (Nat.le_of_ble_eq_true hn) hf hx (by simp) (fun w hw => hc w hw) (fun v M' ⟨h1, h2⟩ => by subst h1; subst h2; exact hk)
/-- A call by its contract that consumes nothing and may make memory. -/
theorem L_callR {l : Envl} {M : List HP} {K : Kont} {f : Nat} {xs : List Operand} {ats : Array TypeId} {vs : List Value} {R : Rel}
    (hn : Nat.blt d Γ.n = true) (hf : IsFn Γ.P f) (hx : evs l xs = some vs) (hc : ∀ w, Holds Γ.w0 Γ.S0 M w → Spec Γ.P f vs.toArray w [] R)
    (hk : ∀ v M', R v M' → L Γ rest ((d, v) :: l) (M' ++ M) K) : L Γ ({ dst := some d, op := .call { callee := .value (.func f), args := xs.toArray, argTypes := ats }, type := ty, pos := pos, after := af, guard := none } :: rest) l M K :=
  L_call (M1 := []) (M2 := M) (R := R) rfl rfl rfl (Nat.le_of_ble_eq_true hn) hf hx (by simp) (fun w hw => hc w hw) hk

section
variable {τ δ : Type} [GT τ δ] {w0 w : World} {S0 : List Nat} {F : List HP} {t : τ}
theorem rd_carry (h : GT.rd w0 S0 t) (hw : Holds w0 S0 F w) : GT.rd w [] t := GT.rd_mono h fun _ _ ho => ho.carry (M1 := []) (M2 := F) hw
theorem rd_of_tree (hm : treeH t ∈ F) (hw : Sees w0 S0 F w) : GT.rd w [] t := GT.ow_rd (hw.prs _ hm) fun _ _ h => by cases h
end

theorem rd_addr {τ δ : Type} [GT τ δ] {w0 : World} {S0 : List Nat} {L : TL τ} {k : Nat} (h : GT.rd w0 S0 L) (hk : k < L.els.length) : ∃ g o, L.a = some ⟨g, o, none⟩ := by
  cases ha : L.a with
  | none => have := h.2.2.2.1 ha; rw [this] at hk; simp at hk
  | some a =>
    obtain ⟨b, o, s⟩ := a
    have := (h.2.2.2.2 _ ha).1 (fun e => by rw [e] at hk; simp at hk)
    exact ⟨b, o, by simp at this; rw [this]⟩
theorem getEl {α : Type} {xs : List α} {k : Nat} (h : k < xs.length) : ∃ x, xs[k]? = some x := ⟨xs[k], List.getElem?_eq_getElem h⟩
theorem take_succ_eq {α : Type} {xs ys : List α} {k : Nat} {x y : α} (h : xs.take k = ys.take k) (hx : xs[k]? = some x) (hy : ys[k]? = some y) (e : x = y) : xs.take (k + 1) = ys.take (k + 1) := by
  rw [List.take_add_one, List.take_add_one, h, hx, hy, e]
theorem rd_len {τ δ : Type} [GT τ δ] {w0 : World} {S0 : List Nat} {L : TL τ} (h : GT.rd w0 S0 L) : L.els.length ≤ 9223372036854775807 := by
  have h1 := h.1; have h2 := h.2.1; simp only [maxLen] at h2; omega

/-- As W_D, the pool in front. -/
theorem W_DS {l : Envl} {M : List HP} {Q : Post} {id : Nat} {draw : Bool} {pre suf : List Oper} (ts : List Nat) (pool Msh : List HP) (hp : List.Perm M (pool ++ Msh)) (hm : Γ.P.follows .mixedOrders = true)
    (hd : dagB Γ.n (pre ++ suf).toArray = true) (hsb : sufB (pre ++ suf).toArray pre.length = true) (hc : checkTs ts l (pre ++ suf).toArray pre = true)
    (h : DV Γ (pre ++ suf).toArray Msh pool (initE l) [] [] pre (fun rs cs pool' => Give ts cs rs l (pool' ++ Msh) fun l' M' => L Γ suf l' M' fun l M => Q .normal l M)) : W Γ (.region id (pre ++ suf).toArray draw) l M Q :=
  W_D ts Msh pool (hp.trans List.perm_append_comm) hm hd hsb hc h
end Go.Proofs.SL
