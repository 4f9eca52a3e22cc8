/- The base of the walks, third part: one rule for each kind of operation, in a region that is carried out as it stands. -/
import Derived.Test.YthebgoognabinaaBase2
namespace Go.Proofs.SL
open Go

variable {Γ : Cx} {l : Envl} {M : List HP} {Q : Post} {K : Kont} {w0 w : World} {S0 : List Nat}
variable {rest : List Oper} {d : Nat} {ty : TypeId} {pos : String} {af : Array Edge}

/-- An operation that turns nothing. -/
theorem L_pure {op : Op} {v : Value} (hn : Nat.blt d Γ.n = true)
    (he : ∀ a w, Env a Γ.n l → Holds Γ.w0 Γ.S0 M w → (execOp a.eval { dst := some d, op, type := ty, pos, after := af, guard := none }).run Γ.P w = .ok (.value v) w)
    (hk : L Γ rest ((d, v) :: l) M K) : L Γ ({ dst := some d, op, type := ty, pos, after := af, guard := none } :: rest) l M K :=
  L_step rfl rfl (Nat.le_of_ble_eq_true hn) (fun a w ha hw => ⟨w, he a w ha hw, hw⟩) hk

theorem L_move {x : Operand} {v : Value} (hn : Nat.blt d Γ.n = true) (hx : ev l x = some v) (hk : L Γ rest ((d, v) :: l) M K) :
    L Γ ({ dst := some d, op := .move x, type := ty, pos, after := af, guard := none } :: rest) l M K :=
  L_pure hn (fun a w ha _ => by simp [execOp, ha.eval hx]) hk
theorem L_assign {x : Operand} {v : Value} (hn : Nat.blt d Γ.n = true) (hx : ev l x = some v) (hk : L Γ rest ((d, v) :: l) M K) :
    L Γ ({ dst := some d, op := .assign x, type := ty, pos, after := af, guard := none } :: rest) l M K :=
  L_pure hn (fun a w ha _ => by simp [execOp, ha.eval hx]) hk
theorem L_pick {c x y : Operand} {b : Bool} {u v : Value} (hn : Nat.blt d Γ.n = true) (hc : ev l c = some (.bool b)) (hx : ev l x = some u) (hy : ev l y = some v)
    (hk : L Γ rest ((d, if b then u else v) :: l) M K) :
    L Γ ({ dst := some d, op := .pick c x y, type := ty, pos, after := af, guard := none } :: rest) l M K :=
  L_pure hn (fun a w ha _ => by simp [execOp, ha.eval hc, ha.eval hx, ha.eval hy, asBool]) hk

/-! Arithmetic -/
theorem L_bin {op : BinOp} {T U : TypeId} {x y : Operand} {u v r : Value} (hn : Nat.blt d Γ.n = true) (hx : ev l x = some u) (hy : ev l y = some v)
    (he : ∀ w, (do eqGuard op T x y u v; binOp op T u v : Sem Value).run Γ.P w = .ok r w)
    (hk : L Γ rest ((d, r) :: l) M K) :
    L Γ ({ dst := some d, op := .binOp op T x y U, type := ty, pos, after := af, guard := none } :: rest) l M K :=
  L_pure hn (fun a w ha _ => by
    simp only [execOp, ha.eval hx, ha.eval hy]
    rw [Sem.run_bind, he w]; rfl) hk

def BinV (P : Program) (op : BinOp) (T : TypeId) (x y : Operand) (u v r : Value) : Prop := ∀ w, (do eqGuard op T x y u v; binOp op T u v : Sem Value).run P w = .ok r w
theorem L_binV {op : BinOp} {T U : TypeId} {x y : Operand} {u v r : Value} (hn : Nat.blt d Γ.n = true) (hx : ev l x = some u) (hy : ev l y = some v)
    (he : BinV Γ.P op T x y u v r) (hk : L Γ rest ((d, r) :: l) M K) :
    L Γ ({ dst := some d, op := .binOp op T x y U, type := ty, pos, after := af, guard := none } :: rest) l M K := L_bin hn hx hy he hk

section
variable {P : Program} {T : TypeId} {x y : Operand} {k : IntKind} {a b : Int}
theorem wrap64_in {n : Int} (h : inR n) : IntKind.wrap .i64 n = n := IntWalk.i64_in n h
theorem wrap64_inR (n : Int) : inR (IntKind.wrap .i64 n) := by rw [IntKind.wrap_i64]; unfold inR; omega
theorem bv_add : BinV P .add T x y (.int k a) (.int k b) (.int k (k.wrap (a + b))) := fun w => by simp [eqGuard, binOp, Op.intArith]
theorem bv_sub : BinV P .sub T x y (.int k a) (.int k b) (.int k (k.wrap (a - b))) := fun w => by simp [eqGuard, binOp, Op.intArith]
theorem bv_mul : BinV P .mul T x y (.int k a) (.int k b) (.int k (k.wrap (a * b))) := fun w => by simp [eqGuard, binOp, Op.intArith]
theorem bv_addR (h : inR (a + b)) : BinV P .add T x y (.int .i64 a) (.int .i64 b) (.int .i64 (a + b)) := by have := @bv_add P T x y .i64 a b; rwa [wrap64_in h] at this
theorem bv_subR (h : inR (a - b)) : BinV P .sub T x y (.int .i64 a) (.int .i64 b) (.int .i64 (a - b)) := by have := @bv_sub P T x y .i64 a b; rwa [wrap64_in h] at this
theorem bv_mulR (h : inR (a * b)) : BinV P .mul T x y (.int .i64 a) (.int .i64 b) (.int .i64 (a * b)) := by have := @bv_mul P T x y .i64 a b; rwa [wrap64_in h] at this
theorem bv_quo (hb : b ≠ 0) : BinV P .quo T x y (.int k a) (.int k b) (.int k (k.wrap (a.tdiv b))) := fun w => by simp [eqGuard, binOp, Op.intDiv, hb]
theorem bv_rem (hb : b ≠ 0) : BinV P .rem T x y (.int k a) (.int k b) (.int k (a.tmod b)) := fun w => by simp [eqGuard, binOp, Op.intDiv, hb]
theorem bv_lss : BinV P .lss T x y (.int k a) (.int k b) (.bool (decide (a < b))) := fun w => by simp [eqGuard, binOp, Op.intCmp]
theorem bv_leq : BinV P .leq T x y (.int k a) (.int k b) (.bool (decide (a ≤ b))) := fun w => by simp [eqGuard, binOp, Op.intCmp]
theorem bv_gtr : BinV P .gtr T x y (.int k a) (.int k b) (.bool (decide (b < a))) := fun w => by simp [eqGuard, binOp, Op.intCmp]
theorem bv_geq : BinV P .geq T x y (.int k a) (.int k b) (.bool (decide (b ≤ a))) := fun w => by simp [eqGuard, binOp, Op.intCmp]
theorem bv_eql : BinV P .eql T x y (.int k a) (.int k b) (.bool (decide (a = b))) := fun w => by by_cases h : a = b <;> simp [eqGuard, binOp, Op.intCmp, h]
theorem bv_neq : BinV P .neq T x y (.int k a) (.int k b) (.bool (!decide (a = b))) := fun w => by by_cases h : a = b <;> simp [eqGuard, binOp, Op.intCmp, h]

theorem str_eq (s t : ByteArray) : (s.toList == t.toList) = decide (s = t) := by
  by_cases h : s = t
  · subst h; simp
  · rw [decide_eq_false h]
    refine beq_eq_false_iff_ne.2 fun e => h ?_
    rw [ByteArray.toList_eq, ByteArray.toList_eq] at e
    cases s; cases t
    exact congrArg _ (Array.toList_inj.1 e)
variable {s t : ByteArray}
theorem bv_seql : BinV P .eql T x y (.string s) (.string t) (.bool (decide (s = t))) := fun w => by simp [eqGuard, binOp, Op.stringOp, str_eq]
theorem bv_sneq : BinV P .neq T x y (.string s) (.string t) (.bool (!decide (s = t))) := fun w => by simp [eqGuard, binOp, Op.stringOp, str_eq]
/-- The order of strings. -/
def sLt (s t : ByteArray) : Bool := Op.bytesLess s.toList t.toList
theorem bv_slss : BinV P .lss T x y (.string s) (.string t) (.bool (sLt s t)) := fun w => by simp [eqGuard, binOp, Op.stringOp, sLt]
theorem bv_sgeq : BinV P .geq T x y (.string s) (.string t) (.bool (!sLt s t)) := fun w => by simp [eqGuard, binOp, Op.stringOp, sLt]
theorem bv_sadd (h : s.size + t.size ≤ 9223372036854775807) : BinV P .add T x y (.string s) (.string t) (.string (s ++ t)) := fun w => by
  have : ¬ (((s.size + t.size : Nat) : Int) > IntKind.i64.max) := by
    have e : IntKind.i64.max = 9223372036854775807 := by decide
    rw [e]; omega
  simp only [eqGuard, binOp, Op.stringOp, if_neg this]
  simp
end

theorem L_not {x : Operand} {T : TypeId} {b : Bool} (hn : Nat.blt d Γ.n = true) (hx : ev l x = some (.bool b)) (hk : L Γ rest ((d, .bool (!b)) :: l) M K) :
    L Γ ({ dst := some d, op := .unOp .not T x, type := ty, pos := pos, after := af, guard := none } :: rest) l M K :=
  L_pure hn (fun a w ha _ => by simp [execOp, ha.eval hx, Op.unary]) hk
theorem L_neg {x : Operand} {T : TypeId} {n : Int} (hn : Nat.blt d Γ.n = true) (hx : ev l x = some (.int .i64 n)) (hr : inR (-n)) (hk : L Γ rest ((d, .int .i64 (-n)) :: l) M K) :
    L Γ ({ dst := some d, op := .unOp .neg T x, type := ty, pos := pos, after := af, guard := none } :: rest) l M K :=
  L_pure hn (fun a w ha _ => by simp [execOp, ha.eval hx, Op.unary, Op.intArith, wrap64_in hr]) hk

/-! Lengths -/
theorem run_len_slice {P : Program} {T : TypeId} {e z : TypeId × Nat × Nat × List Value} (h : elOf P T = some e) (a : Option Addr) (n c : Nat) (ty : TypeId) (w : World) :
    (Builtin.len_ #[T] ty #[.slice a n c]).run P w = .ok (.int .i64 n) w := by
  unfold elOf at h
  split at h <;> (try cases h)
  rename_i e' he
  simp [Builtin.len_, underlying, he, goInt]
theorem L_lenS {x : Operand} {T : TypeId} {e : TypeId × Nat × Nat × List Value} {a : Option Addr} {n c : Nat} (hn : Nat.blt d Γ.n = true) (hx : ev l x = some (.slice a n c)) (ht : elOf Γ.P T = some e)
    (hk : L Γ rest ((d, .int .i64 n) :: l) M K) :
    L Γ ({ dst := some d, op := .call { callee := .builtin .len, args := #[x], argTypes := #[T] }, type := ty, pos := pos, after := af, guard := none } :: rest) l M K :=
  L_pure hn (fun a' w ha _ => by
    have := run_len_slice (z := e) ht a n c ty w
    simp [execOp, resolve, invoke, builtin, ha.eval hx, this]) hk
theorem L_lenT {x : Operand} {T : TypeId} {s : ByteArray} (hn : Nat.blt d Γ.n = true) (hx : ev l x = some (.string s)) (ht : isStr Γ.P T = true)
    (hk : L Γ rest ((d, .int .i64 s.size) :: l) M K) :
    L Γ ({ dst := some d, op := .call { callee := .builtin .len, args := #[x], argTypes := #[T] }, type := ty, pos := pos, after := af, guard := none } :: rest) l M K :=
  L_pure hn (fun a' w ha _ => by
    have h2 : Γ.P.underlying T = some .string := by unfold isStr at ht; split at ht <;> simp_all
    simp [execOp, resolve, invoke, builtin, ha.eval hx, Builtin.len_, underlying, h2, goInt]) hk

/-! Addresses -/
theorem addr_add (g o n : Nat) : (⟨g, o, none⟩ : Addr).add n = ⟨g, o + n, none⟩ := by unfold Addr.add; split <;> simp_all
theorem L_fieldAddr {x : Operand} {T f fo g o : Nat} (hn : Nat.blt d Γ.n = true) (hx : ev l x = some (.pointer (some ⟨g, o, none⟩))) (ht : fldOf Γ.P T f = some fo)
    (hk : L Γ rest ((d, .pointer (some ⟨g, o + fo, none⟩)) :: l) M K) :
    L Γ ({ dst := some d, op := .fieldAddr T x f, type := ty, pos := pos, after := af, guard := none } :: rest) l M K :=
  L_pure hn (fun a' w ha _ => by
    unfold fldOf at ht
    split at ht <;> (try cases ht)
    rename_i fs hfs
    split at ht <;> (try cases ht)
    rename_i x' hx'
    split at ht <;> (try cases ht)
    rename_i i hi
    split at ht <;> cases ht
    rename_i hsz
    simp [execOp, ha.eval hx, Instr.fieldAt, underlying, hfs, hx', Instr.sureAddr, fieldPlace, sizeOf, typeInfo, hi, hsz, addr_add]) hk
theorem L_nilCheck {x : Operand} {a : Addr} (hn : Nat.blt d Γ.n = true) (hx : ev l x = some (.pointer (some a)))
    (hk : L Γ rest ((d, .pointer (some a)) :: l) M K) :
    L Γ ({ dst := some d, op := .nilCheck x, type := ty, pos := pos, after := af, guard := none } :: rest) l M K :=
  L_pure hn (fun a' w ha _ => by simp [execOp, ha.eval hx]) hk

theorem run_indexAt {P : Program} {T : TypeId} {e : TypeId} {sz by_ : Nat} {z : List Value} (h : elOf P T = some (e, sz, by_, z)) (g o n c : Nat) (k : IntKind) (i : Int) (j : Nat) (hi : i = (j : Int)) (hj : j < n) (w : World) :
    (Instr.indexAt T (.slice (some ⟨g, o, none⟩) n c) (.int k i)).run P w = .ok (.pointer (some ⟨g, o + j * sz, none⟩)) w := by
  unfold elOf at h
  split at h <;> (try cases h)
  rename_i e' he
  split at h <;> (try cases h)
  rename_i i' hi'
  split at h <;> cases h
  subst hi
  have h0 : (0 : Int) ≤ (j : Int) ∧ ((j : Int) < (n : Int)) := by omega
  have h0' : ¬ n ≤ j := by omega
  simp [Instr.indexAt, asIntOf, underlying, he, h0, h0', sizeOf, typeInfo, hi', addr_add]
theorem L_indexAddr {x y : Operand} {T e sz by_ g o n c : Nat} {z : List Value} {k : IntKind} {i : Int} {j : Nat} (hn : Nat.blt d Γ.n = true) (hx : ev l x = some (.slice (some ⟨g, o, none⟩) n c)) (hy : ev l y = some (.int k i))
    (ht : elOf Γ.P T = some (e, sz, by_, z)) (hi : i = (j : Int)) (hj : j < n) (hk : L Γ rest ((d, .pointer (some ⟨g, o + j * sz, none⟩)) :: l) M K) :
    L Γ ({ dst := some d, op := .indexAddr T x y, type := ty, pos := pos, after := af, guard := none } :: rest) l M K :=
  L_pure hn (fun a' w ha _ => by simp [execOp, ha.eval hx, ha.eval hy, run_indexAt ht g o n c k i j hi hj w]) hk
theorem L_index {x y : Operand} {T : TypeId} {s : ByteArray} {k : IntKind} {i : Int} {j : Nat} (hn : Nat.blt d Γ.n = true) (hx : ev l x = some (.string s)) (hy : ev l y = some (.int k i))
    (ht : isStr Γ.P T = true) (hi : i = (j : Int)) (hj : j < s.size) (hk : L Γ rest ((d, .int .u8 (s[j]).toNat) :: l) M K) :
    L Γ ({ dst := some d, op := .index T x y, type := ty, pos := pos, after := af, guard := none } :: rest) l M K :=
  L_pure hn (fun a' w ha _ => by
    have h2 : Γ.P.underlying T = some .string := by unfold isStr at ht; split at ht <;> simp_all
    subst hi
    simp [execOp, ha.eval hx, ha.eval hy, Instr.index, asIntOf, underlying, h2, hj]) hk
theorem L_convInt {x : Operand} {S T : TypeId} {k k' : IntKind} {n : Int} (hn : Nat.blt d Γ.n = true) (hx : ev l x = some (.int k n)) (ht : Γ.P.underlying T = some (.int k')) (hs : (Γ.P.underlying S).isSome = true)
    (hk : L Γ rest ((d, .int k' (k'.wrap n)) :: l) M K) :
    L Γ ({ dst := some d, op := .convert S T x, type := ty, pos := pos, after := af, guard := none } :: rest) l M K :=
  L_pure hn (fun a' w ha _ => by
    obtain ⟨u, hu⟩ := Option.isSome_iff_exists.1 hs
    simp [execOp, ha.eval hx, convert, underlying, hu, ht, Conv.intToInt]) hk

/-! Loads -/
theorem L_load {x : Operand} {T g off fo : Nat} {cs : List Value} {v : Value} (hn : Nat.blt d Γ.n = true) (hx : ev l x = some (.pointer (some ⟨g, off + fo, none⟩))) (hc : RdC Γ M g off cs) (ht : oneOf Γ.P T = true)
    (hv : cs[fo]? = some v) (hk : L Γ rest ((d, v) :: l) M K) :
    L Γ ({ dst := some d, op := .load T x, type := ty, pos := pos, after := af, guard := none } :: rest) l M K :=
  L_pure hn (fun a' w ha hw => by simp [execOp, ha.eval hx, Instr.loadAt, Instr.sureAddr, loadVar, run_isAgg_one ht, hc w hw.sees fo v hv]) hk
theorem L_load0 {x : Operand} {T g off : Nat} {cs : List Value} {v : Value} (hn : Nat.blt d Γ.n = true) (hx : ev l x = some (.pointer (some ⟨g, off, none⟩))) (hc : RdC Γ M g off cs) (ht : oneOf Γ.P T = true)
    (hv : cs[0]? = some v) (hk : L Γ rest ((d, v) :: l) M K) :
    L Γ ({ dst := some d, op := .load T x, type := ty, pos := pos, after := af, guard := none } :: rest) l M K :=
  L_pure hn (fun a' w ha hw => by
    have := hc w hw.sees 0 v hv
    simp only [Nat.add_zero] at this
    simp [execOp, ha.eval hx, Instr.loadAt, Instr.sureAddr, loadVar, run_isAgg_one ht, this]) hk
/-- A whole struct. -/
theorem L_loadW {x : Operand} {T g off : Nat} {cs : List Value} (hn : Nat.blt d Γ.n = true) (hx : ev l x = some (.pointer (some ⟨g, off, none⟩))) (hc : RdC Γ M g off cs) (ht : aggOf Γ.P T = some cs.length)
    (hk : L Γ rest ((d, .agg cs.toArray) :: l) M K) :
    L Γ ({ dst := some d, op := .load T x, type := ty, pos := pos, after := af, guard := none } :: rest) l M K :=
  L_pure hn (fun a' w ha hw => by
    have hl := run_loadCells_at (P := Γ.P) (hc w hw.sees)
    simp [execOp, ha.eval hx, Instr.loadAt, Instr.sureAddr, loadVar, run_isAgg_agg ht, hl]) hk
/-- A struct that lies within another one. -/
theorem RdC.seg {g off : Nat} {cs : List Value} (h : RdC Γ M g off cs) (fo n : Nat) {cs' : List Value} (he : (cs.drop fo).take n = cs') : RdC Γ M g (off + fo) cs' := fun w hw j v hv => by
  subst he
  rw [List.getElem?_take] at hv
  split at hv
  · rw [List.getElem?_drop] at hv
    rw [Nat.add_assoc]; exact h w hw _ _ hv
  · cases hv

/-! New variables -/
theorem Holds.new {b : Nat} {cs : List Value} {T : TypeId} (hw : Holds w0 S0 M w) (hb : b = w.heap.size) : Holds w0 S0 (blk b cs T :: M) (w.alloc (.cells cs.toArray T (0, 0))) := by
  subst hb
  have hlt : ∀ k, k ∈ fps M → k < w.heap.size := fun k hk => (hw.rng k hk).2
  refine ⟨hw.os, hw.tape, hw.output, by rw [World.size_alloc]; have := hw.size; omega, fun k hk hs => ?_, fun x hx => ?_, ?_, fun k hk => ?_⟩
  · rw [heap_alloc_old _ _ (Nat.lt_of_lt_of_le hk hw.size)]; exact hw.old k hk hs
  · rcases List.mem_cons.1 hx with rfl | hx
    · exact heap_alloc_new w _
    · exact x.st w _ (fun k hk => heap_alloc_old _ _ (hlt k (List.mem_flatMap.2 ⟨x, hx, hk⟩))) (hw.prs x hx)
  · rw [fps_cons]
    refine List.nodup_append.2 ⟨by simp [blk], hw.nodup, fun a ha b hb e => ?_⟩
    simp [blk] at ha; subst ha; subst e
    have := hlt _ hb; omega
  · rw [fps_cons] at hk
    rw [World.size_alloc]
    rcases List.mem_append.1 hk with hk | hk
    · simp [blk] at hk; subst hk; exact ⟨.inr hw.size, by omega⟩
    · exact ⟨(hw.rng k hk).1, by have := hlt k hk; omega⟩

theorem L_new {op : Op} {cs : List Value} {T : TypeId} (hn : Nat.blt d Γ.n = true)
    (he : ∀ a w, Env a Γ.n l → (execOp a.eval { dst := some d, op, type := ty, pos, after := af, guard := none }).run Γ.P w = .ok (.value (.pointer (some ⟨w.heap.size, 0, none⟩))) (w.alloc (.cells cs.toArray T (0, 0))))
    (hk : ∀ b, L Γ rest ((d, .pointer (some ⟨b, 0, none⟩)) :: l) (blk b cs T :: M) K) : L Γ ({ dst := some d, op, type := ty, pos, after := af, guard := none } :: rest) l M K :=
  L_stepR (fun v M' => ∃ b, v = .pointer (some ⟨b, 0, none⟩) ∧ M' = blk b cs T :: M) rfl rfl (Nat.le_of_ble_eq_true hn)
    (fun a w ha hw => ⟨_, _, _, ⟨w.heap.size, rfl, rfl⟩, he a w ha, hw.new rfl⟩) (fun v M' ⟨b, h1, h2⟩ => by subst h1; subst h2; exact hk b)
theorem L_box {x : Operand} {T : TypeId} {v : Value} (hn : Nat.blt d Γ.n = true) (hx : ev l x = some v)
    (hk : ∀ b, L Γ rest ((d, .pointer (some ⟨b, 0, none⟩)) :: l) (blk b v.cells.toList T :: M) K) : L Γ ({ dst := some d, op := .box T x, type := ty, pos, after := af, guard := none } :: rest) l M K :=
  L_new hn (fun a w ha => by simp [execOp, ha.eval hx, Instr.box, newVar, newRow]) hk
theorem L_alloc {T : TypeId} {z : List Value} (hn : Nat.blt d Γ.n = true) (hz : zeroOf Γ.P T = some z)
    (hk : ∀ b, L Γ rest ((d, .pointer (some ⟨b, 0, none⟩)) :: l) (blk b z T :: M) K) : L Γ ({ dst := some d, op := .alloc T, type := ty, pos, after := af, guard := none } :: rest) l M K :=
  L_new hn (fun a w ha => by
    unfold zeroOf at hz
    split at hz <;> (try cases hz)
    rename_i i hi
    split at hz <;> cases hz
    rename_i z' hz'
    simp [execOp, Instr.alloc, zeroValue, typeInfo, hi, hz', newVar, newRow]) hk

/-! Stores into blocks that are known whole -/
theorem setRow_blk {b : Nat} {cs cs' : List Value} {T : TypeId} {M' : List HP} (hw : Holds w0 S0 (blk b cs T :: M') w) : Holds w0 S0 (blk b cs' T :: M') (w.setRow b cs'.toArray) := by
  have hp : w.heap[b]? = some (.cells cs.toArray T (0, 0)) := hw.prs (blk b cs T) (by simp)
  have hnd := hw.nodup
  rw [fps_cons] at hnd
  obtain ⟨_, hn2, hdis⟩ := List.nodup_append.1 hnd
  have hb : b ∈ S0 ∨ w0.heap.size ≤ b := (hw.rng b (by simp [fps, blk])).1
  refine ⟨hw.os, hw.tape, hw.output, by simpa using hw.size, fun k hk hs => ?_, fun x hx => ?_, ?_, fun k hk => ?_⟩
  · rw [setRow_other w b k _ (fun e => by subst e; rcases hb with h | h; exact hs h; omega)]
    exact hw.old k hk hs
  · rcases List.mem_cons.1 hx with rfl | hx
    · exact setRow_heap w b cs.toArray _ T _ hp
    · exact x.st w _ (fun k hk => setRow_other w b k _ (fun e => hdis b (by simp [blk]) k (List.mem_flatMap.2 ⟨x, hx, hk⟩) e.symm)) (hw.prs x (List.mem_cons_of_mem _ hx))
  · exact hw.nodup
  · rw [size_setRow]; exact hw.rng k hk

theorem run_store_blk {P : Program} {b fo : Nat} {cs vs : List Value} {T ty : TypeId} (hp : w.heap[b]? = some (.cells cs.toArray T (0, 0))) (hfit : fo + vs.length ≤ cs.length) (h1 : ∀ v, v ∈ vs → v.oneCell' = true) :
    (storeCells ⟨b, fo, none⟩ vs).run P w = .ok () (w.setRow b (cs.take fo ++ vs ++ cs.drop (fo + vs.length)).toArray) := by
  have := run_storeCells_at P b fo T vs 0 cs.toArray w hp (by simpa using hfit) h1
  simpa using this

theorem L_store {x y : Operand} {T b fo : Nat} {T' : TypeId} {cs : List Value} {v : Value} {M' : List HP} (hx : ev l x = some (.pointer (some ⟨b, 0 + fo, none⟩))) (hy : ev l y = some v) (hp : Pick (blk b cs T') M M')
    (ht : oneOf Γ.P T = true) (h1 : v.oneCell' = true) (hlt : Nat.blt fo cs.length = true) (hk : L Γ rest l (blk b (cs.set fo v) T' :: M') K) :
    L Γ ({ dst := none, op := .store T x y, type := ty, pos, after := af, guard := none } :: rest) l M K :=
  L_skip rfl rfl (fun a w ha hw => by
    have hw' := hw.perm hp.perm
    have hh : w.heap[b]? = some (.cells cs.toArray T' (0, 0)) := hw'.prs (blk b cs T') (by simp)
    have hlt := Nat.le_of_ble_eq_true hlt
    have hc : v.cells = #[v] := by cases v <;> first | rfl | cases h1
    have hs := run_store_blk (P := Γ.P) (fo := fo) (vs := [v]) (ty := T) hh (by simpa using hlt) (by simpa using h1)
    refine ⟨_, ?_, setRow_blk (cs' := cs.set fo v) hw'⟩
    rw [Nat.zero_add] at hx
    have e : (cs.take fo ++ [v] ++ cs.drop (fo + [v].length)) = cs.set fo v := by
      rw [List.set_eq_take_append_cons_drop, if_pos (show fo < cs.length from hlt)]; simp
    rw [e] at hs
    simp [execOp, ha.eval hx, ha.eval hy, Instr.storeAt, Instr.sureAddr, storeVar, run_isAgg_one ht, hc, hs]) hk
/-- A variable of one cell. -/
theorem L_store0 {x y : Operand} {T b : Nat} {T' : TypeId} {u v : Value} {M' : List HP} (hx : ev l x = some (.pointer (some ⟨b, 0, none⟩))) (hy : ev l y = some v) (hp : Pick (blk b [u] T') M M')
    (ht : oneOf Γ.P T = true) (h1 : v.oneCell' = true) (hk : L Γ rest l (blk b [v] T' :: M') K) :
    L Γ ({ dst := none, op := .store T x y, type := ty, pos, after := af, guard := none } :: rest) l M K :=
  L_store (fo := 0) hx hy hp ht h1 rfl hk
/-- A whole struct. -/
theorem L_storeW {x y : Operand} {T b : Nat} {T' : TypeId} {cs cs' : List Value} {M' : List HP} (hx : ev l x = some (.pointer (some ⟨b, 0, none⟩))) (hy : ev l y = some (.agg cs'.toArray)) (hp : Pick (blk b cs T') M M')
    (ht : aggOf Γ.P T = some cs'.length) (hl : cs'.length = cs.length) (h1 : ∀ v, v ∈ cs' → v.oneCell' = true) (hk : L Γ rest l (blk b cs' T' :: M') K) :
    L Γ ({ dst := none, op := .store T x y, type := ty, pos, after := af, guard := none } :: rest) l M K :=
  L_skip rfl rfl (fun a w ha hw => by
    have hw' := hw.perm hp.perm
    have hh : w.heap[b]? = some (.cells cs.toArray T' (0, 0)) := hw'.prs (blk b cs T') (by simp)
    have hs := run_store_blk (P := Γ.P) (fo := 0) (vs := cs') (ty := T) hh (by omega) h1
    refine ⟨_, ?_, setRow_blk (cs' := cs') hw'⟩
    have e : (cs.take 0 ++ cs' ++ cs.drop (0 + cs'.length)) = cs' := by simp [hl]
    rw [e] at hs
    simp [execOp, ha.eval hx, ha.eval hy, Instr.storeAt, Instr.sureAddr, storeVar, run_isAgg_agg ht, Value.cells, hs]) hk
end Go.Proofs.SL
