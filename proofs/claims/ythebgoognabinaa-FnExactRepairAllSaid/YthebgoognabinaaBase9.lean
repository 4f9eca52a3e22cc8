/- The base of the walks, ninth part: values built of parts, strings and bytes, function values. -/
import Derived.Test.YthebgoognabinaaBase8
namespace Go.Proofs.SL
open Go

variable {Γ : Cx} {l : Envl} {M M1 M2 F : List HP} {Q : Post} {K : Kont} {w0 w : World} {S0 : List Nat}
variable {rest : List Oper} {d : Nat} {ty : TypeId} {pos : String} {af : Array Edge}

theorem L_extract {x : Operand} {i : Nat} {vs : Array Value} {v : Value} (hn : Nat.blt d Γ.n = true) (hx : ev l x = some (.tuple vs)) (hv : vs[i]? = some v) (hk : L Γ rest ((d, v) :: l) M K) :
    L Γ ({ dst := some d, op := .extract x i, type := ty, pos, after := af, guard := none } :: rest) l M K :=
  L_pure hn (fun a w ha _ => by simp [execOp, ha.eval hx, Instr.extract, hv]) hk
theorem L_makeFunc {fn : Fn} {fs cs : List Operand} {us vs : List Value} (hn : Nat.blt d Γ.n = true) (hf : evs l fs = some us) (hc : evs l cs = some vs) (hk : L Γ rest ((d, .func fn us.toArray vs.toArray) :: l) M K) :
    L Γ ({ dst := some d, op := .makeFunc fn fs.toArray cs.toArray, type := ty, pos, after := af, guard := none } :: rest) l M K :=
  L_pure hn (fun a w ha _ => by simp [execOp, Instr.makeFunc, ha.evals _ _ hf, ha.evals _ _ hc]) hk
theorem L_max {x y : Operand} {ats : Array TypeId} {k : IntKind} {a b : Int} (hn : Nat.blt d Γ.n = true) (hx : ev l x = some (.int k a)) (hy : ev l y = some (.int k b)) (hk : L Γ rest ((d, .int k (if b > a then b else a)) :: l) M K) :
    L Γ ({ dst := some d, op := .call { callee := .builtin .max, args := #[x, y], argTypes := ats }, type := ty, pos, after := af, guard := none } :: rest) l M K :=
  L_pure hn (fun a' w ha _ => by simp [execOp, resolve, invoke, builtin, ha.eval hx, ha.eval hy, run_max_int2]) hk
theorem L_min {x y : Operand} {ats : Array TypeId} {k : IntKind} {a b : Int} (hn : Nat.blt d Γ.n = true) (hx : ev l x = some (.int k a)) (hy : ev l y = some (.int k b)) (hk : L Γ rest ((d, .int k (if b < a then b else a)) :: l) M K) :
    L Γ ({ dst := some d, op := .call { callee := .builtin .min, args := #[x, y], argTypes := ats }, type := ty, pos, after := af, guard := none } :: rest) l M K :=
  L_pure hn (fun a' w ha _ => by simp [execOp, resolve, invoke, builtin, ha.eval hx, ha.eval hy, run_min_int2]) hk

/-! A function value -/
theorem L_callV {o : Oper} {t d' f : Nat} {xs : List Operand} {ats : Array TypeId} {vs cs : List Value} {M1 M2 : List HP} {R : Value → List HP → Prop}
    (ho : o.op = .call { callee := .value (.tmp t), args := xs.toArray, argTypes := ats }) (hg : o.guard = none) (hd : o.dst = some d') (hn : d' < Γ.n) (ht : l.lookup t = some (.func (.func f) #[] cs.toArray))
    (hf : IsFn Γ.P f) (hx : evs l xs = some vs) (hp : List.Perm M (M1 ++ M2))
    (hc : ∀ w, Holds Γ.w0 Γ.S0 (M1 ++ M2) w → Spec Γ.P f (vs ++ cs).toArray w M1 R)
    (hk : ∀ v M', R v M' → L Γ rest ((d', v) :: l) (M' ++ M2) K) : L Γ (o :: rest) l M K := fun ops a w Q ha hw hq =>
  wpList_plain hg fun K' hK' => by
    have hw' := hw.perm hp
    have ht' : a.eval (.tmp t) = .func (.func f) #[] cs.toArray := ha.eval (x := .tmp t) ht
    have he : (execOp a.eval o).run Γ.P w = .ok (.enter f (vs ++ cs).toArray) w := by
      unfold execOp; rw [ho]
      simp [resolve, Deferred.ofValue, ht', invoke, ha.evals xs vs hx, hf.run]
    unfold Oper.wp
    rw [he, Oper.upon_enter]
    refine (hc w hw' hw'.split).mono fun e w'' ⟨v, M', h1, h2, h3⟩ => ?_
    subst h1
    simp only [hd]
    exact hK' _ _ (hk v M' h2 ops _ w'' Q (ha.put hn) (hw'.frame h3) hq)
theorem L_callVX {t f : Nat} {xs : List Operand} {ats : Array TypeId} {vs cs : List Value} {x : Value} (hn : Nat.blt d Γ.n = true) (ht : l.lookup t = some (.func (.func f) #[] cs.toArray))
    (hf : IsFn Γ.P f) (hx : evs l xs = some vs) (hc : ∀ w, Holds Γ.w0 Γ.S0 M w → Spec Γ.P f (vs ++ cs).toArray w [] (IsV x))
    (hk : L Γ rest ((d, x) :: l) M K) : L Γ ({ dst := some d, op := .call { callee := .value (.tmp t), args := xs.toArray, argTypes := ats }, type := ty, pos := pos, after := af, guard := none } :: rest) l M K :=
  L_callV (M1 := []) (M2 := M) (R := IsV x) rfl rfl rfl (Nat.le_of_ble_eq_true hn) ht hf hx (by simp) (fun w hw => hc w hw) (fun v M' ⟨h1, h2⟩ => by subst h1; subst h2; exact hk)

/-! Values built of parts -/
def fillL (place : Nat → Option (Nat × Nat)) (cells : List Value) : List (Nat × Value) → Option (List Value)
  | [] => some cells
  | (i, v) :: rest =>
    match place i with
    | none => none
    | some (off, size) =>
      match Nat.beq v.cells.toList.length size && Nat.ble (off + v.cells.toList.length) cells.length with
      | true => fillL place (cells.take off ++ v.cells.toList ++ cells.drop (off + v.cells.toList.length)) rest
      | false => none

theorem setSeg (off : Nat) : ∀ (vs : List Value) (k : Nat) (cs : Array Value), off + k + vs.length ≤ cs.size →
    ((vs.zipIdx k).foldl (fun cs (p : Value × Nat) => cs.setIfInBounds (off + p.2) p.1) cs).toList = cs.toList.take (off + k) ++ vs ++ cs.toList.drop (off + k + vs.length)
  | [], k, cs, h => by simp
  | v :: vs, k, cs, h => by
    rw [List.zipIdx_cons, List.foldl_cons]
    rw [setSeg off vs (k + 1) _ (by simp at h ⊢; omega)]
    have hlt : off + k < cs.toList.length := by simp at h ⊢; omega
    have e1 : (cs.setIfInBounds (off + k) v).toList = cs.toList.set (off + k) v := by simp
    simp only [] at e1 ⊢
    rw [e1, List.set_eq_take_append_cons_drop, if_pos hlt]
    have l1 : (cs.toList.take (off + k)).length = off + k := by rw [List.length_take]; omega
    have t1 : (cs.toList.take (off + k) ++ v :: cs.toList.drop (off + k + 1)).take (off + (k + 1)) = cs.toList.take (off + k) ++ [v] := by
      rw [List.take_append, List.take_of_length_le (by omega), l1, show off + (k + 1) - (off + k) = 1 by omega]; rfl
    have t2 : (cs.toList.take (off + k) ++ v :: cs.toList.drop (off + k + 1)).drop (off + (k + 1) + vs.length) = cs.toList.drop (off + k + (v :: vs).length) := by
      rw [List.drop_append, List.drop_of_length_le (by omega), List.nil_append, l1, show off + (k + 1) + vs.length - (off + k) = vs.length + 1 by omega, List.drop_succ_cons, List.drop_drop, List.length_cons]
      congr 1; omega
    rw [t1, t2]; simp

theorem fill_eq (place : Nat → Option (Nat × Nat)) : ∀ (parts : List (Nat × Value)) (cells : Array Value) (cs : List Value), fillL place cells.toList parts = some cs → Instr.fill place cells parts = some cs.toArray
  | [], cells, cs, h => by
    simp only [fillL, Option.some.injEq] at h
    subst h; simp [Instr.fill]
  | (i, v) :: rest, cells, cs, h => by
    unfold fillL at h
    unfold Instr.fill
    cases hp : place i with
    | none => rw [hp] at h; cases h
    | some os =>
      obtain ⟨off, size⟩ := os
      rw [hp] at h
      simp only [] at h ⊢
      cases hb : (Nat.beq v.cells.toList.length size && Nat.ble (off + v.cells.toList.length) cells.toList.length) with
      | false => rw [hb] at h; cases h
      | true =>
        rw [hb] at h
        simp only [Bool.and_eq_true] at hb
        have h1 : v.cells.size = size := by have := Nat.eq_of_beq_eq_true hb.1; simpa using this
        have h2 : off + v.cells.size ≤ cells.size := by have := Nat.le_of_ble_eq_true hb.2; simpa using this
        rw [if_neg (by simp [h1]; omega)]
        refine fill_eq place rest _ cs ?_
        rw [← h]
        congr 1
        have e : (v.cells.zipIdx.foldl (fun cs (p : Value × Nat) => cs.setIfInBounds (off + p.2) p.1) cells) = (v.cells.toList.zipIdx.foldl (fun cs (p : Value × Nat) => cs.setIfInBounds (off + p.2) p.1) cells) := by
          rw [← Array.foldl_toList]; simp
        have := setSeg off v.cells.toList 0 cells (by simpa using h2)
        simp only [Nat.add_zero] at this
        rw [← this, ← e]

/-- How a struct is built: the places of its fields, its zero cells. -/
def bldOf (P : Program) (T : TypeId) : Option (List (Nat × Nat) × List Value) :=
  match P.underlying T, zeroOf P T with
  | some (.struct fs), some z => match fs.toList.mapM fun f => (P.info? f.type).map fun i => (f.offset, i.size) with
    | some pl => some (pl, z)
    | none => none
  | _, _ => none

theorem run_places {P : Program} {fs : List Field} : ∀ {pl : List (Nat × Nat)}, fs.mapM (fun f => (P.info? f.type).map fun i => (f.offset, i.size)) = some pl → (fs.mapM (fun f => Prod.mk f.offset <$> sizeOf f.type : Field → Sem (Nat × Nat))).run P w = .ok pl w := by
  induction fs with
  | nil => intro pl h; simp at h; subst h; simp
  | cons f fs ih =>
    intro pl h
    rw [List.mapM_cons] at h
    cases hf : P.info? f.type with
    | none => rw [hf] at h; simp at h
    | some i =>
      rw [hf] at h
      cases hfs : fs.mapM (fun f => (P.info? f.type).map fun i => (f.offset, i.size)) with
      | none => rw [hfs] at h; simp at h
      | some pl' =>
        rw [hfs] at h
        simp at h; subst h
        have := ih hfs
        simp [List.mapM_cons, sizeOf, typeInfo, hf] at this ⊢
        simp [this]

def evp (l : Envl) : List (Nat × Operand) → Option (List (Nat × Value))
  | [] => some []
  | (i, x) :: xs => match ev l x, evp l xs with
    | some v, some vs => some ((i, v) :: vs)
    | _, _ => none
theorem Env.evalp {a : Act} {n : Nat} (h : Env a n l) : ∀ (xs : List (Nat × Operand)) (vs : List (Nat × Value)), evp l xs = some vs → xs.map (fun (i, x) => (i, a.eval x)) = vs
  | [], vs, hx => by simp [evp] at hx; simp [hx]
  | (i, x) :: xs, vs, hx => by
    simp only [evp] at hx
    split at hx
    · rename_i v us h1 h2
      cases hx
      simp [h.eval h1, h.evalp xs us h2]
    · cases hx

theorem run_build {P : Program} {T : TypeId} {pl : List (Nat × Nat)} {z cs : List Value} {ps : List (Nat × Value)} (ht : bldOf P T = some (pl, z)) (hf : fillL (pl[·]?) z ps = some cs) :
    (Instr.build T ps.toArray).run P w = .ok (.agg cs.toArray) w := by
  unfold bldOf at ht
  split at ht <;> (try cases ht)
  rename_i fs z' hu hz
  split at ht <;> cases ht
  rename_i hpl
  have hp := run_places (w := w) hpl
  unfold zeroOf at hz
  split at hz <;> (try cases hz)
  rename_i i hi
  split at hz <;> cases hz
  rename_i zz hzz
  have h1 : (fs.mapM (fun f => do pure (f.offset, ← sizeOf f.type) : Field → Sem (Nat × Nat))).run P w = .ok pl.toArray w := by
    have : fs = fs.toList.toArray := by simp
    rw [this, List.mapM_toArray]
    simp only [bind_pure_comp, Sem.run_map]
    rw [hp]; rfl
  have h2 := fill_eq (pl[·]?) ps zz.cells cs (by simpa using hf)
  have h3 : (fun x : Nat => pl.toArray[x]?) = (fun x : Nat => pl[x]?) := by funext x; simp
  simp only [Instr.build, zeroValue, typeInfo, underlying, Sem.run_bind, run_program, Result.andThen_ok, hi, hzz, hu, Sem.run_pure, h1, h3, h2]

theorem L_build {T : TypeId} {xs : List (Nat × Operand)} {ps : List (Nat × Value)} {pl : List (Nat × Nat)} {z cs : List Value} (hn : Nat.blt d Γ.n = true) (hx : evp l xs = some ps) (ht : bldOf Γ.P T = some (pl, z))
    (hf : fillL (pl[·]?) z ps = some cs) (hk : L Γ rest ((d, .agg cs.toArray) :: l) M K) :
    L Γ ({ dst := some d, op := .build T xs.toArray, type := ty, pos, after := af, guard := none } :: rest) l M K :=
  L_pure hn (fun a w ha _ => by
    have h1 : xs.toArray.map (fun (i, x) => (i, a.eval x)) = ps.toArray := by simp [ha.evalp xs ps hx]
    simp only [execOp, h1]
    simp [run_build ht hf]) hk

theorem run_buildSlice {P : Program} {T e sz by_ : Nat} {z cs : List Value} {ps : List (Nat × Value)} {n : Nat} (ht : elOf P T = some (e, sz, by_, z)) (hz : z.length = sz) (hsz : 0 < sz) (hn : n * sz ≤ 65536) (hn0 : 0 < n)
    (hf : fillL (fun i => some (i * sz, sz)) ((List.range (n * sz)).map fun i => z.getD (i % sz) undef) ps = some cs) :
    (Instr.buildSlice T n ps.toArray).run P w = .ok (.slice (some ⟨w.heap.size, 0, none⟩) n n) (w.alloc (.cells cs.toArray e (0, 0))) := by
  unfold elOf at ht
  split at ht <;> (try cases ht)
  rename_i e' het
  split at ht <;> (try cases ht)
  rename_i i' hi'
  split at ht <;> cases ht
  rename_i z' hz'
  have hzs : z'.cells.size = i'.size := by rw [← Array.length_toList]; exact hz
  have hne : ¬ (n * i'.size = 0) := by intro h; rcases Nat.mul_eq_zero.1 h with h | h <;> omega
  have hle : ¬ (2 ^ 24 < n * i'.size) := by
    have : (2 : Nat) ^ 24 = 16777216 := by decide
    omega
  have e0 : ((Array.range (n * i'.size)).map (z'.cells[· % z'.cells.size]!)).toList = (List.range (n * i'.size)).map fun i => z'.cells.toList.getD (i % i'.size) undef := by
    rw [Array.toList_map, Array.toList_range]
    refine List.map_congr_left fun i _ => ?_
    have h2 : i % i'.size < z'.cells.size := by rw [hzs]; exact Nat.mod_lt _ hsz
    rw [hzs, getElem!_pos z'.cells (i % i'.size) h2]
    simp [List.getD_eq_getElem?_getD, h2]
  have h2 := fill_eq (fun i => some (i * i'.size, i'.size)) ps ((Array.range (n * i'.size)).map (z'.cells[· % z'.cells.size]!)) cs (by rw [e0]; exact hf)
  simp only [Instr.buildSlice, underlying, het, sizeOf, typeInfo, hi', Sem.run_bind, run_program, Result.andThen_ok, Sem.run_pure, gt_iff_lt, hle, if_false, hne, zeroValue, hz', newRow, run_newObj]
  simp only [h2, Sem.run_bind, Result.andThen_ok, Sem.run_pure, newRow, run_newObj, Sem.run_map]
  rfl

theorem L_buildSlice {T e sz by_ n : Nat} {z cs : List Value} {xs : List (Nat × Operand)} {ps : List (Nat × Value)} (hn : Nat.blt d Γ.n = true) (hx : evp l xs = some ps) (ht : elOf Γ.P T = some (e, sz, by_, z)) (hz : z.length = sz)
    (hsz : 0 < sz) (hns : n * sz ≤ 65536) (hn0 : 0 < n) (hf : fillL (fun i => some (i * sz, sz)) ((List.range (n * sz)).map fun i => z.getD (i % sz) undef) ps = some cs)
    (hk : ∀ b, L Γ rest ((d, .slice (some ⟨b, 0, none⟩) n n) :: l) (blk b cs e :: M) K) :
    L Γ ({ dst := some d, op := .buildSlice T n xs.toArray, type := ty, pos, after := af, guard := none } :: rest) l M K :=
  L_stepR (fun v M' => ∃ b, v = .slice (some ⟨b, 0, none⟩) n n ∧ M' = blk b cs e :: M) rfl rfl (Nat.le_of_ble_eq_true hn)
    (fun a w ha hw => by
      have h1 : xs.toArray.map (fun (i, x) => (i, a.eval x)) = ps.toArray := by simp [ha.evalp xs ps hx]
      refine ⟨_, _, _, ⟨w.heap.size, rfl, rfl⟩, ?_, hw.new rfl⟩
      simp only [execOp, h1]
      simp [run_buildSlice ht hz hsz hns hn0 hf]) (fun v M' ⟨b, h1, h2⟩ => by subst h1; subst h2; exact hk b)
/-- A slice of one part. -/
theorem L_buildSlice1 {T e sz by_ : Nat} {z : List Value} {x : Operand} {v : Value} (hn : Nat.blt d Γ.n = true) (hx : ev l x = some v) (ht : elOf Γ.P T = some (e, sz, by_, z)) (hz : z.length = sz)
    (hsz : 0 < sz) (hns : sz ≤ 65536) (hv : v.cells.toList.length = sz)
    (hk : ∀ b, L Γ rest ((d, .slice (some ⟨b, 0, none⟩) 1 1) :: l) (blk b v.cells.toList e :: M) K) :
    L Γ ({ dst := some d, op := .buildSlice T 1 #[(0, x)], type := ty, pos, after := af, guard := none } :: rest) l M K :=
  L_buildSlice (xs := [(0, x)]) (ps := [(0, v)]) (cs := v.cells.toList) hn (by simp [evp, hx]) ht hz hsz (by omega) (by omega) (by
    simp only [fillL, Nat.zero_mul, Nat.one_mul, Nat.zero_add, hv, Nat.beq_refl, Bool.true_and, List.length_map, List.length_range, List.take_zero, List.nil_append]
    rw [show Nat.ble sz sz = true from Nat.ble_eq_true_of_le (Nat.le_refl _)]
    simp only []
    rw [List.drop_of_length_le (by simp), List.append_nil]) hk
end Go.Proofs.SL
