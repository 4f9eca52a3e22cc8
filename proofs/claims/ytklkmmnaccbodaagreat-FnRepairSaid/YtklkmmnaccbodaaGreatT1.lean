/- The texts of the proof, part 1: the base, walks of functions, plain Lean. -/
import Derived.WalkKit
import Derived.Orders
import Derived.KernelRfl
import Derived.ProofKit
import Derived.Deep.Slices
import Derived.OpenShut
import Derived.ChangeOld
import Derived.Laws.StructEq
import Derived.Laws.BytesString
namespace Go.Proofs.SL
open Go
abbrev Envl := List (Nat × Value)
/-- What is known of a frame's slots. -/
structure Env (a : Act) (n : Nat) (l : Envl) : Prop where
  size : a.tmps.size = n
  defers : a.defers = []
  get : ∀ t v, l.lookup t = some v → a.tmps[t]? = some v
/-- A part of memory with what is known of it; `fp` lists the blocks that it speaks of. -/
structure HP where
  fp : List Nat
  pr : World → Prop
  st : ∀ w w' : World, (∀ k, k ∈ fp → w'.heap[k]? = w.heap[k]?) → pr w → pr w'
def fps (M : List HP) : List Nat := M.flatMap HP.fp
structure Holds (w0 : World) (S0 : List Nat) (M : List HP) (w : World) : Prop where
  os : w.os = w0.os
  tape : w.tape = w0.tape
  output : w.output = w0.output
  size : w0.heap.size ≤ w.heap.size
  old : ∀ k, k < w0.heap.size → k ∉ S0 → w.heap[k]? = w0.heap[k]?
  prs : ∀ h, h ∈ M → h.pr w
  nodup : (fps M).Nodup
  rng : ∀ k, k ∈ fps M → (k ∈ S0 ∨ w0.heap.size ≤ k) ∧ k < w.heap.size
structure Cx where
  P : Program
  n : Nat
  w0 : World
  S0 : List Nat
abbrev Kont := Envl → List HP → Prop
abbrev Post := Exit → Envl → List HP → Prop
def liftQ (Γ : Cx) (Q : Post) : Exit → Act → World → Prop
  | .outgrown => fun _ _ => False
  | .panic _ => fun _ _ => False
  | e => fun a w => ∃ l M, Env a Γ.n l ∧ Holds Γ.w0 Γ.S0 M w ∧ Q e l M
def W (Γ : Cx) (c : Code) (l : Envl) (M : List HP) (Q : Post) : Prop :=
  ∀ a w, Env a Γ.n l → Holds Γ.w0 Γ.S0 M w → c.wp Γ.P (liftQ Γ Q) a w
@[reducible] def thenQ (K : Kont) (Q : Post) : Post
  | .normal, l, M => K l M
  | e, l, M => Q e l M
@[reducible] def blockQ (id : Nat) (Q : Post) : Post
  | .exit id', l, M => match Nat.beq id' id with
    | true => Q .normal l M
    | false => Q (.exit id') l M
  | e, l, M => Q e l M
def L (Γ : Cx) (rest : List Oper) (l : Envl) (M : List HP) (K : Kont) : Prop :=
  ∀ ops a w (Q : Exit → Act → World → Prop), Env a Γ.n l → Holds Γ.w0 Γ.S0 M w →
    (∀ a' w' l' M', Env a' Γ.n l' → Holds Γ.w0 Γ.S0 M' w' → K l' M' → Q .normal a' w') → wpList Γ.P ops Q rest a w
variable {Γ : Cx} {l : Envl} {M : List HP} {Q : Post} {K : Kont}
theorem W_mono {c : Code} {Q' : Post} (h : W Γ c l M Q) (hq : ∀ e l M, Q e l M → Q' e l M) : W Γ c l M Q' := fun a w ha hw =>
  Code.wp_mono (fun e _ _ q => by
    cases e <;> first | exact q.elim | (obtain ⟨l, M, h1, h2, h3⟩ := q; exact ⟨l, M, h1, h2, hq _ _ _ h3⟩)) (h a w ha hw)
theorem W_seq {x y : Code} (h : W Γ x l M (thenQ (fun l M => W Γ y l M Q) Q)) : W Γ (.seq x y) l M Q := fun a w ha hw =>
  wp_seq (Code.wp_mono (fun e a w q => by
    cases e <;> first
      | exact q.elim
      | (obtain ⟨l, M, h1, h2, h3⟩ := q; exact h3 a w h1 h2)
      | (obtain ⟨l, M, h1, h2, h3⟩ := q; exact ⟨l, M, h1, h2, h3⟩)) (h a w ha hw))
theorem W_skip (h : Q .normal l M) : W Γ .skip l M Q := fun a w ha hw => wp_skip ⟨l, M, ha, hw, h⟩
theorem W_ret (h : Q .ret l M) : W Γ .ret l M Q := fun a w ha hw => wp_ret ⟨l, M, ha, hw, h⟩
theorem W_exit {id : Nat} (h : Q (.exit id) l M) : W Γ (.exit id) l M Q := fun a w ha hw => wp_exit ⟨l, M, ha, hw, h⟩
theorem W_block {id : Nat} {c : Code} (h : W Γ c l M (blockQ id Q)) : W Γ (.block id c) l M Q := fun a w ha hw =>
  wp_block (Code.wp_mono (fun e _ _ q => by
    cases e with
    | exit id' =>
      obtain ⟨l, M, h1, h2, h3⟩ := q
      simp only [blockQ] at h3
      simp only [Exit.inBlock]
      split
      · rename_i hid; subst hid; rw [Nat.beq_refl] at h3; exact ⟨l, M, h1, h2, h3⟩
      · rename_i hid; rw [show Nat.beq id' id = false by cases hb : Nat.beq id' id; rfl; exact (hid (Nat.eq_of_beq_eq_true hb)).elim] at h3; exact ⟨l, M, h1, h2, h3⟩
    | panic ch => exact q.elim
    | outgrown => exact q.elim
    | normal => exact q
    | goto l => exact q
    | ret => exact q) (h a w ha hw))
/-- What an operand holds. -/
def ev (l : Envl) : Operand → Option Value
  | .tmp t => l.lookup t
  | .const v => some v
  | .func f => some (.func (.func f) #[] #[])
  | .global g => some (.pointer (some ⟨g, 0, none⟩))
theorem Env.eval {a : Act} {n : Nat} {x : Operand} {v : Value} (h : Env a n l) (hx : ev l x = some v) : a.eval x = v := by
  cases x with
  | tmp t =>
    have := h.get t v hx
    simp only [Act.eval, Array.getD_eq_getD_getElem?, this, Option.getD_some]
  | const u => simpa [ev, Act.eval] using hx
  | func f => simpa [ev, Act.eval] using hx
  | global g => simpa [ev, Act.eval] using hx
theorem W_cond {t : Operand} {b : Bool} {x y : Code} (ht : ev l t = some (.bool b)) (h1 : b = true → W Γ x l M Q) (h2 : b = false → W Γ y l M Q) :
    W Γ (.cond t x y) l M Q := fun a w ha hw =>
  wp_cond_split (ha.eval ht) (fun h => h1 h a w ha hw) (fun h => h2 h a w ha hw)
/-- Fewer slots, fewer parts. -/
def Sub (l' l : Envl) : Prop := ∀ t v, l'.lookup t = some v → l.lookup t = some v
theorem Sub.refl (l : Envl) : Sub l l := fun _ _ h => h
theorem Sub.nil (l : Envl) : Sub [] l := fun _ _ h => by simp at h
theorem Sub.cons {l' : Envl} {t : Nat} {v : Value} (h : l.lookup t = some v) (hs : Sub l' l) : Sub ((t, v) :: l') l := by
  intro t' v' h'
  simp only [List.lookup_cons] at h'
  split at h'
  · rename_i he; simp only [beq_iff_eq] at he; subst he; cases h'; exact h
  · exact hs _ _ h'
theorem Env.sub {a : Act} {n : Nat} {l' : Envl} (h : Env a n l) (hs : Sub l' l) : Env a n l' := ⟨h.size, h.defers, fun t v ht => h.get t v (hs t v ht)⟩
/-- `MSub M' M`: M' is M with some parts dropped and the order turned. -/
def MSub (M' M : List HP) : Prop := ∃ r, List.Perm M (M' ++ r)
theorem MSub.refl (M : List HP) : MSub M M := ⟨[], by simp⟩
theorem MSub.nil (M : List HP) : MSub [] M := ⟨M, by simp⟩
theorem fps_perm {M M' : List HP} (h : List.Perm M M') : List.Perm (fps M) (fps M') := by
  unfold fps; exact h.flatMap_right _
theorem fps_append (M M' : List HP) : fps (M ++ M') = fps M ++ fps M' := by simp [fps]
theorem fps_cons (h : HP) (M : List HP) : fps (h :: M) = h.fp ++ fps M := by simp [fps]
@[simp] theorem fps_nil : fps [] = [] := rfl
variable {w0 w : World} {S0 : List Nat}
theorem Holds.perm {M' : List HP} (h : Holds w0 S0 M w) (hp : List.Perm M M') : Holds w0 S0 M' w :=
  ⟨h.os, h.tape, h.output, h.size, h.old, fun x hx => h.prs x (hp.mem_iff.2 hx), (fps_perm hp).nodup_iff.1 h.nodup, fun k hk => h.rng k ((fps_perm hp).mem_iff.2 hk)⟩
theorem Holds.left {M1 M2 : List HP} (h : Holds w0 S0 (M1 ++ M2) w) : Holds w0 S0 M1 w :=
  ⟨h.os, h.tape, h.output, h.size, h.old, fun x hx => h.prs x (List.mem_append_left _ hx),
    by have := h.nodup; rw [fps_append] at this; exact (List.nodup_append.1 this).1, fun k hk => h.rng k (by rw [fps_append]; exact List.mem_append_left _ hk)⟩
theorem Holds.sub {M' : List HP} (h : Holds w0 S0 M w) (hs : MSub M' M) : Holds w0 S0 M' w := by
  obtain ⟨r, hr⟩ := hs; exact (h.perm hr).left
theorem W_weaken {c : Code} {l' : Envl} {M' : List HP} (hs : Sub l' l) (hm : MSub M' M) (h : W Γ c l' M' Q) : W Γ c l M Q :=
  fun a w ha hw => h a w (ha.sub hs) (hw.sub hm)
theorem W_loop {σ : Type} {c : Code} (E : σ → Envl) (Mf : σ → List HP) (I : σ → Prop) (μ : σ → Nat) (s0 : σ) (h0 : I s0) (hl : Sub (E s0) l) (hm : MSub (Mf s0) M)
    (round : ∀ s, I s → W Γ c (E s) (Mf s) (thenQ (fun l' M' => ∃ s', Sub (E s') l' ∧ MSub (Mf s') M' ∧ I s' ∧ μ s' < μ s) Q)) : W Γ (.loop c) l M Q := by
  intro a0 w0 ha0 hw0 b k cs
  have key : ∀ n s a w, μ s = n → I s → Env a Γ.n (E s) → Holds Γ.w0 Γ.S0 (Mf s) w →
      ∃ e a' w', liftQ Γ Q e a' w' ∧ Arrives Γ.P (lone (b.at a (.code c :: .inLoop c :: k)) cs w) b k cs e a' w' := by
    intro n
    induction n using Nat.strongRecOn with
    | _ n ih =>
      intro s a w hn hI ha hw
      obtain ⟨e, a₁, w₁, hq, harr⟩ := round s hI a w ha hw b (.inLoop c :: k) cs
      cases e with
      | normal =>
        obtain ⟨l', M', h1, h2, s', h3, h4, h5, h6⟩ := hq
        obtain ⟨e₂, a₂, w₂, hq₂, harr₂⟩ := ih (μ s') (hn ▸ h6) s' a₁ w₁ rfl h5 (h1.sub h3) (h2.sub h4)
        exact ⟨e₂, a₂, w₂, hq₂, .of_steps (Steps.trans harr (.one step_inLoop)) harr₂⟩
      | exit id => exact ⟨.exit id, a₁, w₁, hq, .pass (x := .inLoop c) rfl (fun _ _ => .inl (by simp)) harr⟩
      | goto l => exact ⟨.goto l, a₁, w₁, hq, .pass (x := .inLoop c) rfl (fun _ _ => .inl (by simp)) harr⟩
      | ret => exact ⟨.ret, a₁, w₁, hq, .pass (x := .inLoop c) rfl (fun _ _ => .inl (by simp)) harr⟩
      | panic ch => exact hq.elim
      | outgrown => exact hq.elim
  obtain ⟨e, a', w', hq, harr⟩ := key _ s0 a0 w0 rfl h0 (ha0.sub hl) (hw0.sub hm)
  exact ⟨e, a', w', hq, .of_steps (.one step_loop) harr⟩
theorem Env.put {a : Act} {n d : Nat} {v : Value} (h : Env a n l) (hd : d < n) : Env (a.put (some d) v) n ((d, v) :: l) := by
  refine ⟨by simp [Act.put, h.size], by simp [Act.put, h.defers], fun t u ht => ?_⟩
  simp only [List.lookup_cons] at ht
  simp only [Act.put]
  by_cases e : t = d
  · subst e
    simp at ht; subst ht
    rw [Array.getElem?_setIfInBounds_self_of_lt (by rw [h.size]; exact hd)]
  · rw [Array.getElem?_setIfInBounds_ne (by omega)]
    rw [show (t == d) = false by simpa using e] at ht
    exact h.get t u ht
theorem W_region {id : Nat} {ops : List Oper} (h : L Γ ops l M (fun l M => Q .normal l M)) : W Γ (.region id ops.toArray false) l M Q :=
  fun a w ha hw => wp_region_lit (h _ a w _ ha hw fun a' w' l' M' h1 h2 h3 => ⟨l', M', h1, h2, h3⟩)
theorem L_nil (h : K l M) : L Γ [] l M K := fun ops a w Q ha hw hk => wpList_nil (hk a w l M ha hw h)
/-- One operation that yields a value and may turn memory. -/
theorem L_step {o : Oper} {rest : List Oper} {M' : List HP} {v : Value} {d : Nat} (hg : o.guard = none) (hd : o.dst = some d) (hn : d < Γ.n)
    (he : ∀ a w, Env a Γ.n l → Holds Γ.w0 Γ.S0 M w → ∃ w', (execOp a.eval o).run Γ.P w = .ok (.value v) w' ∧ Holds Γ.w0 Γ.S0 M' w')
    (hk : L Γ rest ((d, v) :: l) M' K) : L Γ (o :: rest) l M K := fun ops a w Q ha hw hq =>
  wpList_plain hg fun K' hK' => by
    obtain ⟨w', h1, h2⟩ := he a w ha hw
    unfold Oper.wp
    rw [h1, Oper.upon_value, hd]
    exact hK' _ _ (hk ops _ w' Q (ha.put hn) h2 hq)
/-- The same where what comes out is not known beforehand. -/
theorem L_stepR {o : Oper} {rest : List Oper} {d : Nat} (R : Value → List HP → Prop) (hg : o.guard = none) (hd : o.dst = some d) (hn : d < Γ.n)
    (he : ∀ a w, Env a Γ.n l → Holds Γ.w0 Γ.S0 M w → ∃ v M' w', R v M' ∧ (execOp a.eval o).run Γ.P w = .ok (.value v) w' ∧ Holds Γ.w0 Γ.S0 M' w')
    (hk : ∀ v M', R v M' → L Γ rest ((d, v) :: l) M' K) : L Γ (o :: rest) l M K := fun ops a w Q ha hw hq =>
  wpList_plain hg fun K' hK' => by
    obtain ⟨v, M', w', hr, h1, h2⟩ := he a w ha hw
    unfold Oper.wp
    rw [h1, Oper.upon_value, hd]
    exact hK' _ _ (hk v M' hr ops _ w' Q (ha.put hn) h2 hq)
/-- One operation that yields nothing (a store). -/
theorem L_skip {o : Oper} {rest : List Oper} {M' : List HP} (hg : o.guard = none) (hd : o.dst = none)
    (he : ∀ a w, Env a Γ.n l → Holds Γ.w0 Γ.S0 M w → ∃ w', (execOp a.eval o).run Γ.P w = .ok .skip w' ∧ Holds Γ.w0 Γ.S0 M' w')
    (hk : L Γ rest l M' K) : L Γ (o :: rest) l M K := fun ops a w Q ha hw hq =>
  wpList_plain hg fun K' hK' => by
    obtain ⟨w', h1, h2⟩ := he a w ha hw
    unfold Oper.wp
    rw [h1, Oper.upon_skip, hd]
    exact hK' _ _ (hk ops _ w' Q (by simpa [Act.put] using ha) h2 hq)
/-- A function's contract: it is called where the parts `M` hold (of which it may turn what it likes), and hands back a value and parts. -/
def Spec (P : Program) (f : FuncId) (args : Array Value) (w : World) (M : List HP) (R : Value → List HP → Prop) : Prop :=
  Holds w (fps M) M w → Calls P f args w fun e w' => ∃ v M', e = .returned v ∧ R v M' ∧ Holds w (fps M) M' w'
theorem Spec.mono {P : Program} {f : FuncId} {args : Array Value} {R R' : Value → List HP → Prop} (h : Spec P f args w M R) (hr : ∀ v M', R v M' → R' v M') :
    Spec P f args w M R' := fun hh => (h hh).mono fun _ _ ⟨v, M', h1, h2, h3⟩ => ⟨v, M', h1, hr _ _ h2, h3⟩
theorem Holds.split {M1 M2 : List HP} (h : Holds w0 S0 (M1 ++ M2) w) : Holds w (fps M1) M1 w :=
  ⟨rfl, rfl, rfl, Nat.le_refl _, fun _ _ _ => rfl, h.left.prs, h.left.nodup, fun k hk => ⟨.inl hk, (h.left.rng k hk).2⟩⟩
/-- What a call leaves, with all that it was not given. -/
theorem Holds.frame {M1 M2 M' : List HP} {w' : World} (h : Holds w0 S0 (M1 ++ M2) w) (h' : Holds w (fps M1) M' w') : Holds w0 S0 (M' ++ M2) w' := by
  have hnd := h.nodup
  rw [fps_append] at hnd
  obtain ⟨hn1, hn2, hdis⟩ := List.nodup_append.1 hnd
  have hr1 : ∀ k, k ∈ fps M1 → (k ∈ S0 ∨ w0.heap.size ≤ k) ∧ k < w.heap.size := fun k hk => h.rng k (by rw [fps_append]; exact List.mem_append_left _ hk)
  have hr2 : ∀ k, k ∈ fps M2 → (k ∈ S0 ∨ w0.heap.size ≤ k) ∧ k < w.heap.size := fun k hk => h.rng k (by rw [fps_append]; exact List.mem_append_right _ hk)
  have hno : ∀ k, k ∈ fps M2 → k ∉ fps M1 := fun k h2 h1 => hdis k h1 k h2 rfl
  refine ⟨h'.os.trans h.os, h'.tape.trans h.tape, h'.output.trans h.output, Nat.le_trans h.size h'.size, fun k hk hs => ?_, fun x hx => ?_, ?_, fun k hk => ?_⟩
  · rw [h'.old k (Nat.lt_of_lt_of_le hk h.size) (fun hm => by
      rcases (hr1 k hm).1 with h3 | h3
      · exact hs h3
      · omega)]
    exact h.old k hk hs
  · rcases List.mem_append.1 hx with hx | hx
    · exact h'.prs x hx
    · refine x.st w w' (fun k hk => ?_) (h.prs x (List.mem_append_right _ hx))
      have hm : k ∈ fps M2 := List.mem_flatMap.2 ⟨x, hx, hk⟩
      exact h'.old k (hr2 k hm).2 (hno k hm)
  · rw [fps_append]
    refine List.nodup_append.2 ⟨h'.nodup, hn2, fun a ha b hb e => ?_⟩
    subst e
    rcases (h'.rng a ha).1 with h3 | h3
    · exact hno a hb h3
    · have := (hr2 a hb).2; omega
  · rw [fps_append] at hk
    rcases List.mem_append.1 hk with hk | hk
    · obtain ⟨h3, h4⟩ := h'.rng k hk
      refine ⟨?_, h4⟩
      rcases h3 with h3 | h3
      · exact (hr1 k h3).1
      · exact .inr (Nat.le_trans h.size h3)
    · exact ⟨(hr2 k hk).1, Nat.lt_of_lt_of_le (hr2 k hk).2 h'.size⟩
structure IsFn (P : Program) (f : FuncId) : Prop where
  out : ∃ fn : Func, P.funcs[f]? = some fn ∧ (fn.name == "runtime.NumGoroutine") = false ∧ fn.body.isNone = false
theorem IsFn.run {P : Program} {f : FuncId} (h : IsFn P f) (args : Array Value) (w : World) : (callFunc f args).run P w = .ok (.enter f args) w := by
  obtain ⟨fn, h1, h2, h3⟩ := h.out
  simp only [callFunc, Sem.run_bind, run_program, Result.andThen_ok, h1, h2, h3, Bool.false_eq_true, if_false, Sem.run_pure]
def evs (l : Envl) : List Operand → Option (List Value)
  | [] => some []
  | x :: xs => match ev l x, evs l xs with
    | some v, some vs => some (v :: vs)
    | _, _ => none
theorem Env.evals {a : Act} {n : Nat} (h : Env a n l) : ∀ (xs : List Operand) (vs : List Value), evs l xs = some vs → xs.map a.eval = vs
  | [], vs, hx => by simp [evs] at hx; simp [hx]
  | x :: xs, vs, hx => by
    simp only [evs] at hx
    split at hx
    · rename_i v us h1 h2
      cases hx
      simp [h.eval h1, h.evals xs us h2]
    · cases hx
/-- A call of a named function, by its contract. -/
theorem L_call {o : Oper} {rest : List Oper} {d f : Nat} {xs : List Operand} {ats : Array TypeId} {vs : List Value} {M1 M2 : List HP} {R : Value → List HP → Prop}
    (ho : o.op = .call { callee := .value (.func f), args := xs.toArray, argTypes := ats }) (hg : o.guard = none) (hd : o.dst = some d) (hn : d < Γ.n)
    (hf : IsFn Γ.P f) (hx : evs l xs = some vs) (hp : List.Perm M (M1 ++ M2))
    (hc : ∀ w, Holds Γ.w0 Γ.S0 (M1 ++ M2) w → Spec Γ.P f vs.toArray w M1 R)
    (hk : ∀ v M', R v M' → L Γ rest ((d, v) :: l) (M' ++ M2) K) : L Γ (o :: rest) l M K := fun ops a w Q ha hw hq =>
  wpList_plain hg fun K' hK' => by
    have hw' := hw.perm hp
    have he : (execOp a.eval o).run Γ.P w = .ok (.enter f vs.toArray) w := by
      have h1 : execOp a.eval o = callFunc f (#[] ++ xs.toArray.map a.eval ++ #[]) := by unfold execOp; rw [ho]; rfl
      have h2 : (#[] ++ xs.toArray.map a.eval ++ #[] : Array Value) = vs.toArray := by simp [ha.evals xs vs hx]
      rw [h1, h2, hf.run]
    unfold Oper.wp
    rw [he, Oper.upon_enter]
    refine (hc w hw' hw'.split).mono fun e w'' ⟨v, M', h1, h2, h3⟩ => ?_
    subst h1
    simp only [hd]
    exact hK' _ _ (hk v M' h2 ops _ w'' Q (ha.put hn) (hw'.frame h3) hq)
end Go.Proofs.SL
namespace Go.Proofs.SL
open Go
/-! Old memory -/
def Old (w0 : World) (S0 : List Nat) (a : Addr) (v : Value) : Prop := w0.cell? a = some v ∧ a.block ∉ S0
variable {Γ : Cx} {l : Envl} {M : List HP} {Q : Post} {K : Kont} {w0 w : World} {S0 : List Nat}
/-- What suffices for reading. -/
structure Sees (w0 : World) (S0 : List Nat) (M : List HP) (w : World) : Prop where
  old : ∀ k, k < w0.heap.size → k ∉ S0 → w.heap[k]? = w0.heap[k]?
  prs : ∀ h, h ∈ M → h.pr w
theorem Holds.sees (h : Holds w0 S0 M w) : Sees w0 S0 M w := ⟨h.old, h.prs⟩
theorem Holds.seesSub {M' : List HP} (h : Holds w0 S0 M w) (hs : ∀ x, x ∈ M' → x ∈ M) : Sees w0 S0 M' w := ⟨h.old, fun x hx => h.prs x (hs x hx)⟩
theorem Old.now {a : Addr} {v : Value} (h : Old w0 S0 a v) (hw : Sees w0 S0 M w) : w.cell? a = some v := by
  have hb := World.block_lt_of_cell? w0 a h.1
  rw [World.cell?_of_block (w := w0) (hw.old a.block hb h.2)]
  exact h.1
theorem Old.carry {a : Addr} {v : Value} {M1 M2 : List HP} (h : Old w0 S0 a v) (hw : Holds w0 S0 (M1 ++ M2) w) : Old w (fps M1) a v := by
  have hb := World.block_lt_of_cell? w0 a h.1
  refine ⟨h.now hw.sees, fun hm => ?_⟩
  rcases (hw.rng a.block (by rw [fps_append]; exact List.mem_append_left _ hm)).1 with h1 | h1
  · exact h.2 h1
  · omega
def inR (n : Int) : Prop := -9223372036854775808 ≤ n ∧ n ≤ 9223372036854775807
/-- Data that lies in memory, as a tree that bears its addresses. -/
class GT (τ : Type) (δ : outParam Type) where
  sz : Nat
  pos : 0 < sz
  cells : τ → List Value
  len : ∀ t, (cells t).length = sz
  one : ∀ t, ∀ v, v ∈ cells t → v.oneCell' = true
  rd : World → List Nat → τ → Prop
  fp : τ → List Nat
  ow : World → τ → Prop
  dat : τ → δ
  rd_mono : ∀ {w0 w S0 S t}, rd w0 S0 t → (∀ a v, Old w0 S0 a v → Old w S a v) → rd w S t
  ow_st : ∀ {w w' t}, (∀ k, k ∈ fp t → w'.heap[k]? = w.heap[k]?) → ow w t → ow w' t
  ow_rd : ∀ {w S t}, ow w t → (∀ k, k ∈ fp t → k ∉ S) → rd w S t
instance : GT Int Int where
  sz := 1
  pos := by decide
  cells n := [.int .i64 n]
  len _ := rfl
  one _ v hv := by simp at hv; subst hv; rfl
  rd _ _ _ := True
  fp _ := []
  ow _ _ := True
  dat n := n
  rd_mono h _ := h
  ow_st _ h := h
  ow_rd h _ := h
instance : GT Bool Bool where
  sz := 1
  pos := by decide
  cells b := [.bool b]
  len _ := rfl
  one _ v hv := by simp at hv; subst hv; rfl
  rd _ _ _ := True
  fp _ := []
  ow _ _ := True
  dat b := b
  rd_mono h _ := h
  ow_st _ h := h
  ow_rd h _ := h
instance : GT UInt8 UInt8 where
  sz := 1
  pos := by decide
  cells b := [.int .u8 b.toNat]
  len _ := rfl
  one _ v hv := by simp at hv; subst hv; rfl
  rd _ _ _ := True
  fp _ := []
  ow _ _ := True
  dat b := b
  rd_mono h _ := h
  ow_st _ h := h
  ow_rd h _ := h
instance : GT ByteArray ByteArray where
  sz := 1
  pos := by decide
  cells s := [.string s]
  len _ := rfl
  one _ v hv := by simp at hv; subst hv; rfl
  rd _ _ _ := True
  fp _ := []
  ow _ _ := True
  dat s := s
  rd_mono h _ := h
  ow_st _ h := h
  ow_rd h _ := h
instance {α β δ ε : Type} [GT α δ] [GT β ε] : GT (α × β) (δ × ε) where
  sz := GT.sz α + GT.sz β
  pos := by have := GT.pos (τ := α); omega
  cells t := GT.cells t.1 ++ GT.cells t.2
  len t := by simp [GT.len]
  one t v hv := by
    rcases List.mem_append.1 hv with h | h
    · exact GT.one _ v h
    · exact GT.one _ v h
  rd w S t := GT.rd w S t.1 ∧ GT.rd w S t.2
  fp t := GT.fp t.1 ++ GT.fp t.2
  ow w t := GT.ow w t.1 ∧ GT.ow w t.2
  dat t := (GT.dat t.1, GT.dat t.2)
  rd_mono h hm := ⟨GT.rd_mono h.1 hm, GT.rd_mono h.2 hm⟩
  ow_st hh h := ⟨GT.ow_st (fun k hk => hh k (List.mem_append_left _ hk)) h.1, GT.ow_st (fun k hk => hh k (List.mem_append_right _ hk)) h.2⟩
  ow_rd h hn := ⟨GT.ow_rd h.1 fun k hk => hn k (List.mem_append_left _ hk), GT.ow_rd h.2 fun k hk => hn k (List.mem_append_right _ hk)⟩
/-- A slice: where it begins, its capacity, its elements; behind them what stands up to the capacity (where that is known). -/
structure TL (τ : Type) where
  a : Option Addr
  cap : Nat
  e : TypeId
  els : List τ
  tail : List Value
def TL.hdr {τ : Type} (L : TL τ) : Value := .slice L.a L.els.length L.cap
section
variable {τ δ : Type} [GT τ δ]
def rowCells (xs : List τ) : List Value := xs.flatMap GT.cells
theorem rowCells_cons (x : τ) (xs : List τ) : rowCells (x :: xs) = GT.cells x ++ rowCells xs := by simp [rowCells]
theorem rowCells_append (xs ys : List τ) : rowCells (xs ++ ys) = rowCells xs ++ rowCells ys := by simp [rowCells]
@[simp] theorem length_rowCells (xs : List τ) : (rowCells xs).length = xs.length * GT.sz τ := by
  induction xs with
  | nil => simp [rowCells]
  | cons x xs ih => rw [rowCells_cons, List.length_append, ih, GT.len, List.length_cons, Nat.add_mul]; omega
theorem rowCells_get (xs : List τ) (i j : Nat) (x : τ) (h : xs[i]? = some x) (hj : j < GT.sz τ) : (rowCells xs)[i * GT.sz τ + j]? = (GT.cells x)[j]? := by
  induction xs generalizing i with
  | nil => simp at h
  | cons y ys ih =>
    rw [rowCells_cons]
    cases i with
    | zero =>
      simp at h; subst h
      rw [Nat.zero_mul, Nat.zero_add, List.getElem?_append_left (by rw [GT.len]; exact hj)]
    | succ i =>
      rw [List.getElem?_append_right (by rw [GT.len, Nat.add_mul]; omega), GT.len, show (i + 1) * GT.sz τ + j - GT.sz τ = i * GT.sz τ + j by rw [Nat.add_mul]; omega]
      exact ih i (by simpa using h)
theorem rowCells_one (xs : List τ) (v : Value) (h : v ∈ rowCells xs) : v.oneCell' = true := by
  obtain ⟨x, _, hx⟩ := List.mem_flatMap.1 h
  exact GT.one x v hx
instance : GT (TL τ) (List δ) where
  sz := 1
  pos := by decide
  cells L := [L.hdr]
  len _ := rfl
  one L v hv := by simp at hv; subst hv; rfl
  rd w S L := L.els.length ≤ L.cap ∧ L.cap ≤ maxLen ∧ (∀ x, x ∈ L.els → GT.rd w S x) ∧ (L.a = none → L.els = []) ∧
    ∀ a, L.a = some a → (L.els ≠ [] → a.spot = none) ∧ ∀ j v, (rowCells L.els)[j]? = some v → Old w S ⟨a.block, a.off + j, none⟩ v
  fp L := (match L.a with | none => [] | some a => [a.block]) ++ L.els.flatMap GT.fp
  ow w L := L.els.length ≤ L.cap ∧ L.cap ≤ maxLen ∧ (∀ x, x ∈ L.els → GT.ow w x) ∧ (L.a = none → L.els = [] ∧ L.cap = 0) ∧
    ∀ a, L.a = some a → a.spot = none ∧ a.off = 0 ∧ w.heap[a.block]? = some (.cells (rowCells L.els ++ L.tail).toArray L.e (0, 0)) ∧ L.els.length * GT.sz τ + L.tail.length = L.cap * GT.sz τ
  dat L := L.els.map GT.dat
  rd_mono h hm := ⟨h.1, h.2.1, fun x hx => GT.rd_mono (h.2.2.1 x hx) hm, h.2.2.2.1, fun a ha => ⟨(h.2.2.2.2 a ha).1, fun j v hv => hm _ _ ((h.2.2.2.2 a ha).2 j v hv)⟩⟩
  ow_st hh h := ⟨h.1, h.2.1, fun x hx => GT.ow_st (fun k hk => hh k (List.mem_append_right _ (List.mem_flatMap.2 ⟨x, hx, hk⟩))) (h.2.2.1 x hx), h.2.2.2.1, fun a ha => by
    obtain ⟨h1, h2, h3, h4⟩ := h.2.2.2.2 a ha
    exact ⟨h1, h2, by rw [hh a.block (by rw [ha]; simp)]; exact h3, h4⟩⟩
  ow_rd h hn := ⟨h.1, h.2.1, fun x hx => GT.ow_rd (h.2.2.1 x hx) (fun k hk => hn k (List.mem_append_right _ (List.mem_flatMap.2 ⟨x, hx, hk⟩))), fun ha => (h.2.2.2.1 ha).1, fun a ha => by
    obtain ⟨h1, h2, h3, h4⟩ := h.2.2.2.2 a ha
    refine ⟨fun _ => h1, fun j v hv => ⟨?_, hn a.block (by rw [ha]; simp)⟩⟩
    rw [cell_of_row _ _ _ _ _ _ h3, h2, Nat.zero_add]
    simp only [List.getElem?_toArray]
    rw [List.getElem?_append_left (List.getElem?_eq_some_iff.1 hv).1]
    exact hv⟩
end
def treeH {τ δ : Type} [GT τ δ] (t : τ) : HP := ⟨GT.fp t, fun w => GT.ow w t, fun _ _ h => GT.ow_st h⟩
/-- A block of cells that is known whole. -/
def blk (b : Nat) (cs : List Value) (T : TypeId) : HP := ⟨[b], fun w => w.heap[b]? = some (.cells cs.toArray T (0, 0)), fun w w' h hp => by rw [h b (by simp)]; exact hp⟩
/-! Picking a part out of a list of parts -/
inductive Pick (h : HP) : List HP → List HP → Prop
  | here (M : List HP) : Pick h (h :: M) M
  | there (g : HP) {M M' : List HP} (hp : Pick h M M') : Pick h (g :: M) (g :: M')
theorem Pick.perm {h : HP} {M M' : List HP} (p : Pick h M M') : List.Perm M (h :: M') := by
  induction p with
  | here M => exact List.Perm.refl _
  | there g _ ih => exact (ih.cons g).trans (List.Perm.swap _ _ _)
theorem MSub.cons {h : HP} {Ms M M' : List HP} (p : Pick h M M') (hs : MSub Ms M') : MSub (h :: Ms) M := by
  obtain ⟨r, hr⟩ := hs
  exact ⟨r, p.perm.trans (hr.cons h)⟩
/-- The same, as a split. -/
theorem perm_nil_left (M : List HP) : List.Perm M ([] ++ M) := by simp
theorem perm_cons {h : HP} {Ms M M' R : List HP} (p : Pick h M M') (hs : List.Perm M' (Ms ++ R)) : List.Perm M ((h :: Ms) ++ R) := p.perm.trans (hs.cons h)
/-! Reading -/
def RdC (Γ : Cx) (M : List HP) (g off : Nat) (cs : List Value) : Prop := ∀ w, Sees Γ.w0 Γ.S0 M w → ∀ j v, cs[j]? = some v → w.cell? ⟨g, off + j, none⟩ = some v
def Cells (w0 : World) (S0 : List Nat) (g off : Nat) (cs : List Value) : Prop := ∀ j v, cs[j]? = some v → Old w0 S0 ⟨g, off + j, none⟩ v
theorem RdC.old {g off : Nat} {cs : List Value} (h : Cells Γ.w0 Γ.S0 g off cs) : RdC Γ M g off cs := fun _ hw j v hv => (h j v hv).now hw
theorem RdC.blk {b : Nat} {cs : List Value} {T : TypeId} (h : blk b cs T ∈ M) : RdC Γ M b 0 cs := fun w hw j v hv => by
  have hp : w.heap[b]? = some (.cells cs.toArray T (0, 0)) := hw.prs _ h
  rw [cell_of_row _ _ _ _ _ _ hp, Nat.zero_add]
  simpa using hv
section
variable {τ δ : Type} [GT τ δ]
theorem Cells.el {L : TL τ} {g o i : Nat} {x : τ} (h : GT.rd w0 S0 L) (ha : L.a = some ⟨g, o, none⟩) (hi : L.els[i]? = some x) : Cells w0 S0 g (o + i * GT.sz τ) (GT.cells x) := fun j v hv => by
  have hj : j < GT.sz τ := by rw [← GT.len x]; exact (List.getElem?_eq_some_iff.1 hv).1
  have := (h.2.2.2.2 _ ha).2 (i * GT.sz τ + j) v (by rw [rowCells_get _ _ _ _ hi hj]; exact hv)
  rw [Nat.add_assoc]; exact this
theorem RdC.el {L : TL τ} {g o i : Nat} {x : τ} (hm : treeH L ∈ M) (ha : L.a = some ⟨g, o, none⟩) (hi : L.els[i]? = some x) : RdC Γ M g (o + i * GT.sz τ) (GT.cells x) := fun w hw j v hv => by
  have hj : j < GT.sz τ := by rw [← GT.len x]; exact (List.getElem?_eq_some_iff.1 hv).1
  have h : GT.ow w L := hw.prs _ hm
  obtain ⟨h1, h2, h3, h4⟩ := h.2.2.2.2 _ ha
  have h2' : o = 0 := h2
  subst h2'
  have hlt : i * GT.sz τ + j < (rowCells L.els).length := by
    have := (List.getElem?_eq_some_iff.1 (rowCells_get L.els i j x hi hj ▸ hv : (rowCells L.els)[i * GT.sz τ + j]? = some v)).1
    exact this
  rw [cell_of_row _ _ _ _ _ _ h3, Nat.zero_add]
  simp only [List.getElem?_toArray]
  rw [List.getElem?_append_left hlt, rowCells_get _ _ _ _ hi hj]
  exact hv
end
/-! Facts on types, asked of the program's tables by closed facts. -/
def aggOf (P : Program) (T : TypeId) : Option Nat :=
  match P.underlying T, P.info? T with
  | some (.struct _), some i => some i.size
  | some (.array _ _), some i => some i.size
  | _, _ => none
def oneOf (P : Program) (T : TypeId) : Bool :=
  match P.underlying T, P.info? T with
  | some (.struct _), _ => false
  | some (.array _ _), _ => false
  | some _, some i => i.size == 1
  | _, _ => false
def fldOf (P : Program) (T : TypeId) (f : Nat) : Option Nat :=
  match P.underlying T with
  | some (.struct fs) => match fs[f]? with
    | some x => match P.info? x.type with
      | some i => if i.size = 0 then none else some x.offset
      | none => none
    | none => none
  | _ => none
def elOf (P : Program) (T : TypeId) : Option (TypeId × Nat × Nat × List Value) :=
  match P.underlying T with
  | some (.slice e) => match P.info? e with
    | some i => match i.zero with
      | some z => some (e, i.size, i.bytes, z.cells.toList)
      | none => none
    | none => none
  | _ => none
def zeroOf (P : Program) (T : TypeId) : Option (List Value) :=
  match P.info? T with
  | some i => match i.zero with
    | some z => some z.cells.toList
    | none => none
  | none => none
def isStr (P : Program) (T : TypeId) : Bool := match P.underlying T with | some .string => true | _ => false
theorem run_isAgg_agg {P : Program} {T n : Nat} (h : aggOf P T = some n) (w : World) : (isAgg T).run P w = .ok true w ∧ (sizeOf T).run P w = .ok n w := by
  unfold aggOf at h
  split at h <;> (try cases h) <;> (rename_i h1 h2; simp [isAgg, underlying, sizeOf, typeInfo, h1, h2])
theorem run_isAgg_one {P : Program} {T : Nat} (h : oneOf P T = true) (w : World) : (isAgg T).run P w = .ok false w ∧ (sizeOf T).run P w = .ok 1 w := by
  unfold oneOf at h
  split at h
  · cases h
  · cases h
  · rename_i d i hd1 hd2 h1 h2
    simp only [beq_iff_eq] at h
    simp only [isAgg, underlying, sizeOf, typeInfo, Sem.run_bind, run_program, Result.andThen_ok, h1, h2, Sem.run_pure, h, and_true]
  · cases h
/-! Entering a function and leaving it -/
def envOf : Nat → List Value → Envl
  | _, [] => []
  | i, v :: vs => (i, v) :: envOf (i + 1) vs
theorem lookup_envOf (vs : List Value) : ∀ i t v, (envOf i vs).lookup t = some v → i ≤ t ∧ vs[t - i]? = some v := by
  induction vs with
  | nil => intro i t v h; simp [envOf] at h
  | cons u us ih =>
    intro i t v h
    simp only [envOf, List.lookup_cons] at h
    split at h
    · rename_i he; simp only [beq_iff_eq] at he; subst he; cases h; simp
    · rename_i he
      obtain ⟨h1, h2⟩ := ih (i + 1) t v h
      refine ⟨by omega, ?_⟩
      rw [show t - i = (t - (i + 1)) + 1 by omega]
      simpa using h2
def retQ (P : Program) (fn : Func) (w0 : World) (S0 : List Nat) (R : Value → List HP → Prop) : Post
  | .normal, l, M => ∃ v M', (∀ a w, Env a fn.ntmps l → Holds w0 S0 M w → (results fn a.tmps).run P w = .ok v w) ∧ R v M' ∧ MSub M' M
  | .ret, l, M => ∃ v M', (∀ a w, Env a fn.ntmps l → Holds w0 S0 M w → (results fn a.tmps).run P w = .ok v w) ∧ R v M' ∧ MSub M' M
  | _, _, _ => False
theorem Spec.intro {P : Program} {f : FuncId} {fn : Func} {c : Code} {args : List Value} {R : Value → List HP → Prop} {n : Nat} (hf : P.funcs[f]? = some fn) (hb : fn.body = some c)
    (hn : fn.ntmps = n) (hs : Nat.ble args.length n = true) (h : W ⟨P, n, w, fps M⟩ c (envOf 0 args) M (retQ P fn w (fps M) R)) : Spec P f args.toArray w M R := by
  subst hn
  have hs := Nat.le_of_ble_eq_true hs
  intro hh
  refine calls_of_wp hf hb (Code.wp_mono ?_ (h _ w ?_ hh))
  · intro e a w' q
    cases e <;> first
      | exact q.elim
      | (obtain ⟨l, M', h1, h2, h3⟩ := q; exact h3.elim)
      | (obtain ⟨l, M', h1, h2, v, M'', h3, h4, h5⟩ := q; exact ⟨h1.defers, v, h3 a w' h1 h2, v, M'', rfl, h4, h2.sub h5⟩)
  · refine ⟨by simp; omega, rfl, fun t v ht => ?_⟩
    obtain ⟨_, h2⟩ := lookup_envOf _ _ _ _ ht
    have hlt := (List.getElem?_eq_some_iff.1 h2).1
    rw [Array.getElem?_append_left (by simpa using hlt)]
    simpa using h2
def resS (tmps : Array Value) (rv : ResultVar) : Sem Value :=
  match rv with
  | .tmp t => pure (tmps.getD t undef)
  | .cell a t => do loadVar t (← asAddr (tmps.getD a undef))
theorem results_eq (fn : Func) (tmps : Array Value) : results fn tmps = (do
  let vs ← fn.results.mapM (resS tmps)
  pure (if h : vs.size = 1 then vs[0] else .tuple vs)) := rfl
/-- What a result variable yields. -/
def ResOK (P : Program) (n : Nat) (w0 : World) (S0 : List Nat) (l : Envl) (M : List HP) (rv : ResultVar) (v : Value) : Prop :=
  ∀ a w, Env a n l → Holds w0 S0 M w → (resS a.tmps rv).run P w = .ok v w
theorem ResOK.tmp {P : Program} {n t : Nat} {v : Value} (h : l.lookup t = some v) : ResOK P n w0 S0 l M (.tmp t) v := fun a w ha _ => by
  have := ha.get t v h
  simp [resS, Array.getD_eq_getD_getElem?, this]
theorem run_loadCells_at {P : Program} {g off : Nat} {cs : List Value} (h : ∀ j v, cs[j]? = some v → w.cell? ⟨g, off + j, none⟩ = some v) :
    (loadCells ⟨g, off, none⟩ cs.length).run P w = .ok cs.toArray w :=
  run_loadCells_list (P := P) w ⟨g, off, none⟩ cs (fun j v hv => by
    have hadd : (⟨g, off, none⟩ : Addr).add j = ⟨g, off + j, none⟩ := by unfold Addr.add; split <;> simp_all
    rw [hadd]; exact h j v hv)
theorem ResOK.cell {P : Program} {n t ty b : Nat} {cs : List Value} {T : TypeId} (h : l.lookup t = some (.pointer (some ⟨b, 0, none⟩))) (hm : blk b cs T ∈ M)
    (ht : aggOf P ty = some cs.length) : ResOK P n w0 S0 l M (.cell t ty) (.agg cs.toArray) := fun a w ha hw => by
  have := ha.get t _ h
  have hp : w.heap[b]? = some (.cells cs.toArray T (0, 0)) := hw.prs _ hm
  have hl : (loadCells ⟨b, 0, none⟩ cs.length).run P w = .ok cs.toArray w := run_loadCells_at (fun j v hv => by
    rw [cell_of_row _ _ _ _ _ _ hp, Nat.zero_add]; simpa using hv)
  simp [resS, Array.getD_eq_getD_getElem?, this, asAddr, loadVar, run_isAgg_agg ht, hl]
theorem res1 {P : Program} {fn : Func} {rv : ResultVar} {v : Value} {R : Value → List HP → Prop} {M' : List HP} (hr : fn.results = #[rv])
    (h : ResOK P fn.ntmps w0 S0 l M rv v) (hR : R v M') (hm : MSub M' M) : retQ P fn w0 S0 R .ret l M :=
  ⟨v, M', fun a w ha hw => by
    rw [results_eq, hr]
    simp [h a w ha hw], hR, hm⟩
theorem res2 {P : Program} {fn : Func} {r1 r2 : ResultVar} {v1 v2 : Value} {R : Value → List HP → Prop} {M' : List HP} (hr : fn.results = #[r1, r2])
    (h1 : ResOK P fn.ntmps w0 S0 l M r1 v1) (h2 : ResOK P fn.ntmps w0 S0 l M r2 v2) (hR : R (.tuple #[v1, v2]) M') (hm : MSub M' M) : retQ P fn w0 S0 R .ret l M :=
  ⟨_, M', fun a w ha hw => by
    rw [results_eq, hr]
    simp [h1 a w ha hw, h2 a w ha hw], hR, hm⟩
theorem res3 {P : Program} {fn : Func} {r1 r2 r3 : ResultVar} {v1 v2 v3 : Value} {R : Value → List HP → Prop} {M' : List HP} (hr : fn.results = #[r1, r2, r3])
    (h1 : ResOK P fn.ntmps w0 S0 l M r1 v1) (h2 : ResOK P fn.ntmps w0 S0 l M r2 v2) (h3 : ResOK P fn.ntmps w0 S0 l M r3 v3) (hR : R (.tuple #[v1, v2, v3]) M') (hm : MSub M' M) : retQ P fn w0 S0 R .ret l M :=
  ⟨_, M', fun a w ha hw => by
    rw [results_eq, hr]
    simp [h1 a w ha hw, h2 a w ha hw, h3 a w ha hw], hR, hm⟩
end Go.Proofs.SL
namespace Go.Proofs.SL
open Go
variable {Γ : Cx} {l : Envl} {M : List HP} {Q : Post} {K : Kont} {w0 w : World} {S0 : List Nat}
variable {rest : List Oper} {d : Nat} {ty : TypeId} {pos : String} {af : Array Edge}
/-- An operation that turns nothing. -/
theorem L_pure {op : Op} {v : Value} (hn : Nat.blt d Γ.n = true)
    (he : ∀ a w, Env a Γ.n l → Holds Γ.w0 Γ.S0 M w → (execOp a.eval { dst := some d, op, type := ty, pos, after := af, guard := none }).run Γ.P w = .ok (.value v) w)
    (hk : L Γ rest ((d, v) :: l) M K) : L Γ ({ dst := some d, op, type := ty, pos, after := af, guard := none } :: rest) l M K :=
  L_step rfl rfl (Nat.le_of_ble_eq_true hn) (fun a w ha hw => ⟨w, he a w ha hw, hw⟩) hk
theorem L_move {x : Operand} {v : Value} (hn : Nat.blt d Γ.n = true) (hx : ev l x = some v) (hk : L Γ rest ((d, v) :: l) M K) :
    L Γ ({ dst := some d, op := .move x, type := ty, pos, after := af, guard := none } :: rest) l M K :=
  L_pure hn (fun a w ha _ => by simp [execOp, ha.eval hx]) hk
theorem L_assign {x : Operand} {v : Value} (hn : Nat.blt d Γ.n = true) (hx : ev l x = some v) (hk : L Γ rest ((d, v) :: l) M K) :
    L Γ ({ dst := some d, op := .assign x, type := ty, pos, after := af, guard := none } :: rest) l M K :=
  L_pure hn (fun a w ha _ => by simp [execOp, ha.eval hx]) hk
/-! Arithmetic -/
theorem L_bin {op : BinOp} {T U : TypeId} {x y : Operand} {u v r : Value} (hn : Nat.blt d Γ.n = true) (hx : ev l x = some u) (hy : ev l y = some v)
    (he : ∀ w, (do eqGuard op T x y u v; binOp op T u v : Sem Value).run Γ.P w = .ok r w)
    (hk : L Γ rest ((d, r) :: l) M K) :
    L Γ ({ dst := some d, op := .binOp op T x y U, type := ty, pos, after := af, guard := none } :: rest) l M K :=
  L_pure hn (fun a w ha _ => by
    simp only [execOp, ha.eval hx, ha.eval hy]
    rw [Sem.run_bind, he w]; rfl) hk
def BinV (P : Program) (op : BinOp) (T : TypeId) (x y : Operand) (u v r : Value) : Prop := ∀ w, (do eqGuard op T x y u v; binOp op T u v : Sem Value).run P w = .ok r w
theorem L_binV {op : BinOp} {T U : TypeId} {x y : Operand} {u v r : Value} (hn : Nat.blt d Γ.n = true) (hx : ev l x = some u) (hy : ev l y = some v)
    (he : BinV Γ.P op T x y u v r) (hk : L Γ rest ((d, r) :: l) M K) :
    L Γ ({ dst := some d, op := .binOp op T x y U, type := ty, pos, after := af, guard := none } :: rest) l M K := L_bin hn hx hy he hk
section
variable {P : Program} {T : TypeId} {x y : Operand} {k : IntKind} {a b : Int}
theorem wrap64_in {n : Int} (h : inR n) : IntKind.wrap .i64 n = n := IntWalk.i64_in n h
theorem bv_add : BinV P .add T x y (.int k a) (.int k b) (.int k (k.wrap (a + b))) := fun w => by simp [eqGuard, binOp, Op.intArith]
theorem bv_sub : BinV P .sub T x y (.int k a) (.int k b) (.int k (k.wrap (a - b))) := fun w => by simp [eqGuard, binOp, Op.intArith]
theorem bv_mul : BinV P .mul T x y (.int k a) (.int k b) (.int k (k.wrap (a * b))) := fun w => by simp [eqGuard, binOp, Op.intArith]
theorem bv_quo (hb : b ≠ 0) : BinV P .quo T x y (.int k a) (.int k b) (.int k (k.wrap (a.tdiv b))) := fun w => by simp [eqGuard, binOp, Op.intDiv, hb]
theorem bv_rem (hb : b ≠ 0) : BinV P .rem T x y (.int k a) (.int k b) (.int k (a.tmod b)) := fun w => by simp [eqGuard, binOp, Op.intDiv, hb]
theorem bv_lss : BinV P .lss T x y (.int k a) (.int k b) (.bool (decide (a < b))) := fun w => by simp [eqGuard, binOp, Op.intCmp]
theorem bv_leq : BinV P .leq T x y (.int k a) (.int k b) (.bool (decide (a ≤ b))) := fun w => by simp [eqGuard, binOp, Op.intCmp]
theorem bv_gtr : BinV P .gtr T x y (.int k a) (.int k b) (.bool (decide (b < a))) := fun w => by simp [eqGuard, binOp, Op.intCmp]
theorem bv_geq : BinV P .geq T x y (.int k a) (.int k b) (.bool (decide (b ≤ a))) := fun w => by simp [eqGuard, binOp, Op.intCmp]
theorem bv_eql : BinV P .eql T x y (.int k a) (.int k b) (.bool (decide (a = b))) := fun w => by by_cases h : a = b <;> simp [eqGuard, binOp, Op.intCmp, h]
theorem bv_neq : BinV P .neq T x y (.int k a) (.int k b) (.bool (!decide (a = b))) := fun w => by by_cases h : a = b <;> simp [eqGuard, binOp, Op.intCmp, h]
theorem str_eq (s t : ByteArray) : (s.toList == t.toList) = decide (s = t) := by
  by_cases h : s = t
  · subst h; simp
  · rw [decide_eq_false h]
    refine beq_eq_false_iff_ne.2 fun e => h ?_
    rw [ByteArray.toList_eq, ByteArray.toList_eq] at e
    cases s; cases t
    exact congrArg _ (Array.toList_inj.1 e)
variable {s t : ByteArray}
theorem bv_seql : BinV P .eql T x y (.string s) (.string t) (.bool (decide (s = t))) := fun w => by simp [eqGuard, binOp, Op.stringOp, str_eq]
theorem bv_sneq : BinV P .neq T x y (.string s) (.string t) (.bool (!decide (s = t))) := fun w => by simp [eqGuard, binOp, Op.stringOp, str_eq]
/-- The order of strings. -/
def sLt (s t : ByteArray) : Bool := Op.bytesLess s.toList t.toList
theorem bv_slss : BinV P .lss T x y (.string s) (.string t) (.bool (sLt s t)) := fun w => by simp [eqGuard, binOp, Op.stringOp, sLt]
theorem bv_sgeq : BinV P .geq T x y (.string s) (.string t) (.bool (!sLt s t)) := fun w => by simp [eqGuard, binOp, Op.stringOp, sLt]
theorem bv_sadd (h : s.size + t.size ≤ 9223372036854775807) : BinV P .add T x y (.string s) (.string t) (.string (s ++ t)) := fun w => by
  have : ¬ (((s.size + t.size : Nat) : Int) > IntKind.i64.max) := by
    have e : IntKind.i64.max = 9223372036854775807 := by decide
    rw [e]; omega
  simp only [eqGuard, binOp, Op.stringOp, if_neg this]
  simp
end
theorem L_not {x : Operand} {T : TypeId} {b : Bool} (hn : Nat.blt d Γ.n = true) (hx : ev l x = some (.bool b)) (hk : L Γ rest ((d, .bool (!b)) :: l) M K) :
    L Γ ({ dst := some d, op := .unOp .not T x, type := ty, pos := pos, after := af, guard := none } :: rest) l M K :=
  L_pure hn (fun a w ha _ => by simp [execOp, ha.eval hx, Op.unary]) hk
/-! Lengths -/
theorem run_len_slice {P : Program} {T : TypeId} {e z : TypeId × Nat × Nat × List Value} (h : elOf P T = some e) (a : Option Addr) (n c : Nat) (ty : TypeId) (w : World) :
    (Builtin.len_ #[T] ty #[.slice a n c]).run P w = .ok (.int .i64 n) w := by
  unfold elOf at h
  split at h <;> (try cases h)
  rename_i e' he
  simp [Builtin.len_, underlying, he, goInt]
theorem L_lenS {x : Operand} {T : TypeId} {e : TypeId × Nat × Nat × List Value} {a : Option Addr} {n c : Nat} (hn : Nat.blt d Γ.n = true) (hx : ev l x = some (.slice a n c)) (ht : elOf Γ.P T = some e)
    (hk : L Γ rest ((d, .int .i64 n) :: l) M K) :
    L Γ ({ dst := some d, op := .call { callee := .builtin .len, args := #[x], argTypes := #[T] }, type := ty, pos := pos, after := af, guard := none } :: rest) l M K :=
  L_pure hn (fun a' w ha _ => by
    have := run_len_slice (z := e) ht a n c ty w
    simp [execOp, resolve, invoke, builtin, ha.eval hx, this]) hk
theorem L_lenT {x : Operand} {T : TypeId} {s : ByteArray} (hn : Nat.blt d Γ.n = true) (hx : ev l x = some (.string s)) (ht : isStr Γ.P T = true)
    (hk : L Γ rest ((d, .int .i64 s.size) :: l) M K) :
    L Γ ({ dst := some d, op := .call { callee := .builtin .len, args := #[x], argTypes := #[T] }, type := ty, pos := pos, after := af, guard := none } :: rest) l M K :=
  L_pure hn (fun a' w ha _ => by
    have h2 : Γ.P.underlying T = some .string := by unfold isStr at ht; split at ht <;> simp_all
    simp [execOp, resolve, invoke, builtin, ha.eval hx, Builtin.len_, underlying, h2, goInt]) hk
/-! Addresses -/
theorem addr_add (g o n : Nat) : (⟨g, o, none⟩ : Addr).add n = ⟨g, o + n, none⟩ := by unfold Addr.add; split <;> simp_all
theorem L_fieldAddr {x : Operand} {T f fo g o : Nat} (hn : Nat.blt d Γ.n = true) (hx : ev l x = some (.pointer (some ⟨g, o, none⟩))) (ht : fldOf Γ.P T f = some fo)
    (hk : L Γ rest ((d, .pointer (some ⟨g, o + fo, none⟩)) :: l) M K) :
    L Γ ({ dst := some d, op := .fieldAddr T x f, type := ty, pos := pos, after := af, guard := none } :: rest) l M K :=
  L_pure hn (fun a' w ha _ => by
    unfold fldOf at ht
    split at ht <;> (try cases ht)
    rename_i fs hfs
    split at ht <;> (try cases ht)
    rename_i x' hx'
    split at ht <;> (try cases ht)
    rename_i i hi
    split at ht <;> cases ht
    rename_i hsz
    simp [execOp, ha.eval hx, Instr.fieldAt, underlying, hfs, hx', Instr.sureAddr, fieldPlace, sizeOf, typeInfo, hi, hsz, addr_add]) hk
theorem L_nilCheck {x : Operand} {a : Addr} (hn : Nat.blt d Γ.n = true) (hx : ev l x = some (.pointer (some a)))
    (hk : L Γ rest ((d, .pointer (some a)) :: l) M K) :
    L Γ ({ dst := some d, op := .nilCheck x, type := ty, pos := pos, after := af, guard := none } :: rest) l M K :=
  L_pure hn (fun a' w ha _ => by simp [execOp, ha.eval hx]) hk
theorem run_indexAt {P : Program} {T : TypeId} {e : TypeId} {sz by_ : Nat} {z : List Value} (h : elOf P T = some (e, sz, by_, z)) (g o n c : Nat) (k : IntKind) (i : Int) (j : Nat) (hi : i = (j : Int)) (hj : j < n) (w : World) :
    (Instr.indexAt T (.slice (some ⟨g, o, none⟩) n c) (.int k i)).run P w = .ok (.pointer (some ⟨g, o + j * sz, none⟩)) w := by
  unfold elOf at h
  split at h <;> (try cases h)
  rename_i e' he
  split at h <;> (try cases h)
  rename_i i' hi'
  split at h <;> cases h
  subst hi
  have h0 : (0 : Int) ≤ (j : Int) ∧ ((j : Int) < (n : Int)) := by omega
  have h0' : ¬ n ≤ j := by omega
  simp [Instr.indexAt, asIntOf, underlying, he, h0, h0', sizeOf, typeInfo, hi', addr_add]
theorem L_convInt {x : Operand} {S T : TypeId} {k k' : IntKind} {n : Int} (hn : Nat.blt d Γ.n = true) (hx : ev l x = some (.int k n)) (ht : Γ.P.underlying T = some (.int k')) (hs : (Γ.P.underlying S).isSome = true)
    (hk : L Γ rest ((d, .int k' (k'.wrap n)) :: l) M K) :
    L Γ ({ dst := some d, op := .convert S T x, type := ty, pos := pos, after := af, guard := none } :: rest) l M K :=
  L_pure hn (fun a' w ha _ => by
    obtain ⟨u, hu⟩ := Option.isSome_iff_exists.1 hs
    simp [execOp, ha.eval hx, convert, underlying, hu, ht, Conv.intToInt]) hk
/-! Loads -/
theorem L_load {x : Operand} {T g off fo : Nat} {cs : List Value} {v : Value} (hn : Nat.blt d Γ.n = true) (hx : ev l x = some (.pointer (some ⟨g, off + fo, none⟩))) (hc : RdC Γ M g off cs) (ht : oneOf Γ.P T = true)
    (hv : cs[fo]? = some v) (hk : L Γ rest ((d, v) :: l) M K) :
    L Γ ({ dst := some d, op := .load T x, type := ty, pos := pos, after := af, guard := none } :: rest) l M K :=
  L_pure hn (fun a' w ha hw => by simp [execOp, ha.eval hx, Instr.loadAt, Instr.sureAddr, loadVar, run_isAgg_one ht, hc w hw.sees fo v hv]) hk
theorem L_load0 {x : Operand} {T g off : Nat} {cs : List Value} {v : Value} (hn : Nat.blt d Γ.n = true) (hx : ev l x = some (.pointer (some ⟨g, off, none⟩))) (hc : RdC Γ M g off cs) (ht : oneOf Γ.P T = true)
    (hv : cs[0]? = some v) (hk : L Γ rest ((d, v) :: l) M K) :
    L Γ ({ dst := some d, op := .load T x, type := ty, pos := pos, after := af, guard := none } :: rest) l M K :=
  L_pure hn (fun a' w ha hw => by
    have := hc w hw.sees 0 v hv
    simp only [Nat.add_zero] at this
    simp [execOp, ha.eval hx, Instr.loadAt, Instr.sureAddr, loadVar, run_isAgg_one ht, this]) hk
/-- A whole struct. -/
theorem L_loadW {x : Operand} {T g off : Nat} {cs : List Value} (hn : Nat.blt d Γ.n = true) (hx : ev l x = some (.pointer (some ⟨g, off, none⟩))) (hc : RdC Γ M g off cs) (ht : aggOf Γ.P T = some cs.length)
    (hk : L Γ rest ((d, .agg cs.toArray) :: l) M K) :
    L Γ ({ dst := some d, op := .load T x, type := ty, pos := pos, after := af, guard := none } :: rest) l M K :=
  L_pure hn (fun a' w ha hw => by
    have hl := run_loadCells_at (P := Γ.P) (hc w hw.sees)
    simp [execOp, ha.eval hx, Instr.loadAt, Instr.sureAddr, loadVar, run_isAgg_agg ht, hl]) hk
/-! New variables -/
theorem Holds.new {b : Nat} {cs : List Value} {T : TypeId} (hw : Holds w0 S0 M w) (hb : b = w.heap.size) : Holds w0 S0 (blk b cs T :: M) (w.alloc (.cells cs.toArray T (0, 0))) := by
  subst hb
  have hlt : ∀ k, k ∈ fps M → k < w.heap.size := fun k hk => (hw.rng k hk).2
  refine ⟨hw.os, hw.tape, hw.output, by rw [World.size_alloc]; have := hw.size; omega, fun k hk hs => ?_, fun x hx => ?_, ?_, fun k hk => ?_⟩
  · rw [heap_alloc_old _ _ (Nat.lt_of_lt_of_le hk hw.size)]; exact hw.old k hk hs
  · rcases List.mem_cons.1 hx with rfl | hx
    · exact heap_alloc_new w _
    · exact x.st w _ (fun k hk => heap_alloc_old _ _ (hlt k (List.mem_flatMap.2 ⟨x, hx, hk⟩))) (hw.prs x hx)
  · rw [fps_cons]
    refine List.nodup_append.2 ⟨by simp [blk], hw.nodup, fun a ha b hb e => ?_⟩
    simp [blk] at ha; subst ha; subst e
    have := hlt _ hb; omega
  · rw [fps_cons] at hk
    rw [World.size_alloc]
    rcases List.mem_append.1 hk with hk | hk
    · simp [blk] at hk; subst hk; exact ⟨.inr hw.size, by omega⟩
    · exact ⟨(hw.rng k hk).1, by have := hlt k hk; omega⟩
theorem L_new {op : Op} {cs : List Value} {T : TypeId} (hn : Nat.blt d Γ.n = true)
    (he : ∀ a w, Env a Γ.n l → (execOp a.eval { dst := some d, op, type := ty, pos, after := af, guard := none }).run Γ.P w = .ok (.value (.pointer (some ⟨w.heap.size, 0, none⟩))) (w.alloc (.cells cs.toArray T (0, 0))))
    (hk : ∀ b, L Γ rest ((d, .pointer (some ⟨b, 0, none⟩)) :: l) (blk b cs T :: M) K) : L Γ ({ dst := some d, op, type := ty, pos, after := af, guard := none } :: rest) l M K :=
  L_stepR (fun v M' => ∃ b, v = .pointer (some ⟨b, 0, none⟩) ∧ M' = blk b cs T :: M) rfl rfl (Nat.le_of_ble_eq_true hn)
    (fun a w ha hw => ⟨_, _, _, ⟨w.heap.size, rfl, rfl⟩, he a w ha, hw.new rfl⟩) (fun v M' ⟨b, h1, h2⟩ => by subst h1; subst h2; exact hk b)
theorem L_box {x : Operand} {T : TypeId} {v : Value} (hn : Nat.blt d Γ.n = true) (hx : ev l x = some v)
    (hk : ∀ b, L Γ rest ((d, .pointer (some ⟨b, 0, none⟩)) :: l) (blk b v.cells.toList T :: M) K) : L Γ ({ dst := some d, op := .box T x, type := ty, pos, after := af, guard := none } :: rest) l M K :=
  L_new hn (fun a w ha => by simp [execOp, ha.eval hx, Instr.box, newVar, newRow]) hk
theorem L_alloc {T : TypeId} {z : List Value} (hn : Nat.blt d Γ.n = true) (hz : zeroOf Γ.P T = some z)
    (hk : ∀ b, L Γ rest ((d, .pointer (some ⟨b, 0, none⟩)) :: l) (blk b z T :: M) K) : L Γ ({ dst := some d, op := .alloc T, type := ty, pos, after := af, guard := none } :: rest) l M K :=
  L_new hn (fun a w ha => by
    unfold zeroOf at hz
    split at hz <;> (try cases hz)
    rename_i i hi
    split at hz <;> cases hz
    rename_i z' hz'
    simp [execOp, Instr.alloc, zeroValue, typeInfo, hi, hz', newVar, newRow]) hk
/-! Stores into blocks that are known whole -/
theorem setRow_blk {b : Nat} {cs cs' : List Value} {T : TypeId} {M' : List HP} (hw : Holds w0 S0 (blk b cs T :: M') w) : Holds w0 S0 (blk b cs' T :: M') (w.setRow b cs'.toArray) := by
  have hp : w.heap[b]? = some (.cells cs.toArray T (0, 0)) := hw.prs (blk b cs T) (by simp)
  have hnd := hw.nodup
  rw [fps_cons] at hnd
  obtain ⟨_, hn2, hdis⟩ := List.nodup_append.1 hnd
  have hb : b ∈ S0 ∨ w0.heap.size ≤ b := (hw.rng b (by simp [fps, blk])).1
  refine ⟨hw.os, hw.tape, hw.output, by simpa using hw.size, fun k hk hs => ?_, fun x hx => ?_, ?_, fun k hk => ?_⟩
  · rw [setRow_other w b k _ (fun e => by subst e; rcases hb with h | h; exact hs h; omega)]
    exact hw.old k hk hs
  · rcases List.mem_cons.1 hx with rfl | hx
    · exact setRow_heap w b cs.toArray _ T _ hp
    · exact x.st w _ (fun k hk => setRow_other w b k _ (fun e => hdis b (by simp [blk]) k (List.mem_flatMap.2 ⟨x, hx, hk⟩) e.symm)) (hw.prs x (List.mem_cons_of_mem _ hx))
  · exact hw.nodup
  · rw [size_setRow]; exact hw.rng k hk
theorem run_store_blk {P : Program} {b fo : Nat} {cs vs : List Value} {T ty : TypeId} (hp : w.heap[b]? = some (.cells cs.toArray T (0, 0))) (hfit : fo + vs.length ≤ cs.length) (h1 : ∀ v, v ∈ vs → v.oneCell' = true) :
    (storeCells ⟨b, fo, none⟩ vs).run P w = .ok () (w.setRow b (cs.take fo ++ vs ++ cs.drop (fo + vs.length)).toArray) := by
  have := run_storeCells_at P b fo T vs 0 cs.toArray w hp (by simpa using hfit) h1
  simpa using this
theorem L_store {x y : Operand} {T b fo : Nat} {T' : TypeId} {cs : List Value} {v : Value} {M' : List HP} (hx : ev l x = some (.pointer (some ⟨b, 0 + fo, none⟩))) (hy : ev l y = some v) (hp : Pick (blk b cs T') M M')
    (ht : oneOf Γ.P T = true) (h1 : v.oneCell' = true) (hlt : Nat.blt fo cs.length = true) (hk : L Γ rest l (blk b (cs.set fo v) T' :: M') K) :
    L Γ ({ dst := none, op := .store T x y, type := ty, pos, after := af, guard := none } :: rest) l M K :=
  L_skip rfl rfl (fun a w ha hw => by
    have hw' := hw.perm hp.perm
    have hh : w.heap[b]? = some (.cells cs.toArray T' (0, 0)) := hw'.prs (blk b cs T') (by simp)
    have hlt := Nat.le_of_ble_eq_true hlt
    have hc : v.cells = #[v] := by cases v <;> first | rfl | cases h1
    have hs := run_store_blk (P := Γ.P) (fo := fo) (vs := [v]) (ty := T) hh (by simpa using hlt) (by simpa using h1)
    refine ⟨_, ?_, setRow_blk (cs' := cs.set fo v) hw'⟩
    rw [Nat.zero_add] at hx
    have e : (cs.take fo ++ [v] ++ cs.drop (fo + [v].length)) = cs.set fo v := by
      rw [List.set_eq_take_append_cons_drop, if_pos (show fo < cs.length from hlt)]; simp
    rw [e] at hs
    simp [execOp, ha.eval hx, ha.eval hy, Instr.storeAt, Instr.sureAddr, storeVar, run_isAgg_one ht, hc, hs]) hk
/-- A whole struct. -/
theorem L_storeW {x y : Operand} {T b : Nat} {T' : TypeId} {cs cs' : List Value} {M' : List HP} (hx : ev l x = some (.pointer (some ⟨b, 0, none⟩))) (hy : ev l y = some (.agg cs'.toArray)) (hp : Pick (blk b cs T') M M')
    (ht : aggOf Γ.P T = some cs'.length) (hl : cs'.length = cs.length) (h1 : ∀ v, v ∈ cs' → v.oneCell' = true) (hk : L Γ rest l (blk b cs' T' :: M') K) :
    L Γ ({ dst := none, op := .store T x y, type := ty, pos, after := af, guard := none } :: rest) l M K :=
  L_skip rfl rfl (fun a w ha hw => by
    have hw' := hw.perm hp.perm
    have hh : w.heap[b]? = some (.cells cs.toArray T' (0, 0)) := hw'.prs (blk b cs T') (by simp)
    have hs := run_store_blk (P := Γ.P) (fo := 0) (vs := cs') (ty := T) hh (by omega) h1
    refine ⟨_, ?_, setRow_blk (cs' := cs') hw'⟩
    have e : (cs.take 0 ++ cs' ++ cs.drop (0 + cs'.length)) = cs' := by simp [hl]
    rw [e] at hs
    simp [execOp, ha.eval hx, ha.eval hy, Instr.storeAt, Instr.sureAddr, storeVar, run_isAgg_agg ht, Value.cells, hs]) hk
end Go.Proofs.SL
namespace Go.Proofs.SL
open Go
/-- What is known of a slot's value, with the parts of memory that came with it. -/
abbrev Rel := Value → List HP → Prop
abbrev Fl := List (Nat × Rel)
/-- Under the condition c the slot holds x; else nothing. -/
def FC (c : Prop) (x : Value) : Rel := fun v M => M = [] ∧ (c → v = x) ∧ (¬ c → v = undef)
def ons (o : Oper) : List Nat := (o.after.toList.filter (Region.binds .any)).map (·.on)
def dagB (n : Nat) (ops : Array Oper) : Bool :=
  (List.range ops.size).all fun i =>
    match ops[i]? with
    | none => false
    | some oi =>
      (ons oi).all (fun j => decide (j < i)) &&
      (match oi.dst with | some d => decide (d < n) | none => true) &&
      (List.range ops.size).all fun j =>
        j == i ||
        match ops[j]? with
        | none => false
        | some oj =>
          match oj.dst with
          | none => true
          | some t => oi.dst != some t && (!(oi.looksAt ops).contains t || (if j < i then (ons oi).contains j else (ons oj).contains i))
structure DagOK (n : Nat) (ops : Array Oper) : Prop where
  before : ∀ (i : Nat) (oi : Oper), ops[i]? = some oi → ∀ j, j ∈ ons oi → j < i
  small : ∀ (i : Nat) (oi : Oper) (d : Nat), ops[i]? = some oi → oi.dst = some d → d < n
  uniq : ∀ (i j : Nat) (oi oj : Oper) (t : Nat), i ≠ j → ops[i]? = some oi → ops[j]? = some oj → oj.dst = some t → oi.dst ≠ some t
  look : ∀ (i j : Nat) (oi oj : Oper) (t : Nat), i ≠ j → ops[i]? = some oi → ops[j]? = some oj → oj.dst = some t → t ∈ oi.looksAt ops → (j < i ∧ j ∈ ons oi) ∨ (i < j ∧ i ∈ ons oj)
theorem dagB_ok {n : Nat} {ops : Array Oper} (h : dagB n ops = true) : DagOK n ops := by
  have key : ∀ i oi, ops[i]? = some oi → (ons oi).all (fun j => decide (j < i)) = true ∧ (match oi.dst with | some d => decide (d < n) | none => true) = true ∧
      ∀ j oj, ops[j]? = some oj → j ≠ i → ∀ t, oj.dst = some t → oi.dst ≠ some t ∧ (t ∈ oi.looksAt ops → if j < i then j ∈ ons oi else i ∈ ons oj) := by
    intro i oi hi
    have hlt := (Array.getElem?_eq_some_iff.1 hi).1
    have h1 := List.all_eq_true.1 h i (List.mem_range.2 hlt)
    simp only [hi, Bool.and_eq_true] at h1
    refine ⟨h1.1.1, h1.1.2, fun j oj hj hne t ht => ?_⟩
    have hltj := (Array.getElem?_eq_some_iff.1 hj).1
    have h2 := List.all_eq_true.1 h1.2 j (List.mem_range.2 hltj)
    simp only [hj, ht, Bool.or_eq_true, beq_iff_eq, hne, false_or, Bool.and_eq_true, bne_iff_ne, Bool.not_eq_true', List.contains_eq_mem, decide_eq_false_iff_not] at h2
    refine ⟨h2.1, fun hm => ?_⟩
    have h3 := h2.2.resolve_left (fun h => h hm)
    by_cases hji : j < i
    · rw [if_pos hji] at h3 ⊢; simpa using h3
    · rw [if_neg hji] at h3 ⊢; simpa using h3
  refine ⟨fun i oi hi j hj => ?_, fun i oi d hi hd => ?_, fun i j oi oj t hne hi hj ht => ((key i oi hi).2.2 j oj hj (Ne.symm hne) t ht).1, fun i j oi oj t hne hi hj ht hm => ?_⟩
  · have := List.all_eq_true.1 (key i oi hi).1 j hj; simpa using this
  · have := (key i oi hi).2.1; simp only [hd, decide_eq_true_eq] at this; exact this
  · have := ((key i oi hi).2.2 j oj hj (Ne.symm hne) t ht).2 hm
    split at this
    · exact .inl ⟨‹_›, this⟩
    · exact .inr ⟨by omega, this⟩
/-- What is asked once an operation has been carried out. -/
def Yl (Γ : Cx) (dst : Option Nat) (F : List HP) (R : Rel) : Result Next → Prop
  | .ok (.value v) w' => ∃ Mr, R (dst.elim undef fun _ => v) Mr ∧ Holds Γ.w0 Γ.S0 (Mr ++ F) w'
  | .ok .skip w' => ∃ Mr, R undef Mr ∧ Holds Γ.w0 Γ.S0 (Mr ++ F) w'
  | .ok (.enter f args) w' => Calls Γ.P f args w' fun e w'' => ∃ v Mr, e = .returned v ∧ R (dst.elim undef fun _ => v) Mr ∧ Holds Γ.w0 Γ.S0 (Mr ++ F) w''
  | _ => False
/-- What the slots that an operation looks at hold. -/
def Facts (E : Fl) (ts : List Nat) (F : List HP) (a : Act) : Prop := ∀ t R, t ∈ ts → E.lookup t = some R → ∃ M, R (a.tmps.getD t undef) M ∧ ∀ h, h ∈ M → h ∈ F
def ConsF (E : Fl) (a : Act) : List Nat → List HP → Prop
  | [], Mk => Mk = []
  | t :: ts, Mk => ∃ M Mk', Mk = M ++ Mk' ∧ (∀ R, E.lookup t = some R → R (a.tmps.getD t undef) M) ∧ ConsF E a ts Mk'
/-- A fact whose parts of memory have been taken over. -/
def wk (R : Rel) : Rel := fun v M => M = [] ∧ ∃ M', R v M'
/-- The facts after the slots of `cons` have been taken over: of these, what is known of the values. -/
def dropE (cons : List Nat) : Fl → Fl
  | [] => []
  | (t, R) :: E => match cons.elem t with
    | true => (t, wk R) :: dropE cons E
    | false => (t, R) :: dropE cons E
/-- What is known of a slot whose parts of memory have been taken over. -/
def WkOf (R0 R : Rel) : Prop := ∀ v, (∃ M, R0 v M) → R v []
/-- What is asked of one operation: `cons` are the slots whose parts of memory it takes over. -/
def StepA (Γ : Cx) (ops : Array Oper) (Msh : List HP) (E : Fl) (cons : List Nat) (o : Oper) (Mc : List HP) (Ra : Act → Rel) : Prop :=
  ∀ a w F Mk, a.tmps.size = Γ.n → a.defers = [] → Holds Γ.w0 Γ.S0 (Mc ++ (Mk ++ F)) w → (∀ h, h ∈ Msh → h ∈ F) → Facts (dropE cons E) (o.looksAt ops) F a → ConsF E a cons Mk →
    if Region.wanted o (yielded ops a.tmps) then Yl Γ o.dst F (Ra a) ((execOp a.eval o).run Γ.P w) else Ra a undef (Mc ++ Mk)
abbrev StepOK (Γ : Cx) (ops : Array Oper) (Msh : List HP) (E : Fl) (cons : List Nat) (o : Oper) (Mc : List HP) (R : Rel) : Prop := StepA Γ ops Msh E cons o Mc fun _ => R
/-- An operation without a result may speak of a slot that it takes over. -/
def keyA (d k : Option Nat) (R : Rel) : Act → Rel := fun a v M => match d, k with
  | none, some t => R (a.tmps.getD t undef) M
  | _, _ => R v M
def KeyOK (d : Option Nat) (C : List Nat) (k : Option Nat) (ck : List Nat) : Prop := (k = d ∧ ck = C) ∨ (d = none ∧ ∃ t, C = t :: ck ∧ k = some t)
def pushF (o : Oper) (R : Rel) (E : Fl) : Fl := match o.dst with | some d => (d, R) :: E | none => E
def linB (ops : Array Oper) (o : Oper) (cons : List Nat) : Bool :=
  cons.all fun t => (o.looksAt ops).contains t && ((ops.toList.filter fun o' => (o'.looksAt ops).contains t).length == 1 || (o.dst.isSome && (ops.toList.find? fun o' => (o'.looksAt ops).contains t).bind (·.dst) == o.dst)) && (cons.filter (· == t)).length == 1 && (ons o).any fun j => (ops[j]?).bind (·.dst) == some t
abbrev RKont := List (Option Nat × Rel) → List Nat → List HP → Prop
def DV (Γ : Cx) (ops : Array Oper) (Msh : List HP) : (pool : List HP) → (E : Fl) → (rs : List (Option Nat × Rel)) → (cs : List Nat) → List Oper → (K : RKont) → Prop
  | pool, _, rs, cs, [], K => K rs cs pool
  | pool, E, rs, cs, o :: rest, K => ∃ R Mc pool' cons k ck, List.Perm pool (Mc ++ pool') ∧ linB ops o cons = true ∧ KeyOK o.dst cons k ck ∧ StepA Γ ops Msh E cons o Mc (keyA o.dst k R) ∧ DV Γ ops Msh pool' (pushF o R (dropE cons E)) ((k, R) :: rs) (ck ++ cs) rest K
theorem keyA_self {d : Option Nat} {R : Rel} : keyA d d R = fun _ => R := by
  cases d <;> rfl
theorem DV.mk {Γ : Cx} {ops : Array Oper} {Msh pool : List HP} {E : Fl} {rs : List (Option Nat × Rel)} {cs : List Nat} {o : Oper} {rest : List Oper} {K : RKont} (R : Rel) (Mc pool' : List HP) (cons : List Nat) (h1 : List.Perm pool (Mc ++ pool')) (h2 : linB ops o cons = true)
    (h3 : StepOK Γ ops Msh E cons o Mc R) (h4 : DV Γ ops Msh pool' (pushF o R (dropE cons E)) ((o.dst, R) :: rs) (cons ++ cs) rest K) : DV Γ ops Msh pool E rs cs (o :: rest) K :=
  ⟨R, Mc, pool', cons, o.dst, cons, h1, h2, .inl ⟨rfl, rfl⟩, by rw [keyA_self]; exact h3, h4⟩
theorem DV.mkK {Γ : Cx} {ops : Array Oper} {Msh pool : List HP} {E : Fl} {rs : List (Option Nat × Rel)} {cs : List Nat} {o : Oper} {rest : List Oper} {K : RKont} (R : Rel) (Mc pool' : List HP) (t : Nat) (cons : List Nat) (hd : o.dst = none) (h1 : List.Perm pool (Mc ++ pool')) (h2 : linB ops o (t :: cons) = true)
    (h3 : StepA Γ ops Msh E (t :: cons) o Mc (fun a _ M => R (a.tmps.getD t undef) M)) (h4 : DV Γ ops Msh pool' (dropE (t :: cons) E) ((some t, R) :: rs) (cons ++ cs) rest K) : DV Γ ops Msh pool E rs cs (o :: rest) K :=
  ⟨R, Mc, pool', t :: cons, some t, cons, h1, h2, .inr ⟨hd, t, rfl, rfl⟩, by rw [hd]; exact h3, by unfold pushF; rw [hd]; exact h4⟩
def initE (l : Envl) : Fl := l.map fun p => (p.1, FC True p.2)
theorem lookup_initE (l : Envl) (t : Nat) (R : Rel) (h : (initE l).lookup t = some R) : ∃ v, l.lookup t = some v ∧ R = FC True v := by
  induction l with
  | nil => simp [initE] at h
  | cons p l ih =>
    obtain ⟨s, u⟩ := p
    simp only [initE, List.map_cons, List.lookup_cons] at h ⊢
    cases hs : t == s with
    | true => rw [hs] at h; cases h; exact ⟨_, rfl, rfl⟩
    | false => rw [hs] at h; exact ih h
theorem lookup_dropE (cons : List Nat) (E : Fl) (t : Nat) (R : Rel) (h : (dropE cons E).lookup t = some R) : ∃ R0, E.lookup t = some R0 ∧ ((t ∉ cons ∧ R = R0) ∨ (t ∈ cons ∧ R = wk R0)) := by
  induction E with
  | nil => simp [dropE] at h
  | cons p E ih =>
    obtain ⟨s, u⟩ := p
    simp only [dropE] at h
    simp only [List.lookup_cons]
    cases he : t == s with
    | true =>
      simp only [beq_iff_eq] at he; subst he
      refine ⟨u, rfl, ?_⟩
      split at h
      · rename_i hs
        simp only [List.lookup_cons, beq_self_eq_true] at h
        cases h
        exact .inr ⟨List.mem_of_elem_eq_true hs, rfl⟩
      · rename_i hs
        simp only [List.lookup_cons, beq_self_eq_true] at h
        cases h
        refine .inl ⟨fun hm => ?_, rfl⟩
        rw [List.elem_eq_true_of_mem hm] at hs; cases hs
    | false =>
      refine ih ?_
      split at h <;> (simp only [List.lookup_cons, he] at h; exact h)
def rmN (t : Nat) (ts : List Nat) : List Nat := ts.filter fun x => !(x == t)
theorem mem_rmN {t x : Nat} {ts : List Nat} : x ∈ rmN t ts ↔ x ∈ ts ∧ x ≠ t := by
  unfold rmN; rw [List.mem_filter]; simp
/-- At the end: of the slots that are named, what they hold. -/
def Give (ts : List Nat) (cs : List Nat) : List (Option Nat × Rel) → Envl → List HP → Kont → Prop
  | [], l, M, K => K l M
  | (some t, R) :: rs, l, M, K => match cs.elem t with
    | true => Give ts cs rs l M K
    | false => match ts.elem t with
      | true => ∀ v Mr, R v Mr → Give (rmN t ts) cs rs ((t, v) :: l) (Mr ++ M) K
      | false => Give ts cs rs l M K
  | (none, R) :: rs, l, M, K => ∀ Mr, R undef Mr → Give ts cs rs l (Mr ++ M) K
/-! From a derivation: the relations, what each operation takes, what is left -/
def Efrom (E : Fl) : List Oper → List Rel → List (List Nat) → Nat → Fl
  | o :: os, R :: Rs, C :: Cs, i + 1 => Efrom (pushF o R (dropE C E)) os Rs Cs i
  | _, _, _, _ => E
theorem lookup_pushF {o : Oper} {R R' : Rel} {E : Fl} {t : Nat} (h : (pushF o R E).lookup t = some R') : (o.dst = some t ∧ R' = R) ∨ (o.dst ≠ some t ∧ E.lookup t = some R') := by
  unfold pushF at h
  split at h
  · rename_i d hd
    simp only [List.lookup_cons] at h
    cases he : t == d with
    | true => rw [he] at h; simp only [beq_iff_eq] at he; subst he; cases h; exact .inl ⟨hd, rfl⟩
    | false => rw [he] at h; refine .inr ⟨?_, h⟩; rw [hd]; intro e; cases e; simp at he
  · rename_i hd; exact .inr ⟨(by rw [hd]; intro e; cases e), h⟩
theorem lookup_Efrom : ∀ (os : List Oper) (Rs : List Rel) (Cs : List (List Nat)) (E : Fl) (i t : Nat) (R : Rel), os.length = Rs.length → os.length = Cs.length → i ≤ os.length → (Efrom E os Rs Cs i).lookup t = some R →
    (∃ j o R0, j < i ∧ os[j]? = some o ∧ o.dst = some t ∧ Rs[j]? = some R0 ∧ ((R = R0 ∧ ∀ k C, j < k → k < i → Cs[k]? = some C → t ∉ C) ∨ ((∃ k C, j < k ∧ k < i ∧ Cs[k]? = some C ∧ t ∈ C) ∧ WkOf R0 R))) ∨
      ((∀ j o, j < i → os[j]? = some o → o.dst ≠ some t) ∧ ∃ R0, E.lookup t = some R0 ∧ ((R = R0 ∧ ∀ k C, k < i → Cs[k]? = some C → t ∉ C) ∨ ((∃ k C, k < i ∧ Cs[k]? = some C ∧ t ∈ C) ∧ WkOf R0 R)))
  | _, _, _, E, 0, t, R, _, _, _, h => by
    have : E.lookup t = some R := by simpa [Efrom] using h
    exact .inr ⟨fun j o hj => by omega, R, this, .inl ⟨rfl, fun k C hk => by omega⟩⟩
  | [], _, _, E, i + 1, t, R, _, _, hi, h => by simp at hi
  | o :: os, [], _, E, i + 1, t, R, hl, _, _, _ => by simp at hl
  | o :: os, _, [], E, i + 1, t, R, _, hl, _, _ => by simp at hl
  | o :: os, R0 :: Rs, C :: Cs, E, i + 1, t, R, hl, hl2, hi, h => by
    simp only [Efrom] at h
    rcases lookup_Efrom os Rs Cs _ i t R (by simpa using hl) (by simpa using hl2) (by simpa using hi) h with ⟨j, o', R1, hj, h1, h2, h3, h4⟩ | ⟨h1, R1, h2, h4⟩
    · refine .inl ⟨j + 1, o', R1, by omega, by simpa using h1, h2, by simpa using h3, ?_⟩
      rcases h4 with ⟨h5, h6⟩ | ⟨⟨k, C', h5, h6, h7, h8⟩, h9⟩
      · refine .inl ⟨h5, fun k C' hk hk2 hC => ?_⟩
        obtain ⟨k', rfl⟩ : ∃ k', k = k' + 1 := ⟨k - 1, by omega⟩
        exact h6 k' C' (by omega) (by omega) (by simpa using hC)
      · exact .inr ⟨⟨k + 1, C', by omega, by omega, by simpa using h7, h8⟩, h9⟩
    · rcases lookup_pushF h2 with ⟨h3, h5⟩ | ⟨h3, h5⟩
      · subst h5
        refine .inl ⟨0, o, R1, by omega, by simp, h3, by simp, ?_⟩
        rcases h4 with ⟨h5, h6⟩ | ⟨⟨k, C', h6, h7, h8⟩, h9⟩
        · refine .inl ⟨h5, fun k C' hk hk2 hC => ?_⟩
          obtain ⟨k', rfl⟩ : ∃ k', k = k' + 1 := ⟨k - 1, by omega⟩
          exact h6 k' C' (by omega) (by simpa using hC)
        · exact .inr ⟨⟨k + 1, C', by omega, by omega, by simpa using h7, h8⟩, h9⟩
      · refine .inr ⟨fun j o' hj ho' => ?_, ?_⟩
        · cases j with
          | zero => simp at ho'; subst ho'; exact h3
          | succ j => exact h1 j o' (by omega) (by simpa using ho')
        · obtain ⟨R2, h6, h7⟩ := lookup_dropE _ _ _ _ h5
          refine ⟨R2, h6, ?_⟩
          rcases h7 with ⟨h7, rfl⟩ | ⟨h7, rfl⟩
          · rcases h4 with ⟨h8, h9⟩ | ⟨⟨k, C', h8, h9, h10⟩, h11⟩
            · refine .inl ⟨h8, fun k C' hk hC => ?_⟩
              cases k with
              | zero => simp at hC; subst hC; exact h7
              | succ k => exact h9 k C' (by omega) (by simpa using hC)
            · exact .inr ⟨⟨k + 1, C', by omega, by simpa using h9, h10⟩, h11⟩
          · refine .inr ⟨⟨0, C, by omega, by simp, h7⟩, ?_⟩
            rcases h4 with ⟨rfl, _⟩ | ⟨_, h11⟩
            · exact fun v hv => ⟨rfl, hv⟩
            · exact fun v hv => h11 v ⟨[], rfl, hv⟩
theorem DV_parts {Γ : Cx} {ops : Array Oper} {Msh : List HP} {K : RKont} : ∀ (rest : List Oper) (pool : List HP) (E : Fl) (rs : List (Option Nat × Rel)) (cs : List Nat), DV Γ ops Msh pool E rs cs rest K →
    ∃ (Rs : List Rel) (Mcs : List (List HP)) (Cs : List (List Nat)) (Ks : List (Option Nat)) (CKs : List (List Nat)) (pool' : List HP), Rs.length = rest.length ∧ Mcs.length = rest.length ∧ Cs.length = rest.length ∧ Ks.length = rest.length ∧ CKs.length = rest.length ∧ List.Perm pool (Mcs.flatten ++ pool') ∧
      (∀ i o R Mc C k ck, rest[i]? = some o → Rs[i]? = some R → Mcs[i]? = some Mc → Cs[i]? = some C → Ks[i]? = some k → CKs[i]? = some ck → linB ops o C = true ∧ KeyOK o.dst C k ck ∧ StepA Γ ops Msh (Efrom E rest Rs Cs i) C o Mc (keyA o.dst k R)) ∧
      K ((List.zipWith (fun k R => (k, R)) Ks Rs).reverse ++ rs) (CKs.reverse.flatten ++ cs) pool'
  | [], pool, E, rs, cs, h => ⟨[], [], [], [], [], pool, rfl, rfl, rfl, rfl, rfl, by simp, fun i o R Mc C k ck hi => by simp at hi, by simpa [DV] using h⟩
  | o :: rest, pool, E, rs, cs, h => by
    obtain ⟨R, Mc, pool', C, k, ck, hp, hlin, hk, hs, hd⟩ := h
    obtain ⟨Rs, Mcs, Cs, Ks, CKs, pool'', h1, h2, h2', h2k, h2c, h3, h4, h5⟩ := DV_parts rest pool' _ _ _ hd
    refine ⟨R :: Rs, Mc :: Mcs, C :: Cs, k :: Ks, ck :: CKs, pool'', by simp [h1], by simp [h2], by simp [h2'], by simp [h2k], by simp [h2c], ?_, fun i o' R' Mc' C' k' ck' hi hR hM hC hK hCK => ?_, by simpa using h5⟩
    · simp only [List.flatten_cons, List.append_assoc]
      exact hp.trans (h3.append_left Mc)
    · cases i with
      | zero => simp at hi hR hM hC hK hCK; subst hi; subst hR; subst hM; subst hC; subst hK; subst hCK; exact ⟨hlin, hk, by simpa [Efrom] using hs⟩
      | succ i => simpa [Efrom] using h4 i o' R' Mc' C' k' ck' (by simpa using hi) (by simpa using hR) (by simpa using hM) (by simpa using hC) (by simpa using hK) (by simpa using hCK)
theorem getD_set {listed : Array Bool} {i j : Nat} (d : Bool) (hi : i < listed.size) : (listed.setIfInBounds i true).getD j d = if j = i then true else listed.getD j d := by
  by_cases h : j = i
  · subst h; simp [Array.getD_eq_getD_getElem?, hi]
  · rw [if_neg h, getD_set_ne d (Ne.symm h)]
/-- A list without doubles, taken out of another one. -/
theorem perm_filter_out {α : Type} [DecidableEq α] (A B : List α) (hA : A.Nodup) (hB : B.Nodup) (hs : ∀ x, x ∈ A → x ∈ B) : List.Perm B (A ++ B.filter fun x => !A.elem x) := by
  refine List.perm_iff_count.2 fun x => ?_
  rw [List.count_append]
  by_cases hx : x ∈ A
  · have h1 : List.count x B = 1 := hB.count.trans (by rw [if_pos (hs x hx)])
    have h2 : List.count x A = 1 := hA.count.trans (by rw [if_pos hx])
    have h3 : List.count x (B.filter fun x => !A.elem x) = 0 := List.count_eq_zero.2 fun hm => by
      have := (List.mem_filter.1 hm).2
      rw [List.elem_eq_true_of_mem hx] at this; cases this
    omega
  · have h2 : List.count x A = 0 := List.count_eq_zero.2 hx
    have h3 : List.count x (B.filter fun x => !A.elem x) = List.count x B := by
      rw [List.count_filter]
      have : A.elem x = false := by
        cases he : A.elem x with
        | true => exact (hx (List.mem_of_elem_eq_true he)).elim
        | false => rfl
      rw [this]; rfl
    omega
/-- Has what operation j made been taken over? -/
def czd (ops : Array Oper) (m : Nat) (Cf : Nat → List Nat) (listed : Array Bool) (j : Nat) : Bool :=
  match (ops[j]?).bind (·.dst) with
  | some t => (List.range m).any fun k => listed.getD k false && (Cf k).elem t
  | none => false
/-- What the slot k holds. -/
def kv (a : Act) : Option Nat → Value
  | some d => a.tmps.getD d undef
  | none => undef
theorem keyA_kv {d k : Option Nat} {R : Rel} {a : Act} {v : Value} {M : List HP} (hk : k = d ∨ (d = none ∧ ∃ t, k = some t)) (hd : ∀ t, d = some t → t < a.tmps.size) (h : keyA d k R a (d.elim undef fun _ => v) M) : R (kv (a.put d v) k) M := by
  rcases hk with rfl | ⟨rfl, t, rfl⟩
  · rw [keyA_self] at h
    cases k with
    | none => exact h
    | some t =>
      have := hd t rfl
      simp only [kv, Act.put, Array.getD_eq_getD_getElem?]
      rw [Array.getElem?_setIfInBounds_self_of_lt this]; exact h
  · exact h
structure DInv (Γ : Cx) (ops : Array Oper) (m : Nat) (Msh pool : List HP) (l : Envl) (Rf : Nat → Rel) (Mc : Nat → List HP) (Cf : Nat → List Nat) (Kf : Nat → Option Nat) (fuel : Nat) (listed : Array Bool) (a : Act) (w : World) : Prop where
  lsize : listed.size = ops.size
  count : ((List.range m).filter fun i => !listed.getD i true).length = fuel
  suff : ∀ (j : Nat), m ≤ j → listed.getD j false = false
  size : a.tmps.size = Γ.n
  defers : a.defers = []
  closed : ∀ (i : Nat) (oi : Oper), ops[i]? = some oi → listed.getD i false = true → ∀ j, j ∈ ons oi → listed.getD j false = true
  env : ∀ t v, l.lookup t = some v → (∀ (i : Nat) (oi : Oper), ops[i]? = some oi → listed.getD i false = true → oi.dst ≠ some t) → a.tmps[t]? = some v
  mem : ∃ Mr : Nat → List HP, Holds Γ.w0 Γ.S0 (((List.range m).flatMap fun i => if listed.getD i false then (if czd ops m Cf listed i then [] else Mr i) else Mc i) ++ (Msh ++ pool)) w ∧
    ∀ (i : Nat) (oi : Oper), ops[i]? = some oi → listed.getD i false = true → Rf i (kv a (Kf i)) (Mr i)
/-- What is asked of the slots that are taken over: no operation ahead in the text looks at them. -/
structure LinOK (ops : Array Oper) (m : Nat) (Cf : Nat → List Nat) (Kf : Nat → Option Nat) : Prop where
  look : ∀ (i : Nat) (oi : Oper) (t : Nat), i < m → ops[i]? = some oi → t ∈ Cf i → t ∈ oi.looksAt ops
  first : ∀ (i j : Nat) (oi oj : Oper) (t : Nat), i < m → ops[i]? = some oi → ops[j]? = some oj → t ∈ Cf i → t ∈ oj.looksAt ops → i ≤ j
  nodup : ∀ (i : Nat), i < m → (Cf i).Nodup
  writer : ∀ (i : Nat) (oi : Oper) (t : Nat), i < m → ops[i]? = some oi → t ∈ Cf i → ∃ j, j ∈ ons oi ∧ (ops[j]?).bind (·.dst) = some t
  key : ∀ (i : Nat) (oi : Oper), i < m → ops[i]? = some oi → Kf i = oi.dst ∨ (oi.dst = none ∧ ∃ t, Kf i = some t ∧ t ∈ Cf i)
theorem find_first {α : Type} (p : α → Bool) : ∀ (l : List α) (x : α), l.find? p = some x → ∃ k : Nat, l[k]? = some x ∧ ∀ (j : Nat) (y : α), l[j]? = some y → p y = true → k ≤ j
  | [], x, h => by simp at h
  | a :: l, x, h => by
    cases hp : p a with
    | true => rw [List.find?_cons_of_pos hp] at h; cases h; exact ⟨0, rfl, fun j y _ _ => Nat.zero_le _⟩
    | false =>
      rw [List.find?_cons_of_neg (by simp [hp])] at h
      obtain ⟨k, h1, h2⟩ := find_first p l x h
      refine ⟨k + 1, by simpa using h1, fun j y hj hy => ?_⟩
      cases j with
      | zero => simp at hj; subst hj; rw [hp] at hy; cases hy
      | succ j => exact Nat.succ_le_succ (h2 j y (by simpa using hj) hy)
theorem filter_one {α : Type} (p : α → Bool) : ∀ (l : List α) (i j : Nat) (x y : α), (l.filter p).length = 1 → l[i]? = some x → l[j]? = some y → p x = true → p y = true → j = i
  | [], i, j, x, y, _, hi, _, _, _ => by simp at hi
  | z :: l, 0, 0, x, y, _, _, _, _, _ => rfl
  | z :: l, 0, j + 1, x, y, h, hi, hj, hx, hy => by
    simp at hi hj; subst hi
    rw [List.filter_cons, if_pos hx, List.length_cons] at h
    have : y ∈ l.filter p := List.mem_filter.2 ⟨List.mem_of_getElem? hj, hy⟩
    have h0 : l.filter p = [] := List.eq_nil_of_length_eq_zero (by omega)
    rw [h0] at this; cases this
  | z :: l, i + 1, 0, x, y, h, hi, hj, hx, hy => by
    simp at hi hj; subst hj
    rw [List.filter_cons, if_pos hy, List.length_cons] at h
    have : x ∈ l.filter p := List.mem_filter.2 ⟨List.mem_of_getElem? hi, hx⟩
    have h0 : l.filter p = [] := List.eq_nil_of_length_eq_zero (by omega)
    rw [h0] at this; cases this
  | z :: l, i + 1, j + 1, x, y, h, hi, hj, hx, hy => by
    simp only [List.getElem?_cons_succ] at hi hj
    rw [List.filter_cons] at h
    split at h
    · have : x ∈ l.filter p := List.mem_filter.2 ⟨List.mem_of_getElem? hi, hx⟩
      have h0 : l.filter p = [] := List.eq_nil_of_length_eq_zero (by simpa using h)
      rw [h0] at this; cases this
    · rw [filter_one p l i j x y h hi hj hx hy]
theorem nodup_of_counts (l : List Nat) (h : (l.all fun t => (l.filter (· == t)).length == 1) = true) : l.Nodup := by
  refine List.nodup_iff_count.2 fun t => ?_
  by_cases ht : t ∈ l
  · have := List.all_eq_true.1 h t ht
    simp only [beq_iff_eq] at this
    rw [List.count_eq_length_filter]; omega
  · rw [List.count_eq_zero.2 ht]; omega
theorem linB_ok {n : Nat} {ops : Array Oper} {m : Nat} {Cs : List (List Nat)} {Ks : List (Option Nat)} (hd : DagOK n ops) (hm : m ≤ ops.size) (hC : Cs.length = m) (hK : Ks.length = m) (h : ∀ i o C, i < m → ops[i]? = some o → Cs[i]? = some C → linB ops o C = true)
    (hk : ∀ i o C k, i < m → ops[i]? = some o → Cs[i]? = some C → Ks[i]? = some k → ∃ ck, KeyOK o.dst C k ck) :
    LinOK ops m (fun i => Cs.getD i []) (fun i => Ks.getD i none) := by
  have key : ∀ (i : Nat) (oi : Oper), i < m → ops[i]? = some oi → linB ops oi (Cs.getD i []) = true := fun i oi hi ho => by
    have : Cs[i]? = some Cs[i] := List.getElem?_eq_getElem (by omega)
    have h1 := h i oi _ hi ho this
    simpa [List.getD_eq_getElem?_getD, this] using h1
  refine ⟨fun i oi t hi ho ht => ?_, fun i j oi oj t hi ho hj ht hl => ?_, fun i hi => ?_, fun i oi t hi ho ht => ?_, fun i oi hi ho => ?_⟩
  · have := List.all_eq_true.1 (key i oi hi ho) t ht
    simp only [Bool.and_eq_true, List.contains_eq_mem, decide_eq_true_eq] at this
    exact this.1.1.1
  · have := List.all_eq_true.1 (key i oi hi ho) t ht
    simp only [Bool.and_eq_true, Bool.or_eq_true, List.contains_eq_mem, decide_eq_true_eq, beq_iff_eq] at this
    rcases this.1.1.2 with h1 | ⟨h1, h2⟩
    · exact Nat.le_of_eq (filter_one (fun o' => decide (t ∈ o'.looksAt ops)) ops.toList i j oi oj h1 (by simpa using ho) (by simpa using hj) (by simpa using this.1.1.1) (by simpa using hl)).symm
    · cases hf : ops.toList.find? (fun o' => decide (t ∈ o'.looksAt ops)) with
      | none => rw [hf] at h2; rw [← h2] at h1; cases h1
      | some of =>
        rw [hf] at h2
        obtain ⟨k, h3, h4⟩ := find_first _ _ _ hf
        have h3' : ops[k]? = some of := by simpa using h3
        obtain ⟨d, hdd⟩ := Option.isSome_iff_exists.1 h1
        have hki : k = i := by
          rcases Nat.decEq k i with hne | he
          · exact (hd.uniq k i of oi d hne h3' ho hdd (by rw [← hdd, ← h2]; rfl)).elim
          · exact he
        subst hki
        exact h4 j oj (by simpa using hj) (by simpa using hl)
  · have hlt : i < ops.size := by omega
    have h1 := key i _ hi (Array.getElem?_eq_getElem hlt)
    refine nodup_of_counts _ (List.all_eq_true.2 fun t ht => ?_)
    have := List.all_eq_true.1 h1 t ht
    simp only [Bool.and_eq_true] at this
    exact this.1.2
  · have := List.all_eq_true.1 (key i oi hi ho) t ht
    simp only [Bool.and_eq_true] at this
    obtain ⟨j, h1, h2⟩ := List.any_eq_true.1 this.2
    exact ⟨j, h1, by simpa using h2⟩
  · have e1 : Cs[i]? = some Cs[i] := List.getElem?_eq_getElem (by omega)
    have e2 : Ks[i]? = some Ks[i] := List.getElem?_eq_getElem (by omega)
    obtain ⟨ck, h1⟩ := hk i oi _ _ hi ho e1 e2
    simp only [List.getD_eq_getElem?_getD, e1, e2, Option.getD_some]
    rcases h1 with ⟨h1, _⟩ | ⟨h1, t, h2, h3⟩
    · exact .inl h1
    · exact .inr ⟨h1, t, h3, by rw [h2]; exact List.mem_cons_self ..⟩
theorem elem_iff {t : Nat} {l : List Nat} : l.elem t = true ↔ t ∈ l := ⟨List.mem_of_elem_eq_true, List.elem_eq_true_of_mem⟩
theorem czd_set {ops : Array Oper} {m : Nat} {Cf : Nat → List Nat} {listed : Array Bool} {i j : Nat} (hi : i < listed.size) (him : i < m) :
    czd ops m Cf (listed.setIfInBounds i true) j = (czd ops m Cf listed j || match (ops[j]?).bind (·.dst) with | some t => (Cf i).elem t | none => false) := by
  unfold czd
  cases hj : (ops[j]?).bind (·.dst) with
  | none => rfl
  | some t =>
    simp only []
    rw [Bool.eq_iff_iff]
    simp only [List.any_eq_true, List.mem_range, Bool.and_eq_true, Bool.or_eq_true]
    constructor
    · rintro ⟨k, hk, h1, h2⟩
      rw [getD_set false hi] at h1
      by_cases hki : k = i
      · subst hki; exact .inr h2
      · rw [if_neg hki] at h1; exact .inl ⟨k, hk, h1, h2⟩
    · rintro (⟨k, hk, h1, h2⟩ | h2)
      · refine ⟨k, hk, ?_, h2⟩
        rw [getD_set false hi]; split <;> simp_all
      · exact ⟨i, him, by rw [getD_set false hi, if_pos rfl], h2⟩
/-- The writers of the slots that are taken over. -/
def wrs (ops : Array Oper) (m : Nat) (C : List Nat) : List Nat := C.filterMap fun t => (List.range m).find? fun j => (ops[j]?).bind (·.dst) == some t
theorem mem_wrs {ops : Array Oper} {m : Nat} {C : List Nat} {j : Nat} (h : j ∈ wrs ops m C) : ∃ t, t ∈ C ∧ j < m ∧ (ops[j]?).bind (·.dst) = some t := by
  obtain ⟨t, h1, h2⟩ := List.mem_filterMap.1 h
  have h3 := List.find?_some h2
  have h4 := List.mem_of_find?_eq_some h2
  exact ⟨t, h1, List.mem_range.1 h4, by simpa using h3⟩
theorem wrs_nodup {n : Nat} {ops : Array Oper} {m : Nat} (hd : DagOK n ops) : ∀ (C : List Nat), C.Nodup → (wrs ops m C).Nodup
  | [], _ => by simp [wrs]
  | t :: C, h => by
    obtain ⟨h1, h2⟩ := List.nodup_cons.1 h
    have ih := wrs_nodup (m := m) hd C h2
    unfold wrs at ih ⊢
    rw [List.filterMap_cons]
    split
    · exact ih
    · rename_i j hj
      refine List.nodup_cons.2 ⟨fun hm => ?_, ih⟩
      obtain ⟨t', h3, _, h5⟩ := mem_wrs (ops := ops) (m := m) (C := C) hm
      have h6 := List.find?_some hj
      simp only [beq_iff_eq] at h6
      rw [h5] at h6; cases h6
      exact h1 h3
theorem wrs_covers {n : Nat} {ops : Array Oper} {m : Nat} {C : List Nat} {j t : Nat} {oj : Oper} (hd : DagOK n ops) (hj : j < m) (hoj : ops[j]? = some oj) (hdst : oj.dst = some t) (ht : t ∈ C) : j ∈ wrs ops m C := by
  refine List.mem_filterMap.2 ⟨t, ht, ?_⟩
  cases hf : (List.range m).find? (fun j => (ops[j]?).bind (·.dst) == some t) with
  | none =>
    have := List.find?_eq_none.1 hf j (List.mem_range.2 hj)
    simp [hoj, hdst] at this
  | some k =>
    have h6 := List.find?_some hf
    simp only [beq_iff_eq] at h6
    by_cases hkj : k = j
    · rw [hkj]
    · cases hk : ops[k]? with
      | none => rw [hk] at h6; simp at h6
      | some ok =>
        rw [hk] at h6
        exact (hd.uniq k j ok oj t hkj hk hoj hdst (by simpa using h6)).elim
theorem DInv.step {Γ : Cx} {ops : Array Oper} {m : Nat} {Msh pool : List HP} {l : Envl} {Rf : Nat → Rel} {Mc : Nat → List HP} {Cf : Nat → List Nat} {Kf : Nat → Option Nat} {fuel : Nat} {listed : Array Bool} {a : Act} {w w' : World}
    (hd : DagOK Γ.n ops) (hlin : LinOK ops m Cf Kf) (h : DInv Γ ops m Msh pool l Rf Mc Cf Kf (fuel + 1) listed a w) {i : Nat} {oi : Oper} (hi : ops[i]? = some oi) (him : i < m) (hun : listed.getD i true = false)
    (hall : ∀ j, j ∈ ons oi → listed.getD j false = true) {Mr : Nat → List HP} {v : Value} {Mi : List HP}
    (hM : Holds Γ.w0 Γ.S0 (Mi ++ ((((List.range m).filter fun x => !(i :: wrs ops m (Cf i)).elem x).flatMap fun i => if listed.getD i false then (if czd ops m Cf listed i then [] else Mr i) else Mc i) ++ (Msh ++ pool))) w')
    (hold : ∀ (i : Nat) (oi : Oper), ops[i]? = some oi → listed.getD i false = true → Rf i (kv a (Kf i)) (Mr i))
    (hR : Rf i (kv (a.put oi.dst v) (Kf i)) Mi) : DInv Γ ops m Msh pool l Rf Mc Cf Kf fuel (listed.setIfInBounds i true) (a.put oi.dst v) w' := by
  have hlt : i < ops.size := (Array.getElem?_eq_some_iff.1 hi).1
  have hls : i < listed.size := by rw [h.lsize]; exact hlt
  have hput : ∀ t, oi.dst ≠ some t → (a.put oi.dst v).tmps[t]? = a.tmps[t]? := by
    intro t ht
    cases hdst : oi.dst with
    | none => rfl
    | some d =>
      have : d ≠ t := fun e => ht (by rw [hdst, e])
      simp only [Act.put]
      rw [Array.getElem?_setIfInBounds_ne this]
  have hnotw : i ∉ wrs ops m (Cf i) := fun hm => by
    obtain ⟨t, h1, h2, h3⟩ := mem_wrs hm
    simp only [hi, Option.bind_some] at h3
    obtain ⟨j, h4, h5⟩ := hlin.writer i oi t him hi h1
    have hji := hd.before i oi hi j h4
    cases hj : ops[j]? with
    | none => rw [hj] at h5; simp at h5
    | some oj => rw [hj] at h5; exact hd.uniq i j oi oj t (by omega) hi hj (by simpa using h5) h3
  refine ⟨by simpa using h.lsize, ?_, fun j hj => ?_, ?_, ?_, fun k ok hk hl j hj => ?_, fun t u ht hno => ?_, fun k => if k = i then Mi else Mr k, ?_, fun k ok hk hl => ?_⟩
  · have hc := h.count
    have e : ((List.range m).filter fun j => !(listed.setIfInBounds i true).getD j true) = ((List.range m).filter fun j => !listed.getD j true).erase i := by
      rw [List.Nodup.erase_eq_filter (List.Pairwise.filter _ List.nodup_range), List.filter_filter]
      refine List.filter_congr fun j _ => ?_
      rw [getD_set true hls]
      by_cases hji : j = i <;> simp [hji]
    rw [e, List.length_erase_of_mem (List.mem_filter.2 ⟨List.mem_range.2 him, by rw [hun]; rfl⟩), hc]; rfl
  · rw [getD_set false hls, if_neg (by omega)]; exact h.suff j hj
  · cases oi.dst <;> simp [Act.put, h.size]
  · cases oi.dst <;> simp [Act.put, h.defers]
  · rw [getD_set false hls] at hl
    rw [getD_set false hls]
    split
    · rfl
    · by_cases hki : k = i
      · subst hki; rw [hi] at hk; cases hk; exact hall j hj
      · rw [if_neg hki] at hl; exact h.closed k ok hk hl j hj
  · have hne : oi.dst ≠ some t := hno i oi hi (by rw [getD_set false hls, if_pos rfl])
    rw [hput t hne]
    exact h.env t u ht fun k ok hk hl => hno k ok hk (by rw [getD_set false hls]; split <;> simp_all)
  · refine hM.perm ?_
    rw [← List.append_assoc]
    refine List.Perm.append_right _ ?_
    have hsub : ∀ x, x ∈ (i :: wrs ops m (Cf i)) → x ∈ List.range m := fun x hx => by
      rcases List.mem_cons.1 hx with rfl | hx
      · exact List.mem_range.2 him
      · obtain ⟨t, _, h2, _⟩ := mem_wrs hx; exact List.mem_range.2 h2
    have hp := perm_filter_out (i :: wrs ops m (Cf i)) (List.range m) (List.nodup_cons.2 ⟨hnotw, wrs_nodup hd _ (hlin.nodup i him)⟩) List.nodup_range hsub
    refine List.Perm.symm (((hp.flatMap_right _)).trans ?_)
    rw [List.flatMap_append, List.flatMap_cons]
    have hczi : czd ops m Cf (listed.setIfInBounds i true) i = false := by
      rw [czd_set hls him]
      have h1 : czd ops m Cf listed i = false := by
        unfold czd
        cases hdst : oi.dst with
        | none => simp [hi, hdst]
        | some t =>
          simp only [hi, Option.bind_some, hdst]
          cases ha : (List.range m).any fun k => listed.getD k false && (Cf k).elem t with
          | false => rfl
          | true =>
            obtain ⟨k, hk, h2⟩ := List.any_eq_true.1 ha
            simp only [Bool.and_eq_true] at h2
            have hkm := List.mem_range.1 hk
            have hkl : k < ops.size := by
              rcases Nat.lt_or_ge k ops.size with h3 | h3
              · exact h3
              · have := h2.1; rw [Array.getD_eq_getD_getElem?, Array.getElem?_eq_none (by rw [h.lsize]; exact h3)] at this; cases this
            have hok := Array.getElem?_eq_getElem hkl
            have hlook := hlin.look k _ t hkm hok (elem_iff.1 h2.2)
            have hki : k ≠ i := fun e => by
              subst e
              have := h2.1
              have hks : k < listed.size := hls
              simp [Array.getD_eq_getD_getElem?, hks] at this hun
              rw [this] at hun; cases hun
            have hfi : listed.getD i false = false := by
              simp [Array.getD_eq_getD_getElem?, hls] at hun ⊢; exact hun
            rcases hd.look k i _ oi t hki hok hi hdst hlook with ⟨_, h4⟩ | ⟨h4, h5⟩
            · have := h.closed k _ hok h2.1 i h4
              rw [hfi] at this; cases this
            · obtain ⟨j, h6, h7⟩ := hlin.writer k _ t hkm hok (elem_iff.1 h2.2)
              have hjk := hd.before k _ hok j h6
              cases hj : ops[j]? with
              | none => rw [hj] at h7; simp at h7
              | some oj => rw [hj] at h7; exact (hd.uniq i j oi oj t (by omega) hi hj (by simpa using h7) hdst).elim
      rw [h1, Bool.false_or]
      cases hdst : oi.dst with
      | none => simp [hi, hdst]
      | some t =>
        simp only [hi, Option.bind_some, hdst]
        cases he : (Cf i).elem t with
        | false => rfl
        | true => exact (hnotw (wrs_covers hd him hi hdst (elem_iff.1 he))).elim
    have e0 : (if (listed.setIfInBounds i true).getD i false = true then (if czd ops m Cf (listed.setIfInBounds i true) i = true then [] else (if i = i then Mi else Mr i)) else Mc i) = Mi := by
      rw [getD_set false hls, hczi]; simp
    rw [e0]
    have e1 : ((wrs ops m (Cf i)).flatMap fun x => if (listed.setIfInBounds i true).getD x false = true then (if czd ops m Cf (listed.setIfInBounds i true) x = true then [] else (if x = i then Mi else Mr x)) else Mc x) = [] := by
      refine List.flatMap_eq_nil_iff.2 fun j hj => ?_
      obtain ⟨t, h1, h2, h3⟩ := mem_wrs hj
      obtain ⟨j', h4, h5⟩ := hlin.writer i oi t him hi h1
      have hjj : j = j' := by
        cases hj1 : ops[j]? with
        | none => rw [hj1] at h3; simp at h3
        | some o1 =>
          cases hj2 : ops[j']? with
          | none => rw [hj2] at h5; simp at h5
          | some o2 =>
            rw [hj1] at h3; rw [hj2] at h5
            rcases Nat.decEq j j' with hne | he
            · exact (hd.uniq j j' o1 o2 t hne hj1 hj2 (by simpa using h5) (by simpa using h3)).elim
            · exact he
      subst hjj
      rw [getD_set false hls, czd_set hls him, hall j h4, h3]
      simp only [elem_iff.2 h1, Bool.or_true, if_true]
      split <;> rfl
    rw [e1, List.append_nil]
    refine List.Perm.append_left _ (List.Perm.of_eq ?_)
    rw [List.flatMap_def, List.flatMap_def]
    refine congrArg List.flatten (List.map_congr_left fun k hk => ?_)
    have hk2 := (List.mem_filter.1 hk).2
    have hkm := List.mem_range.1 (List.mem_filter.1 hk).1
    have hknot : k ∉ (i :: wrs ops m (Cf i)) := fun hm => by rw [elem_iff.2 hm] at hk2; cases hk2
    have hki : k ≠ i := fun e => hknot (by rw [e]; exact List.mem_cons_self ..)
    have hkw : k ∉ wrs ops m (Cf i) := fun hm => hknot (List.mem_cons_of_mem _ hm)
    rw [getD_set false hls, czd_set hls him, if_neg hki]
    have e2 : (match (ops[k]?).bind (·.dst) with | some t => (Cf i).elem t | none => false) = false := by
      cases hk3 : ops[k]? with
      | none => rfl
      | some ok =>
        simp only [Option.bind_some]
        cases hdst : ok.dst with
        | none => rfl
        | some t =>
          simp only []
          cases he : (Cf i).elem t with
          | false => rfl
          | true => exact (hkw (wrs_covers hd hkm hk3 hdst (elem_iff.1 he))).elim
    rw [e2, Bool.or_false]
    simp only [if_neg hki]
  · by_cases hki : k = i
    · subst hki; rw [hi] at hk; cases hk
      simp only [if_true]
      exact hR
    · rw [getD_set false hls, if_neg hki] at hl
      have h1 := hold k ok hk hl
      simp only [if_neg hki]
      have hkm : k < m := by
        rcases Nat.lt_or_ge k m with h2 | h2
        · exact h2
        · rw [h.suff k h2] at hl; cases hl
      have hkv : kv (a.put oi.dst v) (Kf k) = kv a (Kf k) := by
        rcases hlin.key k ok hkm hk with hkk | ⟨_, t, hkk, ht⟩
        · rw [hkk]
          cases hdst : ok.dst with
          | none => rfl
          | some t => simp only [kv, Array.getD_eq_getD_getElem?]; rw [hput t (hd.uniq i k oi ok t (Ne.symm hki) hi hk hdst)]
        · rw [hkk]
          simp only [kv, Array.getD_eq_getD_getElem?]
          rw [hput t ?_]
          intro hdst
          obtain ⟨j, h4, h5⟩ := hlin.writer k ok t hkm hk ht
          have hjl := h.closed k ok hk hl j h4
          cases hj : ops[j]? with
          | none => rw [hj] at h5; simp at h5
          | some oj =>
            rw [hj] at h5
            refine hd.uniq i j oi oj t ?_ hi hj (by simpa using h5) hdst
            intro e; subst e
            simp [Array.getD_eq_getD_getElem?, hls] at hun hjl
            rw [hun] at hjl; cases hjl
      rw [hkv]; exact h1
/-- Does operation i wait, in whatever number of steps, for operation j? -/
def needsB (ops : Array Oper) : Nat → Nat → Nat → Bool
  | 0, _, _ => false
  | f + 1, i, j => match ops[i]? with
    | some o => (ons o).contains j || (ons o).any fun k => needsB ops f k j
    | none => false
def sufB (ops : Array Oper) (m : Nat) : Bool := (List.range ops.size).all fun i => decide (i < m) || match ops[i]? with
  | some o => ((List.range i).all fun j => (ons o).contains j) || (decide (m < i) && (ons o).contains (i - 1)) || (i == m && (List.range m).all fun j => needsB ops ops.size m j)
  | none => false
def SufOK (ops : Array Oper) (m i : Nat) (o : Oper) : Prop := (∀ j, j < i → j ∈ ons o) ∨ (m < i ∧ i - 1 ∈ ons o) ∨ (i = m ∧ ∀ j, j < m → needsB ops ops.size m j = true)
theorem sufB_ok {ops : Array Oper} {m : Nat} (h : sufB ops m = true) : ∀ i o, m ≤ i → ops[i]? = some o → SufOK ops m i o := by
  intro i o hi ho
  have := List.all_eq_true.1 h i (List.mem_range.2 (Array.getElem?_eq_some_iff.1 ho).1)
  simp only [Bool.or_eq_true, decide_eq_true_eq, ho] at this
  rcases this.resolve_left (by omega) with (h1 | h1) | h1
  · exact .inl fun j hj => by simpa using List.all_eq_true.1 h1 j (List.mem_range.2 hj)
  · simp only [Bool.and_eq_true, decide_eq_true_eq] at h1
    exact .inr (.inl ⟨h1.1, by simpa using h1.2⟩)
  · simp only [Bool.and_eq_true, beq_iff_eq] at h1
    exact .inr (.inr ⟨h1.1, fun j hj => List.all_eq_true.1 h1.2 j (List.mem_range.2 hj)⟩)
/-- What an operation needs has been carried out where its own wants have. -/
theorem needs_listed {ops : Array Oper} {listed : Array Bool} (hcl : ∀ (i : Nat) (oi : Oper), ops[i]? = some oi → listed.getD i false = true → ∀ j, j ∈ ons oi → listed.getD j false = true) :
    ∀ (f i : Nat) (oi : Oper) (j : Nat), ops[i]? = some oi → (∀ k, k ∈ ons oi → listed.getD k false = true) → needsB ops f i j = true → listed.getD j false = true
  | 0, i, oi, j, _, _, h => by cases h
  | f + 1, i, oi, j, ho, hd, h => by
    simp only [needsB, ho, Bool.or_eq_true, List.any_eq_true] at h
    rcases h with h | ⟨k, hk, h⟩
    · exact hd j (by simpa using h)
    · cases hok : ops[k]? with
      | none => cases f <;> simp [needsB, hok] at h
      | some ok => exact needs_listed hcl f k ok j hok (hcl k ok hok (hd k hk)) h
theorem S_any {P : Program} {ops : Array Oper} {m : Nat} {Q : Exit → Act → World → Prop} (hs : ∀ i o, m ≤ i → ops[i]? = some o → SufOK ops m i o) (hb : ∀ (i : Nat) (oi : Oper), ops[i]? = some oi → ∀ j, j ∈ ons oi → j < i) :
    ∀ (r k : Nat) (listed : Array Bool) (a : Act) (w : World), k + r = ops.size → m ≤ k → listed.size = ops.size → (∀ j, j < ops.size → listed.getD j false = decide (j < k)) → wpList P ops Q (ops.toList.drop k) a w →
      wpAny P .any ops Q r listed a w
  | 0, k, listed, a, w, hk, _, hsz, hl, h => by
    have hd : ops.toList.drop k = [] := List.drop_eq_nil_of_le (by simp; omega)
    rw [hd] at h
    refine ⟨List.eq_nil_iff_forall_not_mem.2 fun j hj => ?_, h⟩
    obtain ⟨h1, oj, h2, _⟩ := mem_ready.1 hj
    have hlt := (Array.getElem?_eq_some_iff.1 h2).1
    have h3 := hl j hlt
    rw [decide_eq_true (by omega)] at h3
    have : j < listed.size := by omega
    simp [Array.getD_eq_getD_getElem?, this] at h1 h3
    rw [h1] at h3; cases h3
  | r + 1, k, listed, a, w, hk, hm, hsz, hl, h => by
    have hklt : k < ops.size := by omega
    have hks : k < listed.size := by omega
    have hun : ∀ j, j < ops.size → listed.getD j true = decide (j < k) := fun j hj => by
      have h3 := hl j hj
      have : j < listed.size := by omega
      simp [Array.getD_eq_getD_getElem?, this] at h3 ⊢
      exact h3
    have hready : k ∈ Region.ready .any ops listed := mem_ready.2 ⟨by rw [hun k hklt]; simp, ops[k], Array.getElem?_eq_getElem hklt, fun e he hbd => by
      have := hb k _ (Array.getElem?_eq_getElem hklt) e.on (List.mem_map.2 ⟨e, List.mem_filter.2 ⟨Array.mem_toList_iff.2 he, hbd⟩, rfl⟩)
      rw [hl e.on (by omega)]; exact decide_eq_true this⟩
    refine ⟨fun hn => (by rw [hn] at hready; cases hready), fun i hi => ?_⟩
    obtain ⟨h1, oi, h2, h3⟩ := mem_ready.1 hi
    have hilt := (Array.getElem?_eq_some_iff.1 h2).1
    have hik : i = k := by
      rw [hun i hilt] at h1
      have h4 : ¬ i < k := by simpa using h1
      rcases Nat.lt_or_ge k i with h5 | h5
      · rcases hs i oi (by omega) h2 with h6 | ⟨h7, h6⟩ | ⟨h7, _⟩
        · obtain ⟨e, he, hek⟩ := List.mem_map.1 (h6 k h5)
          obtain ⟨he1, he2⟩ := List.mem_filter.1 he
          have := h3 e (Array.mem_toList_iff.1 he1) he2
          rw [hek, hl k hklt] at this; simp at this
        · obtain ⟨e, he, hek⟩ := List.mem_map.1 h6
          obtain ⟨he1, he2⟩ := List.mem_filter.1 he
          have := h3 e (Array.mem_toList_iff.1 he1) he2
          rw [hek, hl (i - 1) (by omega)] at this
          have := of_decide_eq_true this
          omega
        · omega
      · omega
    subst hik
    have hcons : ops.toList.drop i = oi :: ops.toList.drop (i + 1) := by
      rw [List.drop_eq_getElem_cons (by simpa using hilt)]
      have : ops.toList[i]'(by simpa using hilt) = oi := by
        have := (Array.getElem?_eq_some_iff.1 h2).2; simpa using this
      rw [this]
    rw [hcons] at h
    have next : ∀ a w, wpList P ops Q (ops.toList.drop (i + 1)) a w → wpAny P .any ops Q r (listed.setIfInBounds i true) a w := fun a w h' =>
      S_any hs hb r (i + 1) _ a w (by omega) (by omega) (by simpa using hsz) (fun j hj => by
        rw [getD_set false hks]
        by_cases hji : j = i
        · subst hji; simp
        · rw [if_neg hji, hl j hj]
          by_cases h7 : j < i
          · rw [decide_eq_true h7, decide_eq_true (by omega)]
          · rw [decide_eq_false h7, decide_eq_false (by omega)]) h'
    unfold wpOp
    rw [h2]
    unfold wpList at h
    dsimp only
    split
    · rename_i hw; rw [if_pos hw] at h; exact h.imp (Oper.wp_mono next) id
    · rename_i hw; rw [if_neg hw] at h; exact next _ _ h
theorem D_any {Γ : Cx} {ops : Array Oper} {m : Nat} {Msh pool' : List HP} {l : Envl} {Rs : List Rel} {Mcs : List (List HP)} {Cs : List (List Nat)} {Ks : List (Option Nat)} {Q : Exit → Act → World → Prop}
    (hd : DagOK Γ.n ops) (hm : m ≤ ops.size) (hR : Rs.length = m) (hMc : Mcs.length = m) (hC : Cs.length = m) (hK : Ks.length = m) (hlin : LinOK ops m (fun i => Cs.getD i []) (fun i => Ks.getD i none))
    (hsuf : ∀ i o, m ≤ i → ops[i]? = some o → SufOK ops m i o)
    (hstep : ∀ i o R Mc C k, (ops.toList.take m)[i]? = some o → Rs[i]? = some R → Mcs[i]? = some Mc → Cs[i]? = some C → Ks[i]? = some k → StepA Γ ops Msh (Efrom (initE l) (ops.toList.take m) Rs Cs i) C o Mc (keyA o.dst k R))
    (hfin : ∀ listed a w, DInv Γ ops m Msh pool' l (fun i => Rs.getD i (fun _ _ => True)) (fun i => Mcs.getD i []) (fun i => Cs.getD i []) (fun i => Ks.getD i none) 0 listed a w → (∀ i, i < m → listed.getD i false = true) → wpList Γ.P ops Q (ops.toList.drop m) a w) :
    ∀ (fuel : Nat) (listed : Array Bool) (a : Act) (w : World), DInv Γ ops m Msh pool' l (fun i => Rs.getD i (fun _ _ => True)) (fun i => Mcs.getD i []) (fun i => Cs.getD i []) (fun i => Ks.getD i none) fuel listed a w →
      wpAny Γ.P .any ops Q (fuel + (ops.size - m)) listed a w
  | 0, listed, a, w, h => by
    have hall : ∀ i, i < m → listed.getD i false = true := by
      intro i hi
      have hsz : i < listed.size := by rw [h.lsize]; omega
      cases hl : listed.getD i false with
      | true => rfl
      | false =>
        have hl' : listed.getD i true = false := by simpa [Array.getD_eq_getD_getElem?, hsz] using hl
        have : i ∈ ((List.range m).filter fun i => !listed.getD i true) := List.mem_filter.2 ⟨List.mem_range.2 hi, by rw [hl']; rfl⟩
        rw [List.eq_nil_of_length_eq_zero h.count] at this; cases this
    rw [Nat.zero_add]
    refine S_any hsuf hd.before _ m listed a w (by omega) (Nat.le_refl _) h.lsize (fun j hj => ?_) (hfin listed a w h hall)
    by_cases hjm : j < m
    · rw [hall j hjm, decide_eq_true hjm]
    · rw [h.suff j (by omega), decide_eq_false hjm]
  | fuel + 1, listed, a, w, h => by
    have hget : ∀ i oi, ops[i]? = some oi → listed.getD i true = listed.getD i false := fun i oi hi => by
      have : i < listed.size := by rw [h.lsize]; exact (Array.getElem?_eq_some_iff.1 hi).1
      simp [Array.getD_eq_getD_getElem?, this]
    have hne : ((List.range m).filter fun i => !listed.getD i true) ≠ [] := fun e => by have := h.count; rw [e] at this; simp at this
    obtain ⟨i0, hi0⟩ := List.exists_mem_of_ne_nil _ hne
    obtain ⟨hi0m, hi0u⟩ := List.mem_filter.1 hi0
    have hi0m := List.mem_range.1 hi0m
    rw [show fuel + 1 + (ops.size - m) = (fuel + (ops.size - m)) + 1 by omega]
    refine ⟨fun hnone => ?_, fun i hi => ?_⟩
    · exfalso
      have key : ∀ k i, i ≤ k → ∀ oi, ops[i]? = some oi → listed.getD i true = false → False := by
        intro k
        induction k with
        | zero =>
          intro i hik oi hi hun
          have : i ∈ Region.ready .any ops listed := mem_ready.2 ⟨hun, oi, hi, fun e he hb => by
            have := hd.before i oi hi e.on (List.mem_map.2 ⟨e, List.mem_filter.2 ⟨Array.mem_toList_iff.2 he, hb⟩, rfl⟩)
            omega⟩
          rw [hnone] at this; cases this
        | succ k ih =>
          intro i hik oi hi hun
          have : i ∈ Region.ready .any ops listed := mem_ready.2 ⟨hun, oi, hi, fun e he hb => by
            have hlt := hd.before i oi hi e.on (List.mem_map.2 ⟨e, List.mem_filter.2 ⟨Array.mem_toList_iff.2 he, hb⟩, rfl⟩)
            have hlts : e.on < ops.size := Nat.lt_trans hlt (Array.getElem?_eq_some_iff.1 hi).1
            cases hl : listed.getD e.on false with
            | true => rfl
            | false =>
              exact (ih e.on (by omega) ops[e.on] (Array.getElem?_eq_getElem hlts) (by rw [hget e.on _ (Array.getElem?_eq_getElem hlts)]; exact hl)).elim⟩
          rw [hnone] at this; cases this
      exact key i0 i0 (Nat.le_refl _) _ (Array.getElem?_eq_getElem (Nat.lt_of_lt_of_le hi0m hm)) (by simpa using hi0u)
    · obtain ⟨hun, oi, hoi, hall⟩ := mem_ready.1 hi
      have hlt : i < ops.size := (Array.getElem?_eq_some_iff.1 hoi).1
      have hall' : ∀ j, j ∈ ons oi → listed.getD j false = true := fun j hj => by
        obtain ⟨e, he, rfl⟩ := List.mem_map.1 hj
        obtain ⟨he1, he2⟩ := List.mem_filter.1 he
        exact hall e (Array.mem_toList_iff.1 he1) he2
      have him : i < m := by
        rcases Nat.lt_or_ge i m with h1 | h1
        · exact h1
        · rcases hsuf i oi h1 hoi with h5 | ⟨h6, h5⟩ | ⟨h6, h5⟩
          · have h2 := hall' i0 (h5 i0 (by omega))
            have h3 : listed.getD i0 true = false := by simpa using hi0u
            rw [hget i0 _ (Array.getElem?_eq_getElem (Nat.lt_of_lt_of_le hi0m hm)), h2] at h3; cases h3
          · have h2 := hall' _ h5
            rw [h.suff (i - 1) (by omega)] at h2; cases h2
          · subst h6
            have h2 := needs_listed h.closed ops.size i oi i0 hoi hall' (h5 i0 hi0m)
            have h3 : listed.getD i0 true = false := by simpa using hi0u
            rw [hget i0 _ (Array.getElem?_eq_getElem (Nat.lt_of_lt_of_le hi0m hm)), h2] at h3; cases h3
      obtain ⟨Mr, hM, hold⟩ := h.mem
      have hRi : Rs[i]? = some Rs[i] := List.getElem?_eq_getElem (by omega)
      have hMi : Mcs[i]? = some Mcs[i] := List.getElem?_eq_getElem (by omega)
      have hCi : Cs[i]? = some Cs[i] := List.getElem?_eq_getElem (by omega)
      have hKi : Ks[i]? = some Ks[i] := List.getElem?_eq_getElem (by omega)
      have eK : Ks.getD i none = Ks[i] := by simp [List.getD_eq_getElem?_getD, hKi]
      have hst := hstep i oi _ _ _ _ (by rw [List.getElem?_take, if_pos him]; simpa using hoi) hRi hMi hCi hKi
      have hlf : listed.getD i false = false := by rw [← hget i oi hoi]; exact hun
      have eC : Cs.getD i [] = Cs[i] := by simp [List.getD_eq_getElem?_getD, hCi]
      have eMc : Mcs.getD i [] = Mcs[i] := by simp [List.getD_eq_getElem?_getD, hMi]
      have eR : Rs.getD i (fun _ _ => True) = Rs[i] := by simp [List.getD_eq_getElem?_getD, hRi]
      have hnd : (Cs[i]).Nodup := by have := hlin.nodup i him; rw [eC] at this; exact this
      have hnotw : i ∉ wrs ops m Cs[i] := fun hmm => by
        obtain ⟨t, h1, h2, h3⟩ := mem_wrs hmm
        simp only [hoi, Option.bind_some] at h3
        obtain ⟨j, h4, h5⟩ := hlin.writer i oi t him hoi (by rw [eC]; exact h1)
        have hji := hd.before i oi hoi j h4
        cases hj : ops[j]? with
        | none => rw [hj] at h5; simp at h5
        | some oj => rw [hj] at h5; exact hd.uniq i j oi oj t (by omega) hoi hj (by simpa using h5) h3
      have hsub : ∀ x, x ∈ (i :: wrs ops m Cs[i]) → x ∈ List.range m := fun x hx => by
        rcases List.mem_cons.1 hx with rfl | hx
        · exact List.mem_range.2 him
        · obtain ⟨t, _, h2, _⟩ := mem_wrs hx; exact List.mem_range.2 h2
      have hp := perm_filter_out (i :: wrs ops m Cs[i]) (List.range m) (List.nodup_cons.2 ⟨hnotw, wrs_nodup hd _ hnd⟩) List.nodup_range hsub
      -- what the writers of the consumed slots have made is still there
      have hwr : ∀ t j, t ∈ Cs[i] → j < m → (ops[j]?).bind (·.dst) = some t → listed.getD j false = true ∧ czd ops m (fun i => Cs.getD i []) listed j = false ∧ t ∈ oi.looksAt ops := by
        intro t j ht hj hjt
        have hlook := hlin.look i oi t him hoi (by rw [eC]; exact ht)
        obtain ⟨j', h4, h5⟩ := hlin.writer i oi t him hoi (by rw [eC]; exact ht)
        have hjj : j' = j := by
          cases hj1 : ops[j]? with
          | none => rw [hj1] at hjt; simp at hjt
          | some o1 =>
            cases hj2 : ops[j']? with
            | none => rw [hj2] at h5; simp at h5
            | some o2 =>
              rw [hj1] at hjt; rw [hj2] at h5
              rcases Nat.decEq j' j with hne | he
              · exact (hd.uniq j' j o2 o1 t hne hj2 hj1 (by simpa using hjt) (by simpa using h5)).elim
              · exact he
        subst hjj
        refine ⟨hall' _ h4, ?_, hlook⟩
        unfold czd
        rw [hjt]
        simp only []
        cases ha : (List.range m).any fun k => listed.getD k false && (Cs.getD k []).elem t with
        | false => rfl
        | true =>
          obtain ⟨k, hk, h2⟩ := List.any_eq_true.1 ha
          simp only [Bool.and_eq_true] at h2
          have hkm := List.mem_range.1 hk
          have hok := Array.getElem?_eq_getElem (Nat.lt_of_lt_of_le hkm hm)
          have hik := Nat.le_antisymm (hlin.first k i _ oi t hkm hok hoi (elem_iff.1 h2.2) hlook) (hlin.first i k oi _ t him hoi hok (by rw [eC]; exact ht) (hlin.look k _ t hkm hok (elem_iff.1 h2.2)))
          subst hik
          rw [h2.1] at hlf; cases hlf
      have hM' := hM.perm (List.Perm.append_right _ (hp.flatMap_right _))
      rw [List.cons_append, List.flatMap_cons, if_neg (by rw [hlf]; simp), eMc, List.flatMap_append, List.append_assoc, List.append_assoc] at hM'
      have hcons : ∀ C, (∀ t, t ∈ C → t ∈ Cs[i]) → ConsF (Efrom (initE l) (ops.toList.take m) Rs Cs i) a C ((wrs ops m C).flatMap fun i => if listed.getD i false then (if czd ops m (fun i => Cs.getD i []) listed i then [] else Mr i) else Mcs.getD i []) := by
        intro C
        induction C with
        | nil => intro _; simp [ConsF, wrs]
        | cons t C ih =>
          intro hC
          have ih' := ih (fun t ht => hC t (List.mem_cons_of_mem _ ht))
          have ht := hC t (List.mem_cons_self ..)
          obtain ⟨j', h4, h5⟩ := hlin.writer i oi t him hoi (by rw [eC]; exact ht)
          have hj'm : j' < m := Nat.lt_trans (hd.before i oi hoi j' h4) him
          unfold wrs at ih' ⊢
          rw [List.filterMap_cons]
          cases hf : (List.range m).find? (fun j => (ops[j]?).bind (·.dst) == some t) with
          | none =>
            have := List.find?_eq_none.1 hf j' (List.mem_range.2 hj'm)
            rw [h5] at this; simp at this
          | some j =>
            have h6 := List.find?_some hf
            simp only [beq_iff_eq] at h6
            have hjm := List.mem_range.1 (List.mem_of_find?_eq_some hf)
            obtain ⟨h7, h8, h9⟩ := hwr t j ht hjm h6
            simp only []
            rw [List.flatMap_cons, if_pos h7, h8]
            refine ⟨Mr j, _, rfl, fun R' hlk => ?_, ih'⟩
            cases hoj : ops[j]? with
            | none => rw [hoj] at h6; simp at h6
            | some oj =>
              rw [hoj] at h6
              have hdst : oj.dst = some t := by simpa using h6
              have h10 := hold j oj hoj h7
              rcases lookup_Efrom _ _ _ _ _ _ _ (by simp; omega) (by simp; omega) (by simp; omega) hlk with ⟨k, ok, R0, hki, hok, hdk, hRk, hcc⟩ | ⟨hno, _⟩
              · rw [List.getElem?_take, if_pos (by omega)] at hok
                have hok' : ops[k]? = some ok := by simpa using hok
                have hkj : k = j := by
                  rcases Nat.decEq k j with hne | he
                  · exact (hd.uniq k j ok oj t hne hok' hoj hdst hdk).elim
                  · exact he
                subst hkj
                rcases hcc with ⟨rfl, _⟩ | ⟨⟨k2, C2, h11, h12, h13, h14⟩, _⟩
                · have hkk : Ks.getD k none = some t := by
                    rcases hlin.key k ok (by omega) hok' with h15 | ⟨h15, _⟩
                    · rw [← hdk]; exact h15
                    · rw [hdk] at h15; cases h15
                  simp only [hkk, kv, List.getD_eq_getElem?_getD, hRk, Option.getD_some] at h10
                  exact h10
                · exfalso
                  have h15 := hlin.first i k2 oi _ t him hoi (Array.getElem?_eq_getElem (by omega)) (by rw [eC]; exact ht) (hlin.look k2 _ t (by omega) (Array.getElem?_eq_getElem (by omega)) (by simpa [List.getD_eq_getElem?_getD, h13] using h14))
                  omega
              · exfalso
                obtain ⟨j2, h11, h12⟩ := hlin.writer i oi t him hoi (by rw [eC]; exact ht)
                have hlt2 := hd.before i oi hoi j2 h11
                cases hj2 : ops[j2]? with
                | none => rw [hj2] at h12; simp at h12
                | some o2 =>
                  rw [hj2] at h12
                  exact hno j2 o2 hlt2 (by rw [List.getElem?_take, if_pos (by omega)]; simpa using hj2) (by simpa using h12)
      have hfacts : Facts (dropE Cs[i] (Efrom (initE l) (ops.toList.take m) Rs Cs i)) (oi.looksAt ops) ((((List.range m).filter fun x => !(i :: wrs ops m Cs[i]).elem x).flatMap fun i => if listed.getD i false then (if czd ops m (fun i => Cs.getD i []) listed i then [] else Mr i) else Mcs.getD i []) ++ (Msh ++ pool')) a := by
        intro t R' ht hlk0
        obtain ⟨R1, hlk, hdr⟩ := lookup_dropE _ _ _ _ hlk0
        rcases lookup_Efrom _ _ _ _ _ _ _ (by simp; omega) (by simp; omega) (by simp; omega) hlk with ⟨j, oj, R0, hji, hoj, hdj, hRj, hcc⟩ | ⟨hno, R0, hlk', hcc⟩
        · rw [List.getElem?_take, if_pos (by omega)] at hoj
          have hoj' : ops[j]? = some oj := by simpa using hoj
          have hjl : listed.getD j false = true := by
            rcases hd.look i j oi oj t (by omega) hoi hoj' hdj ht with ⟨_, hmm⟩ | ⟨h3, _⟩
            · exact hall' j hmm
            · omega
          have h4 := hold j oj hoj' hjl
          have hkk : Ks.getD j none = some t := by
            rcases hlin.key j oj (by omega) hoj' with h15 | ⟨h15, _⟩
            · rw [← hdj]; exact h15
            · rw [hdj] at h15; cases h15
          simp only [hkk, kv, List.getD_eq_getElem?_getD, hRj, Option.getD_some] at h4
          have weak : R' (a.tmps.getD t undef) [] ∨ (R' = R0 ∧ t ∉ Cs[i] ∧ ∀ k C, j < k → k < i → Cs[k]? = some C → t ∉ C) := by
            rcases hcc with ⟨rfl, h5⟩ | ⟨_, h5⟩
            · rcases hdr with ⟨h6, rfl⟩ | ⟨h6, rfl⟩
              · exact .inr ⟨rfl, h6, h5⟩
              · exact .inl ⟨rfl, _, h4⟩
            · have h7 := h5 _ ⟨_, h4⟩
              rcases hdr with ⟨h6, rfl⟩ | ⟨h6, rfl⟩
              · exact .inl h7
              · exact .inl ⟨rfl, _, h7⟩
          rcases weak with hwk | ⟨rfl, hnc, hncs⟩
          · exact ⟨[], hwk, fun x hx => by cases hx⟩
          have hczd : czd ops m (fun i => Cs.getD i []) listed j = false := by
            unfold czd
            rw [hoj']
            simp only [Option.bind_some, hdj]
            cases ha : (List.range m).any fun k => listed.getD k false && (Cs.getD k []).elem t with
            | false => rfl
            | true =>
              obtain ⟨k, hk, h2⟩ := List.any_eq_true.1 ha
              simp only [Bool.and_eq_true] at h2
              have hkm := List.mem_range.1 hk
              have hok := Array.getElem?_eq_getElem (Nat.lt_of_lt_of_le hkm hm)
              have hik := hlin.first k i _ oi t hkm hok hoi (elem_iff.1 h2.2) ht
              have hki : k ≠ i := fun e => by subst e; rw [h2.1] at hlf; cases hlf
              obtain ⟨j', h6, h7⟩ := hlin.writer k _ t hkm hok (elem_iff.1 h2.2)
              have hjk := hd.before k _ hok j' h6
              have hjj : j' = j := by
                cases hj1 : ops[j']? with
                | none => rw [hj1] at h7; simp at h7
                | some o1 =>
                  rw [hj1] at h7
                  rcases Nat.decEq j' j with hne | he
                  · exact (hd.uniq j' j o1 oj t hne hj1 hoj' hdj (by simpa using h7)).elim
                  · exact he
              have hCk : Cs[k]? = some Cs[k] := List.getElem?_eq_getElem (by omega)
              have h8 := elem_iff.1 h2.2
              rw [List.getD_eq_getElem?_getD, hCk] at h8
              exact (hncs k _ (by omega) (by omega) hCk h8).elim
          refine ⟨Mr j, h4, fun x hx => List.mem_append_left _ (List.mem_flatMap.2 ⟨j, ?_, ?_⟩)⟩
          · refine List.mem_filter.2 ⟨List.mem_range.2 (by omega), ?_⟩
            cases he : (i :: wrs ops m Cs[i]).elem j with
            | false => rfl
            | true =>
              rcases List.mem_cons.1 (elem_iff.1 he) with h5 | h5
              · omega
              · obtain ⟨t', h6, _, h7⟩ := mem_wrs h5
                rw [hoj'] at h7
                simp only [Option.bind_some, hdj] at h7
                cases h7; exact (hnc h6).elim
          · rw [hjl, hczd]; exact hx
        · obtain ⟨v, hv, rfl⟩ := lookup_initE _ _ _ hlk'
          have h5 := h.env t v hv (fun k ok hk hkl hkd => by
            have hkm : k < m := by
              rcases Nat.lt_or_ge k m with h1 | h1
              · exact h1
              · rw [h.suff k h1] at hkl; cases hkl
            by_cases hki : k = i
            · subst hki; rw [hlf] at hkl; cases hkl
            · rcases hd.look i k oi ok t (Ne.symm hki) hoi hk hkd ht with ⟨h6, _⟩ | ⟨_, h7⟩
              · exact hno k ok h6 (by rw [List.getElem?_take, if_pos hkm]; simpa using hk) hkd
              · have := h.closed k ok hk hkl i h7
                rw [hlf] at this; cases this)
          have h6 : FC True v (a.tmps.getD t undef) [] := ⟨rfl, fun _ => by simp [Array.getD_eq_getD_getElem?, h5], fun hn => (hn trivial).elim⟩
          have h7 : R1 (a.tmps.getD t undef) [] := by
            rcases hcc with ⟨rfl, _⟩ | ⟨_, h8⟩
            · exact h6
            · exact h8 _ ⟨_, h6⟩
          refine ⟨[], ?_, fun x hx => by cases hx⟩
          rcases hdr with ⟨_, rfl⟩ | ⟨_, rfl⟩
          · exact h7
          · exact ⟨rfl, _, h7⟩
      have hstA := hst a w _ _ h.size h.defers hM' (fun x hx => List.mem_append_right _ (List.mem_append_left _ hx)) hfacts (hcons Cs[i] (fun _ h => h))
      have eU : (oi.dst.elim undef fun _ => undef) = undef := by cases oi.dst <;> rfl
      have next : ∀ (v : Value) (w' : World) (Mi : List HP), keyA oi.dst Ks[i] Rs[i] a (oi.dst.elim undef fun _ => v) Mi →
          Holds Γ.w0 Γ.S0 (Mi ++ ((((List.range m).filter fun x => !(i :: wrs ops m Cs[i]).elem x).flatMap fun i => if listed.getD i false then (if czd ops m (fun i => Cs.getD i []) listed i then [] else Mr i) else Mcs.getD i []) ++ (Msh ++ pool'))) w' →
          wpAny Γ.P .any ops Q (fuel + (ops.size - m)) (listed.setIfInBounds i true) (a.put oi.dst v) w' := fun v w' Mi hr hh =>
        D_any hd hm hR hMc hC hK hlin hsuf hstep hfin fuel _ _ _ (DInv.step hd hlin h hoi him hun hall' (by rw [eC]; exact hh) hold (by
          rw [eR, eK]
          refine keyA_kv ?_ (fun t ht => by rw [h.size]; exact hd.small i oi t hoi ht) hr
          rcases hlin.key i oi him hoi with h1 | ⟨h1, t, h2, _⟩
          · rw [eK] at h1; exact .inl h1
          · rw [eK] at h2; exact .inr ⟨h1, t, h2⟩))
      unfold wpOp
      rw [hoi]
      dsimp only
      split
      · rename_i hwt
        rw [if_pos hwt] at hstA
        refine .inl ?_
        unfold Oper.wp
        generalize (execOp a.eval oi).run Γ.P w = r at hstA ⊢
        cases r with
        | ok n w' =>
          cases n <;> first
            | exact hstA.elim
            | (obtain ⟨Mi, h1, h2⟩ := hstA; exact next _ _ _ h1 h2)
            | (obtain ⟨Mi, h1, h2⟩ := hstA; exact next undef _ _ (by rw [eU]; exact h1) h2)
            | (exact hstA.mono fun e w'' ⟨v, Mi, he, h1, h2⟩ => by subst he; exact next _ _ _ h1 h2)
        | halt x w' => exact hstA.elim
      · rename_i hwt
        rw [if_neg hwt] at hstA
        refine next undef w _ (by rw [eU]; exact hstA) ?_
        rw [List.append_assoc]; exact hM'
/-- What Give_use asks of the parts of memory. -/
def GiveH (a : Act) (ts cs : List Nat) (rs : List (Option Nat × Rel)) (Mr : List (List HP)) : Prop := ∀ (i : Nat) (d : Option Nat) (R : Rel) (m : List HP), rs[i]? = some (d, R) → Mr[i]? = some m →
      (d = none → R undef m) ∧ (∀ t, d = some t → t ∈ cs → m = []) ∧ (∀ t, d = some t → t ∉ cs → t ∈ ts → (∀ i', i' < i → ∀ R', rs[i']? ≠ some (some t, R')) → R (a.tmps.getD t undef) m)
theorem GiveH.tail {a : Act} {ts ts' cs : List Nat} {d : Option Nat} {R : Rel} {rs : List (Option Nat × Rel)} {m : List HP} {Mr : List (List HP)} (h : GiveH a ts cs ((d, R) :: rs) (m :: Mr)) (hs : ∀ t, t ∉ cs → t ∈ ts' → t ∈ ts ∧ d ≠ some t) : GiveH a ts' cs rs Mr := by
  intro i d' R' m' hi hm
  obtain ⟨h1, h2, h3⟩ := h (i + 1) d' R' m' (by simpa using hi) (by simpa using hm)
  refine ⟨h1, h2, fun t ht hc hts hno => h3 t ht hc (hs t hc hts).1 fun i' hi' R2 he => ?_⟩
  cases i' with
  | zero => simp at he; exact (hs t hc hts).2 he.1
  | succ i' => exact hno i' (by omega) R2 (by simpa using he)
theorem Give_use (n : Nat) {cs : List Nat} {K : Kont} {a : Act} {w : World} {w0 : World} {S0 : List Nat} (hs : a.tmps.size = n) (hdf : a.defers = []) : ∀ (rs : List (Option Nat × Rel)) (ts : List Nat) (l : Envl) (M : List HP), Give ts cs rs l M K →
    (∀ t v, l.lookup t = some v → (∀ R, (some t, R) ∈ rs → t ∉ ts ∨ t ∈ cs) → a.tmps[t]? = some v) →
    (∀ t R, (some t, R) ∈ rs → t < n) →
    (∃ Mr : List (List HP), Mr.length = rs.length ∧ Holds w0 S0 (Mr.flatten ++ M) w ∧ GiveH a ts cs rs Mr) →
    ∃ l' M', Env a n l' ∧ Holds w0 S0 M' w ∧ K l' M'
  | [], ts, l, M, h, hl, _, ⟨Mr, h1, h2, _⟩ => by
    have : Mr = [] := List.eq_nil_of_length_eq_zero (by simpa using h1)
    subst this
    exact ⟨l, M, ⟨hs, hdf, fun t v ht => hl t v ht (by simp)⟩, by simpa using h2, h⟩
  | (none, R) :: rs, ts, l, M, h, hl, hn, ⟨Mr, h1, h2, h3⟩ => by
    cases Mr with
    | nil => simp at h1
    | cons m Mr =>
      have hR := (h3 0 none R m (by simp) (by simp)).1 rfl
      refine Give_use n hs hdf rs ts l (m ++ M) (h m hR) (fun t v ht hno => hl t v ht fun R' hm => ?_) (fun t R' hm => hn t R' (List.mem_cons_of_mem _ hm)) ⟨Mr, by simpa using h1, ?_, h3.tail fun t _ ht => ⟨ht, fun e => by cases e⟩⟩
      · rcases List.mem_cons.1 hm with h4 | h4
        · cases h4
        · exact hno R' h4
      · refine h2.perm ?_
        simp only [List.flatten_cons, List.append_assoc]
        rw [← List.append_assoc, ← List.append_assoc]
        exact List.Perm.append_right _ List.perm_append_comm
  | (some t, R) :: rs, ts, l, M, h, hl, hn, ⟨Mr, h1, h2, h3⟩ => by
    cases Mr with
    | nil => simp at h1
    | cons m Mr =>
      have h30 := h3 0 (some t) R m (by simp) (by simp)
      have htn := hn t R (by simp)
      have hget : a.tmps[t]? = some (a.tmps.getD t undef) := by
        have hlt : t < a.tmps.size := by rw [hs]; exact htn
        simp [Array.getD_eq_getD_getElem?, Array.getElem?_eq_getElem hlt]
      have hrest : List.Perm (((m :: Mr) : List (List HP)).flatten ++ M) ((Mr.flatten ++ M) ++ m) := by
        simp only [List.flatten_cons, List.append_assoc]
        exact List.perm_append_comm.trans (by simp)
      cases hce : cs.elem t with
      | true =>
        have htc := elem_iff.1 hce
        have h' : Give ts cs rs l M K := by simp only [Give, hce] at h; exact h
        refine Give_use n hs hdf rs ts l M h' (fun t' v ht hno => hl t' v ht fun R' hm => ?_) (fun t R' hm => hn t R' (List.mem_cons_of_mem _ hm)) ⟨Mr, by simpa using h1, h2.sub ⟨m, hrest⟩, h3.tail fun t' hc ht => ⟨ht, fun e => by cases e; exact hc htc⟩⟩
        rcases List.mem_cons.1 hm with h4 | h4
        · cases h4; exact .inr htc
        · exact hno R' h4
      | false =>
        have hnc : t ∉ cs := fun hm => by rw [elem_iff.2 hm] at hce; cases hce
        cases hte : ts.elem t with
        | true =>
          have hR := h30.2.2 t rfl hnc (elem_iff.1 hte) (fun i' hi' => by omega)
          have h' : ∀ v Mr, R v Mr → Give (rmN t ts) cs rs ((t, v) :: l) (Mr ++ M) K := by simp only [Give, hte, hce] at h; exact h
          refine Give_use n hs hdf rs _ _ (m ++ M) (h' _ m hR) (fun t' v ht hno => ?_) (fun t R' hm => hn t R' (List.mem_cons_of_mem _ hm)) ⟨Mr, by simpa using h1, ?_, h3.tail fun t' _ ht => ⟨(mem_rmN.1 ht).1, fun e => by cases e; exact (mem_rmN.1 ht).2 rfl⟩⟩
          · simp only [List.lookup_cons] at ht
            cases he : t' == t with
            | true =>
              rw [he] at ht
              simp only [beq_iff_eq] at he; subst he
              cases ht
              exact hget
            | false =>
              rw [he] at ht
              have hne : t' ≠ t := fun e => by subst e; simp at he
              refine hl t' v ht fun R' hm => ?_
              rcases List.mem_cons.1 hm with h4 | h4
              · cases h4; exact (hne rfl).elim
              · rcases hno R' h4 with h5 | h5
                · exact .inl fun h6 => h5 (mem_rmN.2 ⟨h6, hne⟩)
                · exact .inr h5
          · refine h2.perm ?_
            simp only [List.flatten_cons, List.append_assoc]
            rw [← List.append_assoc, ← List.append_assoc]
            exact List.Perm.append_right _ List.perm_append_comm
        | false =>
          have hnt : t ∉ ts := fun hmem => by rw [elem_iff.2 hmem] at hte; cases hte
          have h' : Give ts cs rs l M K := by simp only [Give, hte, hce] at h; exact h
          refine Give_use n hs hdf rs ts l M h' (fun t' v ht hno => hl t' v ht fun R' hm => ?_) (fun t R' hm => hn t R' (List.mem_cons_of_mem _ hm)) ⟨Mr, by simpa using h1, h2.sub ⟨m, hrest⟩, h3.tail fun t' _ ht => ⟨ht, fun e => by cases e; exact hnt ht⟩⟩
          rcases List.mem_cons.1 hm with h4 | h4
          · cases h4; exact .inl hnt
          · exact hno R' h4
theorem D_lex {P : Program} {n : Nat} {ops : Array Oper} {Q : Exit → Act → World → Prop} (hd : DagOK n ops) : ∀ (m k : Nat) (listed : Array Bool) (a : Act) (w : World), k + m = ops.size → listed.size = ops.size →
    (∀ j, j < ops.size → listed.getD j false = decide (j < k)) → wpAny P .any ops Q m listed a w → wpOps P ops Q (List.range' k m) a w
  | 0, k, listed, a, w, _, _, _, h => by simpa [wpOps] using h.2
  | m + 1, k, listed, a, w, hk, hs, hl, h => by
    rw [List.range'_succ, wpOps_cons]
    have hlt : k < ops.size := by omega
    have hk1 : listed.getD k true = false := by
      have := hl k hlt
      have hks : k < listed.size := by omega
      simp [Array.getD_eq_getD_getElem?, hks] at this ⊢
      exact this
    refine wpOp_mono (fun a w h' => D_lex hd m (k + 1) _ a w (by omega) (by simpa using hs) (fun j hj => ?_) h') (h.2 k (mem_ready.2 ⟨hk1, ops[k], Array.getElem?_eq_getElem hlt, fun e he hb => ?_⟩))
    · rw [getD_set false (by omega)]
      by_cases hjk : j = k
      · subst hjk; simp
      · rw [if_neg hjk, hl j hj]
        by_cases h1 : j < k
        · rw [decide_eq_true h1, decide_eq_true (by omega)]
        · rw [decide_eq_false h1, decide_eq_false (by omega)]
    · have := hd.before k _ (Array.getElem?_eq_getElem hlt) e.on (List.mem_map.2 ⟨e, List.mem_filter.2 ⟨Array.mem_toList_iff.2 he, hb⟩, rfl⟩)
      rw [hl e.on (by omega)]; exact decide_eq_true this
def checkTs (ts : List Nat) (l : Envl) (ops : Array Oper) : List Oper → Bool
  | [] => true
  | o :: rest => (match o.dst with | none => true | some t => (l.lookup t).isNone || (ts.elem t && rest.all fun o' => !(o'.looksAt ops).contains t)) && checkTs ts l ops rest
theorem checkTs_ok {ts : List Nat} {l : Envl} {ops : Array Oper} : ∀ {pre : List Oper}, checkTs ts l ops pre = true → ∀ (i : Nat) (o : Oper) (t : Nat) (v : Value), pre[i]? = some o → o.dst = some t → l.lookup t = some v → t ∈ ts ∧ ∀ (k : Nat) (ok : Oper), i < k → pre[k]? = some ok → t ∉ ok.looksAt ops
  | [], _, i, o, t, v, hi, _, _ => by simp at hi
  | p :: pre, h, i, o, t, v, hi, hd, hl => by
    simp only [checkTs, Bool.and_eq_true] at h
    cases i with
    | zero =>
      simp at hi; subst hi
      have h1 := h.1
      simp only [hd, hl, Option.isNone_some, Bool.false_or, Bool.and_eq_true] at h1
      refine ⟨elem_iff.1 h1.1, fun k ok hk hok hm => ?_⟩
      obtain ⟨k', rfl⟩ : ∃ k', k = k' + 1 := ⟨k - 1, by omega⟩
      have := List.all_eq_true.1 h1.2 ok (List.mem_of_getElem? (by simpa using hok))
      simp [hm] at this
    | succ i =>
      obtain ⟨h2, h3⟩ := checkTs_ok h.2 i o t v (by simpa using hi) hd hl
      refine ⟨h2, fun k ok hk hok => ?_⟩
      obtain ⟨k', rfl⟩ : ∃ k', k = k' + 1 := ⟨k - 1, by omega⟩
      exact h3 k' ok (by omega) (by simpa using hok)
/-- A region: `pre` in whatever order, then `suf` as it stands. -/
theorem W_D {Γ : Cx} {l : Envl} {M : List HP} {Q : Post} {id : Nat} {draw : Bool} {pre suf : List Oper} (ts : List Nat) (Msh pool : List HP) (hp : List.Perm M (Msh ++ pool)) (hm : Γ.P.follows .mixedOrders = true)
    (hd : dagB Γ.n (pre ++ suf).toArray = true) (hsb : sufB (pre ++ suf).toArray pre.length = true) (hc : checkTs ts l (pre ++ suf).toArray pre = true)
    (h : DV Γ (pre ++ suf).toArray Msh pool (initE l) [] [] pre (fun rs cs pool' => Give ts cs rs l (pool' ++ Msh) fun l' M' => L Γ suf l' M' fun l M => Q .normal l M)) : W Γ (.region id (pre ++ suf).toArray draw) l M Q := by
  have hdag := dagB_ok hd
  have hsuf := sufB_ok hsb
  intro a w ha hw
  obtain ⟨Rs, Mcs, Cs, Ks, CKs, pool', h1, h2, h2', h2k, h2c, h3, h4, h5⟩ := DV_parts pre pool _ _ _ h
  have hsz : (pre ++ suf).toArray.size = pre.length + suf.length := by simp
  have htk : (pre ++ suf).toArray.toList.take pre.length = pre := by simp
  have hdr : (pre ++ suf).toArray.toList.drop pre.length = suf := by simp
  have hpre : ∀ (i : Nat) (o : Oper), pre[i]? = some o → (pre ++ suf).toArray[i]? = some o := fun i o hi => by
    have := (List.getElem?_eq_some_iff.1 hi).1
    have e : (pre ++ suf)[i]? = some o := by rw [List.getElem?_append_left this]; exact hi
    simpa using e
  have any : ∀ w, Holds Γ.w0 Γ.S0 M w → wpAny Γ.P .any (pre ++ suf).toArray (liftQ Γ Q) (pre ++ suf).toArray.size (Array.replicate (pre ++ suf).toArray.size false) a w := by
    intro w hw
    have hlin : LinOK (pre ++ suf).toArray pre.length (fun i => Cs.getD i []) (fun i => Ks.getD i none) := linB_ok hdag (by rw [hsz]; omega) (by omega) (by omega) (fun i o C hi ho hC => by
      have ho' : pre[i]? = some o := by
        simp only [List.getElem?_toArray] at ho; rw [List.getElem?_append_left hi] at ho; exact ho
      exact (h4 i o Rs[i] Mcs[i] C Ks[i] CKs[i] ho' (List.getElem?_eq_getElem (by omega)) (List.getElem?_eq_getElem (by omega)) hC (List.getElem?_eq_getElem (by omega)) (List.getElem?_eq_getElem (by omega))).1) (fun i o C k hi ho hC hk => by
      have ho' : pre[i]? = some o := by
        simp only [List.getElem?_toArray] at ho; rw [List.getElem?_append_left hi] at ho; exact ho
      exact ⟨_, (h4 i o Rs[i] Mcs[i] C k CKs[i] ho' (List.getElem?_eq_getElem (by omega)) (List.getElem?_eq_getElem (by omega)) hC hk (List.getElem?_eq_getElem (by omega))).2.1⟩)
    have hmain := D_any (Γ := Γ) (ops := (pre ++ suf).toArray) (m := pre.length) (Msh := Msh) (pool' := pool') (l := l) (Rs := Rs) (Mcs := Mcs) (Cs := Cs) (Ks := Ks) (Q := liftQ Γ Q) hdag (by rw [hsz]; omega) h1 h2 h2' h2k hlin hsuf
      (fun i o R Mc C k hi hR hM hC hk => by
        have := (List.getElem?_eq_some_iff.1 hR).1
        rw [htk] at hi ⊢; exact (h4 i o R Mc C k CKs[i] hi hR hM hC hk (List.getElem?_eq_getElem (by omega))).2.2) ?_ pre.length (Array.replicate (pre ++ suf).toArray.size false) a w ?_
    · rw [show pre.length + ((pre ++ suf).toArray.size - pre.length) = (pre ++ suf).toArray.size by rw [hsz]; omega] at hmain
      exact hmain
    · intro listed a w hI hall
      rw [hdr]
      obtain ⟨Mr, hM, hold⟩ := hI.mem
      have hget : ∀ i d R, ((List.zipWith (fun k R => (k, R)) Ks Rs).reverse ++ [])[i]? = some (d, R) → ∃ j o, i + j + 1 = pre.length ∧ pre[j]? = some o ∧ Ks[j]? = some d ∧ Rs[j]? = some R := by
        intro i d R hi
        rw [List.append_nil] at hi
        have hlen : (List.zipWith (fun k R => (k, R)) Ks Rs).length = pre.length := by simp [h1, h2k]
        have hlt : i < pre.length := by have := (List.getElem?_eq_some_iff.1 hi).1; simpa [h1, h2k] using this
        rw [List.getElem?_reverse (by rw [hlen]; exact hlt), hlen] at hi
        have hj : pre.length - 1 - i < Ks.length := by omega
        have hj' : pre.length - 1 - i < Rs.length := by omega
        simp only [List.getElem?_zipWith, List.getElem?_eq_getElem hj, List.getElem?_eq_getElem hj'] at hi
        simp at hi
        exact ⟨pre.length - 1 - i, pre[pre.length - 1 - i], by omega, List.getElem?_eq_getElem (by omega), by rw [List.getElem?_eq_getElem hj, hi.1], by rw [List.getElem?_eq_getElem hj', hi.2]⟩
      have hput : ∀ (j : Nat) (k : Option Nat) (R : Rel), Ks[j]? = some k → Rs[j]? = some R → ((List.zipWith (fun k R => (k, R)) Ks Rs).reverse ++ [])[pre.length - 1 - j]? = some (k, R) := by
        intro j k R hk hR
        have hjl := (List.getElem?_eq_some_iff.1 hk).1
        have hlen : (List.zipWith (fun k R => (k, R)) Ks Rs).length = pre.length := by simp [h1, h2k]
        rw [List.append_nil, List.getElem?_reverse (by rw [hlen]; omega), hlen, show pre.length - 1 - (pre.length - 1 - j) = j by omega]
        simp [List.getElem?_zipWith, hk, hR]
      have hko : ∀ (j : Nat) (o : Oper), pre[j]? = some o → ∃ C k ck, Cs[j]? = some C ∧ Ks[j]? = some k ∧ CKs[j]? = some ck ∧ KeyOK o.dst C k ck := by
        intro j o ho
        have := (List.getElem?_eq_some_iff.1 ho).1
        have e1 : Cs[j]? = some Cs[j] := List.getElem?_eq_getElem (by omega)
        have e2 : Ks[j]? = some Ks[j] := List.getElem?_eq_getElem (by omega)
        have e3 : CKs[j]? = some CKs[j] := List.getElem?_eq_getElem (by omega)
        exact ⟨_, _, _, e1, e2, e3, (h4 j o Rs[j] Mcs[j] _ _ _ ho (List.getElem?_eq_getElem (by omega)) (List.getElem?_eq_getElem (by omega)) e1 e2 e3).2.1⟩
      have hcs : ∀ t, t ∈ (CKs.reverse.flatten ++ ([] : List Nat)) ↔ ∃ k, k < pre.length ∧ t ∈ CKs.getD k [] := by
        intro t
        rw [List.append_nil]
        simp only [List.mem_flatten, List.mem_reverse]
        constructor
        · rintro ⟨C, hC, ht⟩
          obtain ⟨k, hk⟩ := List.getElem?_of_mem hC
          exact ⟨k, by have := (List.getElem?_eq_some_iff.1 hk).1; omega, by simpa [List.getD_eq_getElem?_getD, hk] using ht⟩
        · rintro ⟨k, hk, ht⟩
          have hk' : CKs[k]? = some CKs[k] := List.getElem?_eq_getElem (by omega)
          rw [List.getD_eq_getElem?_getD, hk'] at ht
          exact ⟨CKs[k], List.mem_of_getElem? hk', ht⟩
      have hckC : ∀ k t, k < pre.length → t ∈ CKs.getD k [] → t ∈ Cs.getD k [] := by
        intro k t hk ht
        obtain ⟨C, k', ck, e1, e2, e3, e4⟩ := hko k _ (List.getElem?_eq_getElem hk)
        simp only [List.getD_eq_getElem?_getD, e1, e3, Option.getD_some] at ht ⊢
        rcases e4 with ⟨_, rfl⟩ | ⟨_, u, rfl, _⟩
        · exact ht
        · exact List.mem_cons_of_mem _ ht
      -- one consumer
      have hone : ∀ j k t, j < pre.length → k < pre.length → t ∈ Cs.getD j [] → t ∈ Cs.getD k [] → j = k := by
        intro j k t hj hk h6 h7
        have hoj := hpre j _ (List.getElem?_eq_getElem hj)
        have hok := hpre k _ (List.getElem?_eq_getElem hk)
        exact Nat.le_antisymm (hlin.first j k _ _ t hj hoj hok h6 (hlin.look k _ t hk hok h7)) (hlin.first k j _ _ t hk hok hoj h7 (hlin.look j _ t hj hoj h6))
      -- writer of a slot
      have hwr : ∀ i k t oi, i < pre.length → k < pre.length → pre[i]? = some oi → oi.dst = some t → t ∈ Cs.getD k [] → i < k := by
        intro i k t oi hi hk hoi hdst htk'
        have hok := hpre k _ (List.getElem?_eq_getElem hk)
        obtain ⟨j, h7, h8⟩ := hlin.writer k _ t hk hok htk'
        have hjk := hdag.before k _ hok j h7
        have hji : j = i := by
          cases hj : (pre ++ suf).toArray[j]? with
          | none => rw [hj] at h8; simp at h8
          | some oj =>
            rw [hj] at h8
            rcases Nat.decEq j i with hne | he
            · exact (hdag.uniq j i oj oi t hne hj (hpre i oi hoi) hdst (by simpa using h8)).elim
            · exact he
        subst hji
        exact hjk
      have hgv := Give_use Γ.n hI.size hI.defers (w := w) (w0 := Γ.w0) (S0 := Γ.S0) _ _ l (pool' ++ Msh) h5 ?_ ?_ ?_
      · obtain ⟨l', M', e1, e2, e3⟩ := hgv
        exact e3 _ a w _ e1 e2 fun a' w' l'' M'' q1 q2 q3 => ⟨l'', M'', q1, q2, q3⟩
      · intro t v ht hno
        refine hI.env t v ht fun i oi hi hil hdst => ?_
        have hilt : i < pre.length := by
          rcases Nat.lt_or_ge i pre.length with h6 | h6
          · exact h6
          · rw [hI.suff i h6] at hil; cases hil
        have hi' : pre[i]? = some oi := by
          simp only [List.getElem?_toArray] at hi; rw [List.getElem?_append_left hilt] at hi; exact hi
        obtain ⟨hc1, hc2⟩ := checkTs_ok hc i oi t v hi' hdst ht
        have hRi : Rs[i]? = some Rs[i] := List.getElem?_eq_getElem (by omega)
        have hKi : Ks[i]? = some (some t) := by
          obtain ⟨C, k', ck, _, e2, _, e4⟩ := hko i oi hi'
          rcases e4 with ⟨h6, _⟩ | ⟨h6, _⟩
          · rw [e2, h6, hdst]
          · rw [hdst] at h6; cases h6
        rcases hno Rs[i] (List.mem_of_getElem? (hput i _ _ hKi hRi)) with h6 | h6
        · exact h6 hc1
        · obtain ⟨k, hk, htk'⟩ := (hcs t).1 h6
          have htk2 := hckC k t hk htk'
          have h7 := hwr i k t oi hilt hk hi' hdst htk2
          exact hc2 k _ h7 (List.getElem?_eq_getElem hk) (hlin.look k _ t hk (hpre k _ (List.getElem?_eq_getElem hk)) htk2)
      · intro t R hmm
        obtain ⟨i, hi⟩ := List.getElem?_of_mem hmm
        obtain ⟨j, o, _, h6, h7, _⟩ := hget i _ R hi
        obtain ⟨C, k', ck, e1, e2, _, e4⟩ := hko j o h6
        rw [h7] at e2; cases e2
        have hjl := (List.getElem?_eq_some_iff.1 h6).1
        rcases e4 with ⟨h8, _⟩ | ⟨_, u, h8, h9⟩
        · exact hdag.small j o t (hpre j o h6) h8.symm
        · cases h9
          obtain ⟨j', h10, h11⟩ := hlin.writer j o t hjl (hpre j o h6) (by rw [List.getD_eq_getElem?_getD, e1, h8]; exact List.mem_cons_self ..)
          cases hj : (pre ++ suf).toArray[j']? with
          | none => rw [hj] at h11; simp at h11
          | some oj => rw [hj] at h11; exact hdag.small j' oj t hj (by simpa using h11)
      · refine ⟨((List.range pre.length).map fun j => if czd (pre ++ suf).toArray pre.length (fun i => Cs.getD i []) listed j then [] else Mr j).reverse, by simp [h1, h2k], ?_, fun i d R m hi hmm => ?_⟩
        · refine hM.perm ((List.Perm.append_left _ List.perm_append_comm).trans (List.Perm.append_right _ ?_))
          have e : ((List.range pre.length).flatMap fun i => if listed.getD i false then (if czd (pre ++ suf).toArray pre.length (fun i => Cs.getD i []) listed i then [] else Mr i) else Mcs.getD i []) = ((List.range pre.length).map fun j => if czd (pre ++ suf).toArray pre.length (fun i => Cs.getD i []) listed j then [] else Mr j).flatten := by
            rw [List.flatMap_def]
            refine congrArg List.flatten ?_
            exact List.map_congr_left fun i hi => by rw [if_pos (hall i (List.mem_range.1 hi))]
          rw [e]
          exact (List.reverse_perm _).symm.flatten
        · obtain ⟨j, o, h6, h7, h8, h9⟩ := hget i d R hi
          have hj : j < pre.length := by omega
          have hm' : m = if czd (pre ++ suf).toArray pre.length (fun i => Cs.getD i []) listed j then [] else Mr j := by
            rw [List.getElem?_reverse (by simp; omega)] at hmm
            simp only [List.length_map, List.length_range, List.getElem?_map] at hmm
            rw [show pre.length - 1 - i = j by omega, List.getElem?_range hj] at hmm
            simpa using hmm.symm
          have hczd : ∀ t, o.dst = some t → (czd (pre ++ suf).toArray pre.length (fun i => Cs.getD i []) listed j = true ↔ ∃ k, k < pre.length ∧ t ∈ Cs.getD k []) := by
            intro t hot
            unfold czd
            rw [hpre j o h7]
            simp only [Option.bind_some, hot, List.any_eq_true, List.mem_range, Bool.and_eq_true]
            constructor
            · rintro ⟨k, hk, _, hk2⟩; exact ⟨k, hk, elem_iff.1 hk2⟩
            · rintro ⟨k, hk, hk2⟩; exact ⟨k, hk, hall k hk, elem_iff.2 hk2⟩
          have hczn : o.dst = none → czd (pre ++ suf).toArray pre.length (fun i => Cs.getD i []) listed j = false := fun hdst => by
            unfold czd; rw [hpre j o h7]; simp [hdst]
          obtain ⟨C, k', ck, e1, e2, e3, e4⟩ := hko j o h7
          rw [h8] at e2; cases e2
          have hhold := hold j o (hpre j o h7) (hall j hj)
          simp only [List.getD_eq_getElem?_getD, h9, h8, Option.getD_some] at hhold
          refine ⟨fun hdn => ?_, fun t hdt htc => ?_, fun t hdt htc hts hno => ?_⟩
          · subst hdn
            rcases e4 with ⟨h10, _⟩ | ⟨h10, u, _, h11⟩
            · rw [hczn h10.symm] at hm'
              simp only [Bool.false_eq_true, if_false] at hm'
              subst hm'; exact hhold
            · cases h11
          · subst hdt
            obtain ⟨k, hk, htk'⟩ := (hcs t).1 htc
            rcases e4 with ⟨h10, _⟩ | ⟨h10, u, h11, h12⟩
            · rw [hm', (hczd t h10.symm).2 ⟨k, hk, hckC k t hk htk'⟩, if_pos rfl]
            · exfalso
              cases h12
              have htj : t ∈ Cs.getD j [] := by rw [List.getD_eq_getElem?_getD, e1, h11]; exact List.mem_cons_self ..
              have := hone j k t hj hk htj (hckC k t hk htk')
              subst this
              have hnd := hlin.nodup j hj
              simp only [List.getD_eq_getElem?_getD, e1, h11, Option.getD_some] at hnd
              simp only [List.getD_eq_getElem?_getD, e3, Option.getD_some] at htk'
              exact (List.nodup_cons.1 hnd).1 htk'
          · subst hdt
            have hcf : czd (pre ++ suf).toArray pre.length (fun i => Cs.getD i []) listed j = false := by
              rcases e4 with ⟨h10, _⟩ | ⟨h10, _⟩
              · cases hcz : czd (pre ++ suf).toArray pre.length (fun i => Cs.getD i []) listed j with
                | false => rfl
                | true =>
                  exfalso
                  obtain ⟨k, hk, htk'⟩ := (hczd t h10.symm).1 hcz
                  have hjk := hwr j k t o hj hk h7 h10.symm htk'
                  obtain ⟨Ck, kk, ckk, f1, f2, f3, f4⟩ := hko k _ (List.getElem?_eq_getElem hk)
                  rcases f4 with ⟨_, f5⟩ | ⟨_, u, f5, f6⟩
                  · subst f5
                    exact htc ((hcs t).2 ⟨k, hk, by simpa only [List.getD_eq_getElem?_getD, f1, f3] using htk'⟩)
                  · simp only [List.getD_eq_getElem?_getD, f1, f5, Option.getD_some] at htk'
                    rcases List.mem_cons.1 htk' with h11 | h11
                    · subst h11
                      have hRk : Rs[k]? = some Rs[k] := List.getElem?_eq_getElem (by omega)
                      exact hno (pre.length - 1 - k) (by omega) Rs[k] (hput k _ _ (by rw [f2, f6]) hRk)
                    · exact htc ((hcs t).2 ⟨k, hk, by simpa only [List.getD_eq_getElem?_getD, f3, Option.getD_some] using h11⟩)
              · exact hczn h10
            rw [hcf] at hm'
            simp only [Bool.false_eq_true, if_false] at hm'
            subst hm'
            exact hhold
    · refine ⟨by simp, ?_, fun j hj => ?_, ha.size, ha.defers, fun i oi _ hl => ?_, fun t v ht _ => ha.get t v ht, fun _ => [], ?_, fun i oi _ hl => ?_⟩
      · rw [List.filter_eq_self.2]
        · simp
        · intro i hi
          have := List.mem_range.1 hi
          have h7 : i < pre.length + suf.length := by omega
          simp [Array.getD_eq_getD_getElem?, Array.getElem?_replicate, h7]
      · simp only [Array.getD_eq_getD_getElem?, Array.getElem?_replicate]; split <;> rfl
      · simp [Array.getD_eq_getD_getElem?, Array.getElem?_replicate] at hl; split at hl <;> simp at hl
      · refine (hw.perm hp).perm ?_
        have e : ((List.range pre.length).flatMap fun i => if (Array.replicate (pre ++ suf).toArray.size false).getD i false = true then (if czd (pre ++ suf).toArray pre.length (fun i => Cs.getD i []) (Array.replicate (pre ++ suf).toArray.size false) i then [] else []) else Mcs.getD i []) = Mcs.flatten := by
          rw [List.flatMap_def]
          refine congrArg List.flatten (List.ext_getElem? fun i => ?_)
          simp only [List.getElem?_map]
          by_cases hi : i < pre.length
          · rw [List.getElem?_range hi]
            have : Mcs[i]? = some Mcs[i] := List.getElem?_eq_getElem (by omega)
            have h7 : i < pre.length + suf.length := by omega
            simp [Array.getD_eq_getD_getElem?, Array.getElem?_replicate, h7, List.getD_eq_getElem?_getD, this]
          · rw [List.getElem?_eq_none (by simpa using hi), List.getElem?_eq_none (by omega)]; rfl
        rw [e]
        refine (List.Perm.append_left Msh h3).trans ?_
        rw [← List.append_assoc, ← List.append_assoc]
        exact List.Perm.append_right _ List.perm_append_comm
      · simp [Array.getD_eq_getD_getElem?, Array.getElem?_replicate] at hl; split at hl <;> simp at hl
  cases draw with
  | true => exact wp_region_any hm (any _ ⟨hw.os, hw.tape, hw.output, hw.size, hw.old, fun h hh => h.st w _ (fun _ _ => rfl) (hw.prs h hh), hw.nodup, hw.rng⟩)
  | false =>
    refine wp_region ?_
    rw [List.range_eq_range']
    refine D_lex hdag _ 0 _ a w (by simp) (by simp) (fun j hj => ?_) (any w hw)
    rw [Array.getD_eq_getD_getElem?, Array.getElem?_replicate]
    split <;> simp
theorem DV_mono {Γ : Cx} {ops : Array Oper} {Msh : List HP} {K K' : RKont} (hk : ∀ rs cs pool, K rs cs pool → K' rs cs pool) : ∀ (rest : List Oper) (pool : List HP) (E : Fl) (rs : List (Option Nat × Rel)) (cs : List Nat), DV Γ ops Msh pool E rs cs rest K → DV Γ ops Msh pool E rs cs rest K'
  | [], _, _, _, _, h => hk _ _ _ h
  | _ :: rest, _, _, _, _, ⟨R, Mc, pool', C, k, ck, h1, h2, h3, h4, h5⟩ => ⟨R, Mc, pool', C, k, ck, h1, h2, h3, h4, DV_mono hk rest _ _ _ _ h5⟩
theorem Give_mono {cs : List Nat} {K K' : Kont} (hk : ∀ l M, K l M → K' l M) : ∀ (rs : List (Option Nat × Rel)) (ts : List Nat) (l : Envl) (M : List HP), Give ts cs rs l M K → Give ts cs rs l M K'
  | [], _, l, M, h => hk l M h
  | (none, R) :: rs, _, l, M, h => fun Mr hr => Give_mono hk rs _ _ _ (h Mr hr)
  | (some t, R) :: rs, ts, l, M, h => by
    simp only [Give] at h ⊢
    split
    · rename_i he; rw [he] at h; exact Give_mono hk rs _ _ _ h
    · rename_i he
      rw [he] at h
      split
      · rename_i hf; rw [hf] at h; exact fun v Mr hr => Give_mono hk rs _ _ _ (h v Mr hr)
      · rename_i hf; rw [hf] at h; exact Give_mono hk rs _ _ _ h
theorem W_D0 {Γ : Cx} {l : Envl} {M : List HP} {Q : Post} {id : Nat} {draw : Bool} {pre : List Oper} (ts : List Nat) (hm : Γ.P.follows .mixedOrders = true)
    (hd : dagB Γ.n pre.toArray = true) (hc : checkTs ts l pre.toArray pre = true)
    (h : DV Γ pre.toArray M [] (initE l) [] [] pre (fun rs cs pool' => Give ts cs rs l (pool' ++ M) fun l' M' => Q .normal l' M')) : W Γ (.region id pre.toArray draw) l M Q := by
  have e : pre ++ [] = pre := List.append_nil pre
  have := W_D (Q := Q) (id := id) (draw := draw) (pre := pre) (suf := []) (M := M) ts M [] (by simp) hm (by rw [e]; exact hd) (by
    rw [e]
    refine List.all_eq_true.2 fun i hi => ?_
    have := List.mem_range.1 hi
    simp at this
    simp [this]) (by rw [e]; exact hc) (by
    rw [e]
    refine DV_mono ?_ pre _ _ _ _ h
    intro rs cs pool' hg
    exact Give_mono (fun l' M' hq => L_nil hq) rs _ _ _ hg)
  rw [e] at this; exact this
end Go.Proofs.SL
namespace Go.Proofs.SL
open Go
variable {Γ : Cx} {ops : Array Oper} {Msh pool : List HP} {E : Fl} {rs : List (Option Nat × Rel)} {rest : List Oper} {KD : RKont} {cs0 : List Nat}
variable {d : Nat} {ty : TypeId} {pos : String} {af : Array Edge} {gd : Option (Nat × Bool)}
theorem dropE_nil : ∀ (E : Fl), dropE [] E = E
  | [] => rfl
  | (t, R) :: E => by simp only [dropE, List.elem_nil]; rw [dropE_nil E]
theorem DV_nil (h : KD rs cs0 pool) : DV Γ ops Msh pool E rs cs0 [] KD := h
/-- An operand holds v wherever c. -/
def OpV (E : Fl) (x : Operand) (c : Prop) (v : Value) : Prop :=
  match x with
  | .tmp t => ∃ R, E.lookup t = some R ∧ ∀ u M, R u M → c → u = v
  | .const u => u = v
  | .func f => .func (.func f) #[] #[] = v
  | .global g => .pointer (some ⟨g, 0, none⟩) = v
theorem OpV.c {c : Prop} {v : Value} : OpV E (.const v) c v := rfl
theorem OpV.g {t : Nat} {c c' : Prop} {v : Value} (h : E.lookup t = some (FC c' v)) (hc : c → c') : OpV E (.tmp t) c v := ⟨_, h, fun _ _ hR hcc => hR.2.1 (hc hcc)⟩
theorem OpV.t {t : Nat} {c : Prop} {v : Value} (h : E.lookup t = some (FC True v)) : OpV E (.tmp t) c v := .g h fun _ => trivial
theorem OpV.s {t : Nat} {c : Prop} {v : Value} (h : E.lookup t = some (FC c v)) : OpV E (.tmp t) c v := .g h id
theorem OpV.eval {a : Act} {F : List HP} {o : Oper} {x : Operand} {c : Prop} {v : Value} (h : OpV E x c v) (hf : Facts E (o.looksAt ops) F a) (hx : x ∈ o.op.operands.toList) (hc : c) : a.eval x = v := by
  cases x with
  | tmp t =>
    obtain ⟨R, h1, h2⟩ := h
    obtain ⟨M, h3, _⟩ := hf t R (List.mem_append_left _ (List.mem_filterMap.2 ⟨_, hx, rfl⟩)) h1
    exact h2 _ _ h3 hc
  | const u => exact h
  | func f => exact h
  | global g => exact h
/-- When an operation is carried out. -/
def GC (ops : Array Oper) (E : Fl) (o : Oper) (c : Prop) : Prop := ∀ a F, Facts E (o.looksAt ops) F a → (Region.wanted o (yielded ops a.tmps) = true ↔ c)
theorem GC.none {op : Op} : GC ops E { dst := some d, op, type := ty, pos, after := af, guard := Option.none } True := fun a F _ => by simp [Region.wanted]
theorem GC.some {op : Op} {g tg : Nat} {want b : Bool} {c0 : Prop} {dd : Option Nat} (h1 : (ops[g]?).bind (·.dst) = some tg) (h2 : E.lookup tg = Option.some (FC c0 (.bool b))) :
    GC ops E { dst := dd, op, type := ty, pos, after := af, guard := Option.some (g, want) } (c0 ∧ b = want) := fun a F hf => by
  obtain ⟨M, ⟨_, h4, h5⟩, _⟩ := hf tg _ (List.mem_append_right _ (by simp [h1])) h2
  simp only [Region.wanted, yielded, h1, Option.bind_some]
  by_cases hc : c0
  · have h6 := h4 hc
    by_cases hlt : tg < a.tmps.size
    · simp only [Array.getD_eq_getD_getElem?, Array.getElem?_eq_getElem hlt, Option.getD_some] at h6
      rw [Array.getElem?_eq_getElem hlt, h6]
      simp [hc]
    · simp only [Array.getD_eq_getD_getElem?, Array.getElem?_eq_none (Nat.le_of_not_lt hlt), Option.getD_none] at h6
      cases h6
  · have h6 := h5 hc
    by_cases hlt : tg < a.tmps.size
    · simp only [Array.getD_eq_getD_getElem?, Array.getElem?_eq_getElem hlt, Option.getD_some] at h6
      rw [Array.getElem?_eq_getElem hlt, h6]
      simp [hc, undef]
    · rw [Array.getElem?_eq_none (Nat.le_of_not_lt hlt)]
      simp [hc]
theorem DV_pure {op : Op} (c : Prop) (x : Value) (hg : GC ops E { dst := some d, op, type := ty, pos, after := af, guard := gd } c)
    (he : ∀ a w F, c → Facts E (Oper.looksAt ops { dst := some d, op, type := ty, pos, after := af, guard := gd }) F a → Sees Γ.w0 Γ.S0 Msh w →
      (execOp a.eval { dst := some d, op, type := ty, pos, after := af, guard := gd }).run Γ.P w = .ok (.value x) w)
    (hk : DV Γ ops Msh pool ((d, FC c x) :: E) ((some d, FC c x) :: rs) cs0 rest KD) :
    DV Γ ops Msh pool E rs cs0 ({ dst := some d, op, type := ty, pos, after := af, guard := gd } :: rest) KD := by
  refine DV.mk (FC c x) [] pool [] (by simp) rfl ?_ (by rw [dropE_nil]; exact hk)
  intro a w F Mk _ _ hw hm hf hcf
  have hMk : Mk = [] := hcf
  subst hMk
  rw [dropE_nil] at hf
  simp only [List.nil_append] at hw ⊢
  have hgc := hg a F hf
  split
  · rename_i hwt
    have hc := hgc.1 hwt
    rw [he a w F hc hf ((show Holds Γ.w0 Γ.S0 F w by simpa using hw).seesSub hm)]
    exact ⟨[], ⟨rfl, fun _ => rfl, fun hn => (hn hc).elim⟩, hw⟩
  · rename_i hwt
    exact ⟨rfl, fun hc => (hwt (hgc.2 hc)).elim, fun _ => rfl⟩
theorem D_move {x : Operand} {c : Prop} {v : Value} (hg : GC ops E { dst := some d, op := .move x, type := ty, pos, after := af, guard := gd } c) (hx : OpV E x c v)
    (hk : DV Γ ops Msh pool ((d, FC c v) :: E) ((some d, FC c v) :: rs) cs0 rest KD) : DV Γ ops Msh pool E rs cs0 ({ dst := some d, op := .move x, type := ty, pos, after := af, guard := gd } :: rest) KD :=
  DV_pure c v hg (fun a w F hc hf _ => by have e := hx.eval hf (by simp [Op.operands]) hc; simp [execOp, e]) hk
theorem D_assign {x : Operand} {c : Prop} {v : Value} (hg : GC ops E { dst := some d, op := .assign x, type := ty, pos, after := af, guard := gd } c) (hx : OpV E x c v)
    (hk : DV Γ ops Msh pool ((d, FC c v) :: E) ((some d, FC c v) :: rs) cs0 rest KD) : DV Γ ops Msh pool E rs cs0 ({ dst := some d, op := .assign x, type := ty, pos, after := af, guard := gd } :: rest) KD :=
  DV_pure c v hg (fun a w F hc hf _ => by have e := hx.eval hf (by simp [Op.operands]) hc; simp [execOp, e]) hk
theorem D_not {x : Operand} {T : TypeId} {c : Prop} {b : Bool} (hg : GC ops E { dst := some d, op := .unOp .not T x, type := ty, pos, after := af, guard := gd } c) (hx : OpV E x c (.bool b))
    (hk : DV Γ ops Msh pool ((d, FC c (.bool (!b))) :: E) ((some d, FC c (.bool (!b))) :: rs) cs0 rest KD) : DV Γ ops Msh pool E rs cs0 ({ dst := some d, op := .unOp .not T x, type := ty, pos, after := af, guard := gd } :: rest) KD :=
  DV_pure c _ hg (fun a w F hc hf _ => by have e := hx.eval hf (by simp [Op.operands]) hc; simp [execOp, e, Op.unary]) hk
theorem D_bin {op : BinOp} {T U : TypeId} {x y : Operand} {c : Prop} {u v r : Value} (hg : GC ops E { dst := some d, op := .binOp op T x y U, type := ty, pos, after := af, guard := gd } c)
    (hx : OpV E x c u) (hy : OpV E y c v) (he : c → BinV Γ.P op T x y u v r)
    (hk : DV Γ ops Msh pool ((d, FC c r) :: E) ((some d, FC c r) :: rs) cs0 rest KD) : DV Γ ops Msh pool E rs cs0 ({ dst := some d, op := .binOp op T x y U, type := ty, pos, after := af, guard := gd } :: rest) KD :=
  DV_pure c r hg (fun a w F hc hf _ => by
    have e1 := hx.eval hf (by simp [Op.operands]) hc
    have e2 := hy.eval hf (by simp [Op.operands]) hc
    simp only [execOp, e1, e2]
    rw [Sem.run_bind, he hc w]; rfl) hk
theorem eval_const (a : Act) (v : Value) : a.eval (.const v) = v := rfl
/-- 'a || b' -/
theorem D_or {x y : Operand} {c cy : Prop} {b b' : Bool} (hg : GC ops E { dst := some d, op := .pick x (.const (.bool true)) y, type := ty, pos, after := af, guard := gd } c) (hx : OpV E x c (.bool b))
    (hy : OpV E y cy (.bool b')) (hcy : c → b = false → cy)
    (hk : DV Γ ops Msh pool ((d, FC c (.bool (b || b'))) :: E) ((some d, FC c (.bool (b || b'))) :: rs) cs0 rest KD) : DV Γ ops Msh pool E rs cs0 ({ dst := some d, op := .pick x (.const (.bool true)) y, type := ty, pos, after := af, guard := gd } :: rest) KD :=
  DV_pure c _ hg (fun a w F hc hf _ => by
    have e := hx.eval hf (by simp [Op.operands]) hc
    cases hb : b with
    | true => subst hb; simp [execOp, e, asBool, eval_const]
    | false =>
      have e2 := hy.eval hf (by simp [Op.operands]) (hcy hc hb)
      subst hb; simp [execOp, e, e2, asBool, eval_const]) hk
/-- 'a && b' -/
theorem D_and {x y : Operand} {c cy : Prop} {b b' : Bool} (hg : GC ops E { dst := some d, op := .pick x y (.const (.bool false)), type := ty, pos, after := af, guard := gd } c) (hx : OpV E x c (.bool b))
    (hy : OpV E y cy (.bool b')) (hcy : c → b = true → cy)
    (hk : DV Γ ops Msh pool ((d, FC c (.bool (b && b'))) :: E) ((some d, FC c (.bool (b && b'))) :: rs) cs0 rest KD) : DV Γ ops Msh pool E rs cs0 ({ dst := some d, op := .pick x y (.const (.bool false)), type := ty, pos, after := af, guard := gd } :: rest) KD :=
  DV_pure c _ hg (fun a w F hc hf _ => by
    have e := hx.eval hf (by simp [Op.operands]) hc
    cases hb : b with
    | false => subst hb; simp [execOp, e, asBool, eval_const]
    | true =>
      have e2 := hy.eval hf (by simp [Op.operands]) (hcy hc hb)
      subst hb; simp [execOp, e, e2, asBool, eval_const]) hk
theorem D_lenS {x : Operand} {T : TypeId} {e : TypeId × Nat × Nat × List Value} {a : Option Addr} {n cp : Nat} {c : Prop} (hg : GC ops E { dst := some d, op := .call { callee := .builtin .len, args := #[x], argTypes := #[T] }, type := ty, pos := pos, after := af, guard := gd } c)
    (hx : OpV E x c (.slice a n cp)) (ht : elOf Γ.P T = some e)
    (hk : DV Γ ops Msh pool ((d, FC c (.int .i64 n)) :: E) ((some d, FC c (.int .i64 n)) :: rs) cs0 rest KD) :
    DV Γ ops Msh pool E rs cs0 ({ dst := some d, op := .call { callee := .builtin .len, args := #[x], argTypes := #[T] }, type := ty, pos := pos, after := af, guard := gd } :: rest) KD :=
  DV_pure c _ hg (fun a' w F hc hf _ => by
    have e1 := hx.eval hf (by simp [Op.operands, Call.operands]) hc
    have := run_len_slice (z := e) ht a n cp ty w
    simp [execOp, resolve, invoke, builtin, e1, this]) hk
theorem D_lenT {x : Operand} {T : TypeId} {s : ByteArray} {c : Prop} (hg : GC ops E { dst := some d, op := .call { callee := .builtin .len, args := #[x], argTypes := #[T] }, type := ty, pos := pos, after := af, guard := gd } c)
    (hx : OpV E x c (.string s)) (ht : isStr Γ.P T = true)
    (hk : DV Γ ops Msh pool ((d, FC c (.int .i64 s.size)) :: E) ((some d, FC c (.int .i64 s.size)) :: rs) cs0 rest KD) :
    DV Γ ops Msh pool E rs cs0 ({ dst := some d, op := .call { callee := .builtin .len, args := #[x], argTypes := #[T] }, type := ty, pos := pos, after := af, guard := gd } :: rest) KD :=
  DV_pure c _ hg (fun a' w F hc hf _ => by
    have e1 := hx.eval hf (by simp [Op.operands, Call.operands]) hc
    have h2 : Γ.P.underlying T = some .string := by unfold isStr at ht; split at ht <;> simp_all
    simp [execOp, resolve, invoke, builtin, e1, Builtin.len_, underlying, h2, goInt]) hk
theorem run_fieldAt {P : Program} {T f fo : Nat} (ht : fldOf P T f = some fo) (g o : Nat) (w : World) : (Instr.fieldAt T (.pointer (some ⟨g, o, none⟩)) f).run P w = .ok (.pointer (some ⟨g, o + fo, none⟩)) w := by
  unfold fldOf at ht
  split at ht <;> (try cases ht)
  rename_i fs hfs
  split at ht <;> (try cases ht)
  rename_i x' hx'
  split at ht <;> (try cases ht)
  rename_i i hi
  split at ht <;> cases ht
  rename_i hsz
  simp [Instr.fieldAt, underlying, hfs, hx', Instr.sureAddr, fieldPlace, sizeOf, typeInfo, hi, hsz, addr_add]
theorem D_fieldAddr {x : Operand} {T f fo g o : Nat} {c : Prop} (hg : GC ops E { dst := some d, op := .fieldAddr T x f, type := ty, pos := pos, after := af, guard := gd } c)
    (hx : OpV E x c (.pointer (some ⟨g, o, none⟩))) (ht : fldOf Γ.P T f = some fo)
    (hk : DV Γ ops Msh pool ((d, FC c (.pointer (some ⟨g, o + fo, none⟩))) :: E) ((some d, FC c (.pointer (some ⟨g, o + fo, none⟩))) :: rs) cs0 rest KD) :
    DV Γ ops Msh pool E rs cs0 ({ dst := some d, op := .fieldAddr T x f, type := ty, pos := pos, after := af, guard := gd } :: rest) KD :=
  DV_pure c _ hg (fun a' w F hc hf _ => by
    have e1 := hx.eval hf (by simp [Op.operands]) hc
    simp [execOp, e1, run_fieldAt ht]) hk
theorem D_nilCheck {x : Operand} {a : Addr} {c : Prop} (hg : GC ops E { dst := some d, op := .nilCheck x, type := ty, pos := pos, after := af, guard := gd } c)
    (hx : OpV E x c (.pointer (some a)))
    (hk : DV Γ ops Msh pool ((d, FC c (.pointer (some a))) :: E) ((some d, FC c (.pointer (some a))) :: rs) cs0 rest KD) :
    DV Γ ops Msh pool E rs cs0 ({ dst := some d, op := .nilCheck x, type := ty, pos := pos, after := af, guard := gd } :: rest) KD :=
  DV_pure c _ hg (fun a' w F hc hf _ => by
    have e1 := hx.eval hf (by simp [Op.operands]) hc
    simp [execOp, e1]) hk
theorem D_convInt {x : Operand} {S T : TypeId} {k k' : IntKind} {n : Int} {c : Prop} (hg : GC ops E { dst := some d, op := .convert S T x, type := ty, pos := pos, after := af, guard := gd } c)
    (hx : OpV E x c (.int k n)) (ht : Γ.P.underlying T = some (.int k')) (hs : (Γ.P.underlying S).isSome = true)
    (hk : DV Γ ops Msh pool ((d, FC c (.int k' (k'.wrap n))) :: E) ((some d, FC c (.int k' (k'.wrap n))) :: rs) cs0 rest KD) :
    DV Γ ops Msh pool E rs cs0 ({ dst := some d, op := .convert S T x, type := ty, pos := pos, after := af, guard := gd } :: rest) KD :=
  DV_pure c _ hg (fun a' w F hc hf _ => by
    have e1 := hx.eval hf (by simp [Op.operands]) hc
    obtain ⟨u, hu⟩ := Option.isSome_iff_exists.1 hs
    simp [execOp, e1, convert, underlying, hu, ht, Conv.intToInt]) hk
theorem D_load {x : Operand} {T g off fo : Nat} {cs : List Value} {v : Value} {c : Prop} (hg : GC ops E { dst := some d, op := .load T x, type := ty, pos := pos, after := af, guard := gd } c)
    (hx : OpV E x c (.pointer (some ⟨g, off + fo, none⟩))) (hc : c → RdC Γ Msh g off cs) (ht : oneOf Γ.P T = true) (hv : cs[fo]? = some v)
    (hk : DV Γ ops Msh pool ((d, FC c v) :: E) ((some d, FC c v) :: rs) cs0 rest KD) :
    DV Γ ops Msh pool E rs cs0 ({ dst := some d, op := .load T x, type := ty, pos := pos, after := af, guard := gd } :: rest) KD :=
  DV_pure c _ hg (fun a' w F hcc hf hw => by
    have e1 := hx.eval hf (by simp [Op.operands]) hcc
    simp [execOp, e1, Instr.loadAt, Instr.sureAddr, loadVar, run_isAgg_one ht, hc hcc w hw fo v hv]) hk
theorem D_load0 {x : Operand} {T g off : Nat} {cs : List Value} {v : Value} {c : Prop} (hg : GC ops E { dst := some d, op := .load T x, type := ty, pos := pos, after := af, guard := gd } c)
    (hx : OpV E x c (.pointer (some ⟨g, off, none⟩))) (hc : c → RdC Γ Msh g off cs) (ht : oneOf Γ.P T = true) (hv : cs[0]? = some v)
    (hk : DV Γ ops Msh pool ((d, FC c v) :: E) ((some d, FC c v) :: rs) cs0 rest KD) :
    DV Γ ops Msh pool E rs cs0 ({ dst := some d, op := .load T x, type := ty, pos := pos, after := af, guard := gd } :: rest) KD :=
  D_load (fo := 0) hg hx hc ht hv hk
theorem D_loadW {x : Operand} {T g off : Nat} {cs : List Value} {c : Prop} (hg : GC ops E { dst := some d, op := .load T x, type := ty, pos := pos, after := af, guard := gd } c)
    (hx : OpV E x c (.pointer (some ⟨g, off, none⟩))) (hc : c → RdC Γ Msh g off cs) (ht : aggOf Γ.P T = some cs.length)
    (hk : DV Γ ops Msh pool ((d, FC c (.agg cs.toArray)) :: E) ((some d, FC c (.agg cs.toArray)) :: rs) cs0 rest KD) :
    DV Γ ops Msh pool E rs cs0 ({ dst := some d, op := .load T x, type := ty, pos := pos, after := af, guard := gd } :: rest) KD :=
  DV_pure c _ hg (fun a' w F hcc hf hw => by
    have e1 := hx.eval hf (by simp [Op.operands]) hcc
    have hl := run_loadCells_at (P := Γ.P) (hc hcc w hw)
    simp [execOp, e1, Instr.loadAt, Instr.sureAddr, loadVar, run_isAgg_agg ht, hl]) hk
/-! Calls -/
/-- The value x, and nothing new in memory. -/
def IsV (x : Value) : Rel := fun v M => v = x ∧ M = []
def OpVs (E : Fl) (c : Prop) : List Operand → List Value → Prop
  | [], [] => True
  | x :: xs, v :: vs => OpV E x c v ∧ OpVs E c xs vs
  | _, _ => False
theorem OpVs.nil {c : Prop} : OpVs E c [] [] := trivial
theorem OpVs.cons {c : Prop} {x : Operand} {v : Value} {xs : List Operand} {vs : List Value} (h : OpV E x c v) (hs : OpVs E c xs vs) : OpVs E c (x :: xs) (v :: vs) := ⟨h, hs⟩
theorem OpVs.evals {a : Act} {F : List HP} {o : Oper} {c : Prop} (hc : c) (hf : Facts E (o.looksAt ops) F a) : ∀ (xs : List Operand) (vs : List Value), OpVs E c xs vs → (∀ x, x ∈ xs → x ∈ o.op.operands.toList) → xs.map a.eval = vs
  | [], [], _, _ => rfl
  | x :: xs, v :: vs, h, hm => by
    rw [List.map_cons, h.1.eval hf (hm x (by simp)) hc, OpVs.evals hc hf xs vs h.2 (fun y hy => hm y (List.mem_cons_of_mem _ hy))]
  | [], _ :: _, h, _ => h.elim
  | _ :: _, [], h, _ => h.elim
/-- A call that only reads. -/
theorem D_callX {f : Nat} {xs : List Operand} {ats : Array TypeId} {vs : List Value} {c : Prop} {x : Value}
    (hg : GC ops E { dst := some d, op := .call { callee := .value (.func f), args := xs.toArray, argTypes := ats }, type := ty, pos := pos, after := af, guard := gd } c)
    (hf : IsFn Γ.P f) (hx : OpVs E c xs vs) (hc : c → ∀ w F, Holds Γ.w0 Γ.S0 F w → (∀ h, h ∈ Msh → h ∈ F) → Spec Γ.P f vs.toArray w [] (IsV x))
    (hk : DV Γ ops Msh pool ((d, FC c x) :: E) ((some d, FC c x) :: rs) cs0 rest KD) :
    DV Γ ops Msh pool E rs cs0 ({ dst := some d, op := .call { callee := .value (.func f), args := xs.toArray, argTypes := ats }, type := ty, pos := pos, after := af, guard := gd } :: rest) KD := by
  refine DV.mk (FC c x) [] pool [] (by simp) rfl ?_ (by rw [dropE_nil]; exact hk)
  intro a w F Mk _ _ hw hm hfa hcf
  have hMk : Mk = [] := hcf
  subst hMk
  rw [dropE_nil] at hfa
  simp only [List.nil_append] at hw ⊢
  have hgc := hg a F hfa
  split
  · rename_i hwt
    have hcc := hgc.1 hwt
    have hw' : Holds Γ.w0 Γ.S0 F w := by simpa using hw
    have h2 : (#[] ++ xs.toArray.map a.eval ++ #[] : Array Value) = vs.toArray := by
      simp [OpVs.evals (o := { dst := some d, op := .call { callee := .value (.func f), args := xs.toArray, argTypes := ats }, type := ty, pos := pos, after := af, guard := gd }) hcc hfa xs vs hx (fun x hx => by simp [Op.operands, Call.operands, hx])]
    rw [execOp_call_go, h2, hf.run]
    exact (hc hcc w F hw' hm (Holds.split (M1 := []) (M2 := F) hw)).mono fun e w'' ⟨v, M', h1, h3, h4⟩ => ⟨v, M', h1, ⟨h3.2, fun _ => h3.1, fun hn => (hn hcc).elim⟩, Holds.frame (M1 := []) (M2 := F) hw h4⟩
  · rename_i hwt
    exact ⟨rfl, fun hc => (hwt (hgc.2 hc)).elim, fun _ => rfl⟩
/-- What the operands of a call hold, exactly or not. -/
def OpRs (E : Fl) : List Operand → List Rel → Prop
  | [], [] => True
  | x :: xs, R :: Rs => (match x with | .tmp t => ∃ R', E.lookup t = some R' ∧ ∀ v M, R' v M → R v M | .const u => R u [] | .func f => R (.func (.func f) #[] #[]) [] | .global g => R (.pointer (some ⟨g, 0, none⟩)) []) ∧ OpRs E xs Rs
  | _, _ => False
def AllR (F : List HP) : List Rel → List Value → Prop
  | [], vs => vs = []
  | R :: Rs, vs => ∃ v us M, vs = v :: us ∧ R v M ∧ (∀ h, h ∈ M → h ∈ F) ∧ AllR F Rs us
theorem OpRs.evals {a : Act} {F : List HP} {o : Oper} (hf : Facts E (o.looksAt ops) F a) : ∀ (xs : List Operand) (Rs : List Rel), OpRs E xs Rs → (∀ x, x ∈ xs → x ∈ o.op.operands.toList) → AllR F Rs (xs.map a.eval)
  | [], [], _, _ => rfl
  | x :: xs, R :: Rs, h, hm => by
    have h2 := OpRs.evals hf xs Rs h.2 (fun y hy => hm y (List.mem_cons_of_mem _ hy))
    have h1 := h.1
    cases x with
    | tmp t =>
      obtain ⟨R', h3, h4⟩ := h1
      obtain ⟨M, h5, h6⟩ := hf t R' (List.mem_append_left _ (List.mem_filterMap.2 ⟨_, hm _ (List.mem_cons_self ..), rfl⟩)) h3
      exact ⟨_, _, M, rfl, h4 _ _ h5, h6, h2⟩
    | const u => exact ⟨_, _, [], rfl, h1, fun x hx => (by cases hx), h2⟩
    | func f => exact ⟨_, _, [], rfl, h1, fun x hx => (by cases hx), h2⟩
    | global g => exact ⟨_, _, [], rfl, h1, fun x hx => (by cases hx), h2⟩
  | [], _ :: _, h, _ => h.elim
  | _ :: _, [], h, _ => h.elim
/-- A store of a whole struct. -/
theorem D_storeW {x y : Operand} {T b : Nat} {T' : TypeId} {cs cs' : List Value} {pool' : List HP} (hx : OpV E x True (.pointer (some ⟨b, 0, none⟩))) (hy : OpV E y True (.agg cs'.toArray)) (hp : Pick (blk b cs T') pool pool')
    (ht : aggOf Γ.P T = some cs'.length) (hl : cs'.length = cs.length) (h1 : ∀ v, v ∈ cs' → v.oneCell' = true)
    (hk : DV Γ ops Msh pool' E ((none, fun _ M => M = [blk b cs' T']) :: rs) cs0 rest KD) :
    DV Γ ops Msh pool E rs cs0 ({ dst := none, op := .store T x y, type := ty, pos, after := af, guard := none } :: rest) KD := by
  refine DV.mk (fun _ M => M = [blk b cs' T']) ([blk b cs T']) pool' [] hp.perm rfl ?_ (by rw [dropE_nil]; exact hk)
  intro a w F Mk _ _ hw hm hfa hcf
  have hMk : Mk = [] := hcf
  subst hMk
  rw [dropE_nil] at hfa
  simp only [List.nil_append] at hw
  rw [if_pos (by simp [Region.wanted])]
  have e1 := hx.eval hfa (by simp [Op.operands]) trivial
  have e2 := hy.eval hfa (by simp [Op.operands]) trivial
  have hh : w.heap[b]? = some (.cells cs.toArray T' (0, 0)) := hw.prs (blk b cs T') (by simp)
  have hs := run_store_blk (P := Γ.P) (fo := 0) (vs := cs') (ty := T) hh (by omega) h1
  have e : (cs.take 0 ++ cs' ++ cs.drop (0 + cs'.length)) = cs' := by simp [hl]
  rw [e] at hs
  have hrun : (execOp a.eval { dst := none, op := .store T x y, type := ty, pos, after := af, guard := none }).run Γ.P w = .ok .skip (w.setRow b cs'.toArray) := by
    simp [execOp, e1, e2, Instr.storeAt, Instr.sureAddr, storeVar, run_isAgg_agg ht, Value.cells, hs]
  rw [hrun]
  exact ⟨_, rfl, setRow_blk (cs' := cs') hw⟩
/-! Taking what is there at the end -/
theorem Give_is {ts : List Nat} {t : Nat} {x : Value} {l : Envl} {M : List HP} {K : Kont} (hc : cs0.elem t = false) (ht : ts.elem t = true) (h : Give (rmN t ts) cs0 rs ((t, x) :: l) M K) : Give ts cs0 ((some t, FC True x) :: rs) l M K := by
  simp only [Give, ht, hc]
  rintro v Mr ⟨rfl, h1, _⟩
  rw [h1 trivial]; exact h
theorem Give_drop {ts : List Nat} {t : Nat} {R : Rel} {l : Envl} {M : List HP} {K : Kont} (ht : ts.elem t = false) (h : Give ts cs0 rs l M K) : Give ts cs0 ((some t, R) :: rs) l M K := by
  simp only [Give, ht]; split <;> exact h
theorem Give_cons {ts : List Nat} {t : Nat} {R : Rel} {l : Envl} {M : List HP} {K : Kont} (hc : cs0.elem t = true) (h : Give ts cs0 rs l M K) : Give ts cs0 ((some t, R) :: rs) l M K := by
  simp only [Give, hc]; exact h
theorem Give_R {ts : List Nat} {t : Nat} {R : Rel} {l : Envl} {M : List HP} {K : Kont} (hc : cs0.elem t = false) (ht : ts.elem t = true) (h : ∀ v Mr, R v Mr → Give (rmN t ts) cs0 rs ((t, v) :: l) (Mr ++ M) K) : Give ts cs0 ((some t, R) :: rs) l M K := by
  simp only [Give, ht, hc]; exact h
theorem Give_st {ts : List Nat} {b : List HP} {l : Envl} {M : List HP} {K : Kont} (h : Give ts cs0 rs l (b ++ M) K) : Give ts cs0 ((none, fun _ M => M = b) :: rs) l M K := by
  rintro Mr rfl; exact h
theorem Give_nil {ts : List Nat} {l : Envl} {M : List HP} {K : Kont} (h : K l M) : Give ts cs0 [] l M K := h
/-- A call that only reads, in a region as it stands. -/
theorem L_callX {l : Envl} {M : List HP} {K : Kont} {f : Nat} {xs : List Operand} {ats : Array TypeId} {vs : List Value} {x : Value}
    (hn : Nat.blt d Γ.n = true) (hf : IsFn Γ.P f) (hx : evs l xs = some vs) (hc : ∀ w, Holds Γ.w0 Γ.S0 M w → Spec Γ.P f vs.toArray w [] (IsV x))
    (hk : L Γ rest ((d, x) :: l) M K) : L Γ ({ dst := some d, op := .call { callee := .value (.func f), args := xs.toArray, argTypes := ats }, type := ty, pos := pos, after := af, guard := none } :: rest) l M K :=
  L_call (M1 := []) (M2 := M) (R := IsV x) rfl rfl rfl (Nat.le_of_ble_eq_true hn) hf hx (by simp) (fun w hw => hc w hw) (fun v M' ⟨h1, h2⟩ => by subst h1; subst h2; exact hk)
/-- A call by its contract that consumes nothing and may make memory. -/
theorem L_callR {l : Envl} {M : List HP} {K : Kont} {f : Nat} {xs : List Operand} {ats : Array TypeId} {vs : List Value} {R : Rel}
    (hn : Nat.blt d Γ.n = true) (hf : IsFn Γ.P f) (hx : evs l xs = some vs) (hc : ∀ w, Holds Γ.w0 Γ.S0 M w → Spec Γ.P f vs.toArray w [] R)
    (hk : ∀ v M', R v M' → L Γ rest ((d, v) :: l) (M' ++ M) K) : L Γ ({ dst := some d, op := .call { callee := .value (.func f), args := xs.toArray, argTypes := ats }, type := ty, pos := pos, after := af, guard := none } :: rest) l M K :=
  L_call (M1 := []) (M2 := M) (R := R) rfl rfl rfl (Nat.le_of_ble_eq_true hn) hf hx (by simp) (fun w hw => hc w hw) hk
section
variable {τ δ : Type} [GT τ δ] {w0 w : World} {S0 : List Nat} {F : List HP} {t : τ}
theorem rd_carry (h : GT.rd w0 S0 t) (hw : Holds w0 S0 F w) : GT.rd w [] t := GT.rd_mono h fun _ _ ho => ho.carry (M1 := []) (M2 := F) hw
theorem rd_of_tree (hm : treeH t ∈ F) (hw : Sees w0 S0 F w) : GT.rd w [] t := GT.ow_rd (hw.prs _ hm) fun _ _ h => by cases h
end
theorem rd_addr {τ δ : Type} [GT τ δ] {w0 : World} {S0 : List Nat} {L : TL τ} {k : Nat} (h : GT.rd w0 S0 L) (hk : k < L.els.length) : ∃ g o, L.a = some ⟨g, o, none⟩ := by
  cases ha : L.a with
  | none => have := h.2.2.2.1 ha; rw [this] at hk; simp at hk
  | some a =>
    obtain ⟨b, o, s⟩ := a
    have := (h.2.2.2.2 _ ha).1 (fun e => by rw [e] at hk; simp at hk)
    exact ⟨b, o, by simp at this; rw [this]⟩
/-- As W_D, the pool in front. -/
theorem W_DS {l : Envl} {M : List HP} {Q : Post} {id : Nat} {draw : Bool} {pre suf : List Oper} (ts : List Nat) (pool Msh : List HP) (hp : List.Perm M (pool ++ Msh)) (hm : Γ.P.follows .mixedOrders = true)
    (hd : dagB Γ.n (pre ++ suf).toArray = true) (hsb : sufB (pre ++ suf).toArray pre.length = true) (hc : checkTs ts l (pre ++ suf).toArray pre = true)
    (h : DV Γ (pre ++ suf).toArray Msh pool (initE l) [] [] pre (fun rs cs pool' => Give ts cs rs l (pool' ++ Msh) fun l' M' => L Γ suf l' M' fun l M => Q .normal l M)) : W Γ (.region id (pre ++ suf).toArray draw) l M Q :=
  W_D ts Msh pool (hp.trans List.perm_append_comm) hm hd hsb hc h
end Go.Proofs.SL
namespace Go.Proofs.SL
open Go
variable {Γ : Cx} {l : Envl} {M : List HP} {Q : Post} {K : Kont} {w0 w : World} {S0 : List Nat}
variable {rest : List Oper} {d : Nat} {ty : TypeId} {pos : String} {af : Array Edge}
section
variable {τ δ : Type} [GT τ δ]
/-- A tree that owns no block of its own. -/
structure Flat (t : τ) : Prop where
  fp : GT.fp t = []
  ow : ∀ w, GT.ow w t
theorem flat_int {n : Int} (_ : True) : Flat n := ⟨rfl, fun _ => trivial⟩
theorem flat_bool (b : Bool) : Flat b := ⟨rfl, fun _ => trivial⟩
theorem flat_u8 (b : UInt8) : Flat b := ⟨rfl, fun _ => trivial⟩
theorem flat_str {s : ByteArray} (_ : True) : Flat s := ⟨rfl, fun _ => trivial⟩
theorem flat_pair {α β δ ε : Type} [GT α δ] [GT β ε] {a : α} {b : β} (ha : Flat a) (hb : Flat b) : Flat (a, b) := ⟨by show GT.fp a ++ GT.fp b = []; rw [ha.fp, hb.fp]; rfl, fun w => ⟨ha.ow w, hb.ow w⟩⟩
def TL.nil (τ : Type) (e : TypeId) : TL τ := ⟨none, 0, e, [], []⟩
theorem flat_nil (e : TypeId) : Flat (TL.nil τ e) := ⟨rfl, fun _ => ⟨Nat.le_refl _, by simp [TL.nil, maxLen], fun x hx => by simp [TL.nil] at hx, fun _ => ⟨rfl, rfl⟩, fun a ha => by simp [TL.nil] at ha⟩⟩
theorem fps_flat (xs : List τ) (h : ∀ x, x ∈ xs → Flat x) : xs.flatMap GT.fp = [] := List.flatMap_eq_nil_iff.2 fun x hx => (h x hx).fp
/-- A row that is ours: its block alone, not what its elements own. -/
def rowH (L : TL τ) : HP := ⟨(match L.a with | none => [] | some a => [a.block]), fun w => L.els.length ≤ L.cap ∧ L.cap ≤ maxLen ∧ (L.a = none → L.els = [] ∧ L.cap = 0) ∧
    ∀ a, L.a = some a → a.spot = none ∧ a.off = 0 ∧ w.heap[a.block]? = some (.cells (rowCells L.els ++ L.tail).toArray L.e (0, 0)) ∧ L.els.length * GT.sz τ + L.tail.length = L.cap * GT.sz τ,
  fun w w' hh h => ⟨h.1, h.2.1, h.2.2.1, fun a ha => by
    obtain ⟨h1, h2, h3, h4⟩ := h.2.2.2 a ha
    exact ⟨h1, h2, by rw [hh a.block (by rw [ha]; simp)]; exact h3, h4⟩⟩⟩
/-- What is flat comes and goes freely. -/
theorem Holds.addFlat {t : τ} (h : Holds w0 S0 M w) (hf : Flat t) : Holds w0 S0 (treeH t :: M) w := by
  have e : fps (treeH t :: M) = fps M := by rw [fps_cons]; show GT.fp t ++ fps M = _; rw [hf.fp]; rfl
  refine ⟨h.os, h.tape, h.output, h.size, h.old, fun x hx => ?_, by rw [e]; exact h.nodup, fun k hk => h.rng k (by rw [← e]; exact hk)⟩
  rcases List.mem_cons.1 hx with rfl | hx
  · exact hf.ow w
  · exact h.prs _ hx
theorem tree_pair {α β δ ε : Type} [GT α δ] [GT β ε] {a : α} {b : β} (h : Holds w0 S0 (treeH (a, b) :: M) w) : Holds w0 S0 (treeH a :: treeH b :: M) w := by
  have ht : GT.ow w (a, b) := h.prs _ (List.mem_cons_self ..)
  have e : fps (treeH a :: treeH b :: M) = fps (treeH (a, b) :: M) := by
    simp only [fps_cons]; show GT.fp a ++ (GT.fp b ++ fps M) = (GT.fp a ++ GT.fp b) ++ fps M; rw [List.append_assoc]
  refine ⟨h.os, h.tape, h.output, h.size, h.old, fun x hx => ?_, by rw [e]; exact h.nodup, fun k hk => h.rng k (by rw [← e]; exact hk)⟩
  rcases List.mem_cons.1 hx with rfl | hx
  · exact ht.1
  rcases List.mem_cons.1 hx with rfl | hx
  · exact ht.2
  · exact h.prs _ (List.mem_cons_of_mem _ hx)
theorem pair_tree {α β δ ε : Type} [GT α δ] [GT β ε] {a : α} {b : β} (h : Holds w0 S0 (treeH a :: treeH b :: M) w) : Holds w0 S0 (treeH (a, b) :: M) w := by
  have ha : GT.ow w a := h.prs _ (List.mem_cons_self ..)
  have hb : GT.ow w b := h.prs _ (List.mem_cons_of_mem _ (List.mem_cons_self ..))
  have e : fps (treeH (a, b) :: M) = fps (treeH a :: treeH b :: M) := by
    simp only [fps_cons]; show (GT.fp a ++ GT.fp b) ++ fps M = GT.fp a ++ (GT.fp b ++ fps M); rw [List.append_assoc]
  refine ⟨h.os, h.tape, h.output, h.size, h.old, fun x hx => ?_, by rw [e]; exact h.nodup, fun k hk => h.rng k (by rw [← e]; exact hk)⟩
  rcases List.mem_cons.1 hx with rfl | hx
  · exact ⟨ha, hb⟩
  · exact h.prs _ (List.mem_cons_of_mem _ (List.mem_cons_of_mem _ hx))
/-- The parts, said in another way. -/
theorem W_conv {c : Code} {M' : List HP} (h : ∀ w, Holds Γ.w0 Γ.S0 M w → Holds Γ.w0 Γ.S0 M' w) (hk : W Γ c l M' Q) : W Γ c l M Q := fun a w ha hw => hk a w ha (h w hw)
theorem L_conv {M' : List HP} (h : ∀ w, Holds Γ.w0 Γ.S0 M w → Holds Γ.w0 Γ.S0 M' w) (hk : L Γ rest l M' K) : L Γ rest l M K := fun ops a w Q ha hw hq => hk ops a w Q ha (h w hw) hq
/-! make -/
theorem made_row (n sz : Nat) (z : Array Value) (t0 : τ) (hz : z.toList = GT.cells t0) (hsz : GT.sz τ = sz) :
    ((Array.range (n * sz)).map (z[· % z.size]!)).toList = rowCells (List.replicate n t0) := by
  have hzs : z.size = sz := by rw [← Array.length_toList, hz, GT.len, hsz]
  have hpos : 0 < sz := hsz ▸ GT.pos (τ := τ)
  refine List.ext_getElem? fun i => ?_
  by_cases hi : i < n * sz
  · have h1 : i / sz < n := Nat.div_lt_of_lt_mul (by rw [Nat.mul_comm]; exact hi)
    have h2 : i % sz < sz := Nat.mod_lt _ hpos
    have h3 := rowCells_get (List.replicate n t0) (i / sz) (i % sz) t0 (by rw [List.getElem?_replicate, if_pos h1]) (by rw [hsz]; exact h2)
    rw [hsz, Nat.div_add_mod' i sz] at h3
    rw [h3, ← hz]
    simp only [Array.toList_map, Array.toList_range, List.getElem?_map, List.getElem?_range hi, Option.map_some]
    rw [hzs]
    have h4 : i % sz < z.size := by rw [hzs]; exact h2
    rw [getElem!_pos z (i % sz) h4]
    simp [h4]
  · rw [List.getElem?_eq_none (by simpa using hi), List.getElem?_eq_none (by rw [length_rowCells, hsz, List.length_replicate]; omega)]
theorem L_make {x y : Operand} {T e sz by_ : Nat} {z : List Value} {k k' : IntKind} {n : Nat} (t0 : τ) (hn : Nat.blt d Γ.n = true) (hx : ev l x = some (.int k n)) (hy : ev l y = some (.int k' n)) (ht : elOf Γ.P T = some (e, sz, by_, z))
    (hz : GT.cells t0 = z) (hsz : GT.sz τ = sz) (hf : Flat t0) (hb : n * by_ ≤ 281474976710656) (hm : n ≤ maxLen)
    (hk : ∀ g, L Γ rest ((d, .slice (some ⟨g, 0, none⟩) n n) :: l) (treeH (⟨some ⟨g, 0, none⟩, n, e, List.replicate n t0, []⟩ : TL τ) :: M) K) :
    L Γ ({ dst := some d, op := .makeSlice T x y, type := ty, pos, after := af, guard := none } :: rest) l M K := by
  unfold elOf at ht
  split at ht <;> (try cases ht)
  rename_i e' he
  split at ht <;> (try cases ht)
  rename_i i' hi'
  split at ht <;> cases ht
  rename_i z' hz'
  have hrow := made_row n i'.size z'.cells t0 hz.symm hsz
  have hrun : ∀ w, (Instr.makeSlice T (.int k n) (.int k' n)).run Γ.P w = .ok (.slice (some ⟨w.heap.size, 0, none⟩) n n) (w.alloc (.cells (rowCells (List.replicate n t0)).toArray e (0, 0))) := by
    intro w
    have hm' : (n : Int) ≤ 9223372036854775807 := by
      have h := hm
      simp only [maxLen] at h
      omega
    have hb' : (i'.bytes : Int) * (n : Int) ≤ 281474976710656 := by
      have h : ((i'.bytes * n : Nat) : Int) ≤ 281474976710656 := by rw [Nat.mul_comm]; omega
      rwa [Int.natCast_mul] at h
    have hr := run_make (P := Γ.P) w T e i' z' he hi' hz' k k' n n (by omega) (Int.le_refl _) hb' hm'
    simp only [Int.toNat_natCast] at hr
    rw [hr]
    have : madeCells z'.cells (n * i'.size) = (rowCells (List.replicate n t0)).toArray := by
      apply Array.toList_inj.1; unfold madeCells; rw [hrow]
    rw [this]
  refine L_stepR (fun v M' => ∃ g, v = .slice (some ⟨g, 0, none⟩) n n ∧ M' = treeH (⟨some ⟨g, 0, none⟩, n, e, List.replicate n t0, []⟩ : TL τ) :: M) rfl rfl (Nat.le_of_ble_eq_true hn)
    (fun a w ha hw => ⟨_, _, w.alloc (.cells (rowCells (List.replicate n t0)).toArray e (0, 0)), ⟨w.heap.size, rfl, rfl⟩, ?_, ?_⟩) (fun v M' ⟨g, h1, h2⟩ => by subst h1; subst h2; exact hk g)
  · simp [execOp, ha.eval hx, ha.eval hy, hrun]
  · have h1 := hw.new (b := w.heap.size) (cs := rowCells (List.replicate n t0)) (T := e) rfl
    have hp := h1.prs (blk w.heap.size (rowCells (List.replicate n t0)) e) (List.mem_cons_self ..)
    have hff : ∀ x, x ∈ List.replicate n t0 → Flat x := fun x hx => by rw [List.eq_of_mem_replicate hx]; exact hf
    refine ⟨h1.os, h1.tape, h1.output, h1.size, h1.old, fun x hx => ?_, ?_, fun k hk => h1.rng k ?_⟩
    · rcases List.mem_cons.1 hx with rfl | hx
      · refine ⟨by simp, hm, fun y hy => (hff y hy).ow _, fun h => (by cases h), fun a ha => ?_⟩
        cases ha
        exact ⟨rfl, rfl, by rw [List.append_nil]; exact hp, by simp⟩
      · exact h1.prs x (List.mem_cons_of_mem _ hx)
    · have h2 := h1.nodup
      rw [fps_cons] at h2 ⊢
      show (([w.heap.size] ++ (List.replicate n t0).flatMap GT.fp) ++ fps M).Nodup
      rw [fps_flat _ hff]; exact h2
    · rw [fps_cons] at hk ⊢
      have hk' : k ∈ ([w.heap.size] ++ (List.replicate n t0).flatMap GT.fp) ++ fps M := hk
      rw [fps_flat _ hff] at hk'; exact hk'
end
end Go.Proofs.SL
namespace Go.Proofs.SL
open Go
variable {Γ : Cx} {l : Envl} {M F : List HP} {Q : Post} {K : Kont} {w0 w : World} {S0 : List Nat}
variable {rest : List Oper} {d : Nat} {ty : TypeId} {pos : String} {af : Array Edge}
theorem Holds.drew (h : Holds w0 S0 M w) : Holds w0 S0 M w.drew := ⟨h.os, h.tape, h.output, h.size, h.old, fun x hx => x.st w _ (fun _ _ => rfl) (h.prs x hx), h.nodup, h.rng⟩
/-- One row in the place of another one, its block turned or new; all else as it was. -/
theorem Holds.swap {h h' : HP} {w' : World} (hw : Holds w0 S0 (h :: F) w) (hos : w'.os = w.os) (htape : w'.tape = w.tape) (hout : w'.output = w.output) (hsz : w.heap.size ≤ w'.heap.size)
    (hsame : ∀ k, k < w.heap.size → k ∉ h.fp → w'.heap[k]? = w.heap[k]?) (hfp : ∀ k, k ∈ h'.fp → (k ∈ h.fp ∨ w.heap.size ≤ k) ∧ k < w'.heap.size) (hnd : h'.fp.Nodup) (hpr : h'.pr w') : Holds w0 S0 (h' :: F) w' := by
  have hnd0 := hw.nodup
  rw [fps_cons] at hnd0
  obtain ⟨_, hn2, hdis⟩ := List.nodup_append.1 hnd0
  have hr1 : ∀ k, k ∈ h.fp → (k ∈ S0 ∨ w0.heap.size ≤ k) ∧ k < w.heap.size := fun k hk => hw.rng k (by rw [fps_cons]; exact List.mem_append_left _ hk)
  have hr2 : ∀ k, k ∈ fps F → (k ∈ S0 ∨ w0.heap.size ≤ k) ∧ k < w.heap.size := fun k hk => hw.rng k (by rw [fps_cons]; exact List.mem_append_right _ hk)
  have hno : ∀ k, k ∈ fps F → k ∉ h.fp := fun k h2 h1 => hdis k h1 k h2 rfl
  refine ⟨hos.trans hw.os, htape.trans hw.tape, hout.trans hw.output, Nat.le_trans hw.size hsz, fun k hk hs => ?_, fun x hx => ?_, ?_, fun k hk => ?_⟩
  · rw [hsame k (Nat.lt_of_lt_of_le hk hw.size) (fun hm => by
      rcases (hr1 k hm).1 with h3 | h3
      · exact hs h3
      · omega)]
    exact hw.old k hk hs
  · rcases List.mem_cons.1 hx with rfl | hx
    · exact hpr
    · refine x.st w w' (fun k hk => ?_) (hw.prs x (List.mem_cons_of_mem _ hx))
      have hm : k ∈ fps F := List.mem_flatMap.2 ⟨x, hx, hk⟩
      exact hsame k (hr2 k hm).2 (hno k hm)
  · rw [fps_cons]
    refine List.nodup_append.2 ⟨hnd, hn2, fun a ha b hb e => ?_⟩
    subst e
    rcases (hfp a ha).1 with h3 | h3
    · exact hno a hb h3
    · have := (hr2 a hb).2; omega
  · rw [fps_cons] at hk
    rcases List.mem_append.1 hk with hk | hk
    · obtain ⟨h3, h4⟩ := hfp k hk
      refine ⟨?_, h4⟩
      rcases h3 with h3 | h3
      · exact (hr1 k h3).1
      · exact .inr (Nat.le_trans hw.size h3)
    · exact ⟨(hr2 k hk).1, Nat.lt_of_lt_of_le (hr2 k hk).2 hsz⟩
section
variable {τ δ : Type} [GT τ δ]
theorem size_zc (z : Array Value) (n : Nat) : (Builtin.zeroCells z n).size = n * z.size := by simp [Builtin.zeroCells]
/-- append of nothing (a nil slice). -/
theorem append_none {P : Program} {T e sz by_ : Nat} {z : List Value} (ht : elOf P T = some (e, sz, by_, z)) {a : Option Addr} {n c c2 : Nat} (hnc : n ≤ c) (ty : TypeId) :
    (Builtin.append_ #[T, T] ty #[.slice a n c, .slice none 0 c2]).run P w = .ok (.slice a n c) w := by
  unfold elOf at ht
  split at ht <;> (try cases ht)
  rename_i e' het
  split at ht <;> (try cases ht)
  rename_i i' hi'
  cases a <;> simp [Builtin.append_, run_underlying het, sizeOf, typeInfo, hi', Builtin.lenOf, Builtin.firstCells, hnc, storeCells]
def elsT (xs : List τ) : HP := ⟨xs.flatMap GT.fp, fun w => ∀ x, x ∈ xs → GT.ow w x, fun w w' h hp x hx => GT.ow_st (fun k hk => h k (List.mem_flatMap.2 ⟨x, hx, hk⟩)) (hp x hx)⟩
theorem Holds.reFp {h1 h2 : List HP} {w : World} (hw : Holds w0 S0 h1 w) (he : List.Perm (fps h1) (fps h2)) (hp : ∀ x, x ∈ h2 → x.pr w) : Holds w0 S0 h2 w :=
  ⟨hw.os, hw.tape, hw.output, hw.size, hw.old, hp, he.nodup_iff.1 hw.nodup, fun k hk => hw.rng k (he.mem_iff.2 hk)⟩
theorem tree_row {L : TL τ} (h : Holds w0 S0 (treeH L :: M) w) : Holds w0 S0 (rowH L :: elsT L.els :: M) w := by
  have ht : GT.ow w L := h.prs _ (List.mem_cons_self ..)
  refine h.reFp (List.Perm.of_eq ?_) fun x hx => ?_
  · simp only [fps_cons]
    show ((match L.a with | none => [] | some a => [a.block]) ++ L.els.flatMap GT.fp) ++ fps M = _
    rw [List.append_assoc]; rfl
  · rcases List.mem_cons.1 hx with rfl | hx
    · exact ⟨ht.1, ht.2.1, ht.2.2.2.1, ht.2.2.2.2⟩
    rcases List.mem_cons.1 hx with rfl | hx
    · exact ht.2.2.1
    · exact h.prs _ (List.mem_cons_of_mem _ hx)
theorem row_tree {L : TL τ} (h : Holds w0 S0 (rowH L :: elsT L.els :: M) w) : Holds w0 S0 (treeH L :: M) w := by
  have hr := h.prs (rowH L) (List.mem_cons_self ..)
  have he := h.prs (elsT L.els) (List.mem_cons_of_mem _ (List.mem_cons_self ..))
  refine h.reFp (List.Perm.of_eq ?_) fun x hx => ?_
  · simp only [fps_cons]
    show _ = ((match L.a with | none => [] | some a => [a.block]) ++ L.els.flatMap GT.fp) ++ fps M
    rw [List.append_assoc]; rfl
  · rcases List.mem_cons.1 hx with rfl | hx
    · exact ⟨hr.1, hr.2.1, he, hr.2.2.1, hr.2.2.2⟩
    · exact h.prs _ (List.mem_cons_of_mem _ (List.mem_cons_of_mem _ hx))
theorem elsT_app {xs ys : List τ} (h : Holds w0 S0 (elsT xs :: elsT ys :: M) w) : Holds w0 S0 (elsT (xs ++ ys) :: M) w := by
  refine h.reFp (List.Perm.of_eq ?_) fun x hx => ?_
  · simp only [fps_cons]; show _ = (xs ++ ys).flatMap GT.fp ++ fps M; rw [List.flatMap_append, List.append_assoc]; rfl
  · rcases List.mem_cons.1 hx with rfl | hx
    · intro y hy
      rcases List.mem_append.1 hy with hy | hy
      · exact h.prs (elsT xs) (List.mem_cons_self ..) y hy
      · exact h.prs (elsT ys) (List.mem_cons_of_mem _ (List.mem_cons_self ..)) y hy
    · exact h.prs _ (List.mem_cons_of_mem _ (List.mem_cons_of_mem _ hx))
theorem elsT_one {x : τ} (h : Holds w0 S0 (treeH x :: M) w) : Holds w0 S0 (elsT [x] :: M) w := by
  refine h.reFp (List.Perm.of_eq ?_) fun y hy => ?_
  · simp only [fps_cons]; show _ = [x].flatMap GT.fp ++ fps M; simp [treeH]
  · rcases List.mem_cons.1 hy with rfl | hy
    · intro z hz; simp at hz; subst hz; exact h.prs (treeH z) (List.mem_cons_self ..)
    · exact h.prs _ (List.mem_cons_of_mem _ hy)
theorem elsT_flat {xs : List τ} (h : Holds w0 S0 M w) (hf : ∀ x, x ∈ xs → Flat x) : Holds w0 S0 (elsT xs :: M) w := by
  refine h.reFp (List.Perm.of_eq ?_) fun y hy => ?_
  · rw [fps_cons]; show _ = xs.flatMap GT.fp ++ fps M; rw [fps_flat xs hf]; rfl
  · rcases List.mem_cons.1 hy with rfl | hy
    · exact fun x hx => (hf x hx).ow w
    · exact h.prs _ hy
end
end Go.Proofs.SL
namespace Go.Proofs.SL
open Go
variable {Γ : Cx} {l : Envl} {M M1 M2 F : List HP} {Q : Post} {K : Kont} {w0 w : World} {S0 : List Nat}
variable {rest : List Oper} {d : Nat} {ty : TypeId} {pos : String} {af : Array Edge}
/-- What can be read here. -/
def RdT {τ δ : Type} [GT τ δ] (Γ : Cx) (M : List HP) (t : τ) : Prop := ∀ w, Sees Γ.w0 Γ.S0 M w → GT.rd w [] t
section
variable {τ δ : Type} [GT τ δ] {t : τ}
theorem RdT.old (h : GT.rd Γ.w0 Γ.S0 t) : RdT Γ M t := fun _ hw => GT.rd_mono h fun _ _ ho => ⟨ho.now hw, by simp⟩
theorem RdT.tree (h : treeH t ∈ M) : RdT Γ M t := fun _ hw => rd_of_tree h hw
theorem RdT.fst {α β δ ε : Type} [GT α δ] [GT β ε] {t : α × β} (h : RdT Γ M t) : RdT Γ M t.1 := fun w hw => (h w hw).1
theorem RdT.snd {α β δ ε : Type} [GT α δ] [GT β ε] {t : α × β} (h : RdT Γ M t) : RdT Γ M t.2 := fun w hw => (h w hw).2
theorem RdT.el {L : TL τ} {x : τ} (h : RdT Γ M L) (hx : x ∈ L.els) : RdT Γ M x := fun w hw => (h w hw).2.2.1 x hx
theorem RdT.cells {L : TL τ} {g o i : Nat} {x : τ} (h : RdT Γ M L) (ha : L.a = some ⟨g, o, none⟩) (hi : L.els[i]? = some x) : RdC Γ M g (o + i * GT.sz τ) (GT.cells x) := fun w hw j v hv =>
  ((Cells.el (h w hw) ha hi) j v hv).1
theorem RdT.row {L : TL τ} {g o : Nat} (h : RdT Γ M L) (ha : L.a = some ⟨g, o, none⟩) : RdC Γ M g o (rowCells L.els) := fun w hw j v hv => (((h w hw).2.2.2.2 _ ha).2 j v hv).1
theorem RdT.sub {M' : List HP} (h : RdT Γ M t) (hm : ∀ x, x ∈ M → x ∈ M') : RdT Γ M' t := fun w hw => h w ⟨hw.old, fun x hx => hw.prs x (hm x hx)⟩
end
theorem Pick.sub {h : HP} {M M' : List HP} (p : Pick h M M') : ∀ x, x ∈ M' → x ∈ M := fun x hx => p.perm.mem_iff.2 (List.mem_cons_of_mem _ hx)
section
variable {τ δ : Type} [GT τ δ]
end
end Go.Proofs.SL
namespace Go.Proofs.SL
open Go
variable {Γ : Cx} {l : Envl} {M M1 M2 F : List HP} {Q : Post} {K : Kont} {w0 w : World} {S0 : List Nat}
variable {rest : List Oper} {d : Nat} {ty : TypeId} {pos : String} {af : Array Edge}
theorem L_extract {x : Operand} {i : Nat} {vs : Array Value} {v : Value} (hn : Nat.blt d Γ.n = true) (hx : ev l x = some (.tuple vs)) (hv : vs[i]? = some v) (hk : L Γ rest ((d, v) :: l) M K) :
    L Γ ({ dst := some d, op := .extract x i, type := ty, pos, after := af, guard := none } :: rest) l M K :=
  L_pure hn (fun a w ha _ => by simp [execOp, ha.eval hx, Instr.extract, hv]) hk
theorem L_makeFunc {fn : Fn} {fs cs : List Operand} {us vs : List Value} (hn : Nat.blt d Γ.n = true) (hf : evs l fs = some us) (hc : evs l cs = some vs) (hk : L Γ rest ((d, .func fn us.toArray vs.toArray) :: l) M K) :
    L Γ ({ dst := some d, op := .makeFunc fn fs.toArray cs.toArray, type := ty, pos, after := af, guard := none } :: rest) l M K :=
  L_pure hn (fun a w ha _ => by simp [execOp, Instr.makeFunc, ha.evals _ _ hf, ha.evals _ _ hc]) hk
/-! A function value -/
theorem L_callV {o : Oper} {t d' f : Nat} {xs : List Operand} {ats : Array TypeId} {vs cs : List Value} {M1 M2 : List HP} {R : Value → List HP → Prop}
    (ho : o.op = .call { callee := .value (.tmp t), args := xs.toArray, argTypes := ats }) (hg : o.guard = none) (hd : o.dst = some d') (hn : d' < Γ.n) (ht : l.lookup t = some (.func (.func f) #[] cs.toArray))
    (hf : IsFn Γ.P f) (hx : evs l xs = some vs) (hp : List.Perm M (M1 ++ M2))
    (hc : ∀ w, Holds Γ.w0 Γ.S0 (M1 ++ M2) w → Spec Γ.P f (vs ++ cs).toArray w M1 R)
    (hk : ∀ v M', R v M' → L Γ rest ((d', v) :: l) (M' ++ M2) K) : L Γ (o :: rest) l M K := fun ops a w Q ha hw hq =>
  wpList_plain hg fun K' hK' => by
    have hw' := hw.perm hp
    have ht' : a.eval (.tmp t) = .func (.func f) #[] cs.toArray := ha.eval (x := .tmp t) ht
    have he : (execOp a.eval o).run Γ.P w = .ok (.enter f (vs ++ cs).toArray) w := by
      unfold execOp; rw [ho]
      simp [resolve, Deferred.ofValue, ht', invoke, ha.evals xs vs hx, hf.run]
    unfold Oper.wp
    rw [he, Oper.upon_enter]
    refine (hc w hw' hw'.split).mono fun e w'' ⟨v, M', h1, h2, h3⟩ => ?_
    subst h1
    simp only [hd]
    exact hK' _ _ (hk v M' h2 ops _ w'' Q (ha.put hn) (hw'.frame h3) hq)
theorem L_callVX {t f : Nat} {xs : List Operand} {ats : Array TypeId} {vs cs : List Value} {x : Value} (hn : Nat.blt d Γ.n = true) (ht : l.lookup t = some (.func (.func f) #[] cs.toArray))
    (hf : IsFn Γ.P f) (hx : evs l xs = some vs) (hc : ∀ w, Holds Γ.w0 Γ.S0 M w → Spec Γ.P f (vs ++ cs).toArray w [] (IsV x))
    (hk : L Γ rest ((d, x) :: l) M K) : L Γ ({ dst := some d, op := .call { callee := .value (.tmp t), args := xs.toArray, argTypes := ats }, type := ty, pos := pos, after := af, guard := none } :: rest) l M K :=
  L_callV (M1 := []) (M2 := M) (R := IsV x) rfl rfl rfl (Nat.le_of_ble_eq_true hn) ht hf hx (by simp) (fun w hw => hc w hw) (fun v M' ⟨h1, h2⟩ => by subst h1; subst h2; exact hk)
/-! Values built of parts -/
def fillL (place : Nat → Option (Nat × Nat)) (cells : List Value) : List (Nat × Value) → Option (List Value)
  | [] => some cells
  | (i, v) :: rest =>
    match place i with
    | none => none
    | some (off, size) =>
      match Nat.beq v.cells.toList.length size && Nat.ble (off + v.cells.toList.length) cells.length with
      | true => fillL place (cells.take off ++ v.cells.toList ++ cells.drop (off + v.cells.toList.length)) rest
      | false => none
theorem setSeg (off : Nat) : ∀ (vs : List Value) (k : Nat) (cs : Array Value), off + k + vs.length ≤ cs.size →
    ((vs.zipIdx k).foldl (fun cs (p : Value × Nat) => cs.setIfInBounds (off + p.2) p.1) cs).toList = cs.toList.take (off + k) ++ vs ++ cs.toList.drop (off + k + vs.length)
  | [], k, cs, h => by simp
  | v :: vs, k, cs, h => by
    rw [List.zipIdx_cons, List.foldl_cons]
    rw [setSeg off vs (k + 1) _ (by simp at h ⊢; omega)]
    have hlt : off + k < cs.toList.length := by simp at h ⊢; omega
    have e1 : (cs.setIfInBounds (off + k) v).toList = cs.toList.set (off + k) v := by simp
    simp only [] at e1 ⊢
    rw [e1, List.set_eq_take_append_cons_drop, if_pos hlt]
    have l1 : (cs.toList.take (off + k)).length = off + k := by rw [List.length_take]; omega
    have t1 : (cs.toList.take (off + k) ++ v :: cs.toList.drop (off + k + 1)).take (off + (k + 1)) = cs.toList.take (off + k) ++ [v] := by
      rw [List.take_append, List.take_of_length_le (by omega), l1, show off + (k + 1) - (off + k) = 1 by omega]; rfl
    have t2 : (cs.toList.take (off + k) ++ v :: cs.toList.drop (off + k + 1)).drop (off + (k + 1) + vs.length) = cs.toList.drop (off + k + (v :: vs).length) := by
      rw [List.drop_append, List.drop_of_length_le (by omega), List.nil_append, l1, show off + (k + 1) + vs.length - (off + k) = vs.length + 1 by omega, List.drop_succ_cons, List.drop_drop, List.length_cons]
      congr 1; omega
    rw [t1, t2]; simp
theorem fill_eq (place : Nat → Option (Nat × Nat)) : ∀ (parts : List (Nat × Value)) (cells : Array Value) (cs : List Value), fillL place cells.toList parts = some cs → Instr.fill place cells parts = some cs.toArray
  | [], cells, cs, h => by
    simp only [fillL, Option.some.injEq] at h
    subst h; simp [Instr.fill]
  | (i, v) :: rest, cells, cs, h => by
    unfold fillL at h
    unfold Instr.fill
    cases hp : place i with
    | none => rw [hp] at h; cases h
    | some os =>
      obtain ⟨off, size⟩ := os
      rw [hp] at h
      simp only [] at h ⊢
      cases hb : (Nat.beq v.cells.toList.length size && Nat.ble (off + v.cells.toList.length) cells.toList.length) with
      | false => rw [hb] at h; cases h
      | true =>
        rw [hb] at h
        simp only [Bool.and_eq_true] at hb
        have h1 : v.cells.size = size := by have := Nat.eq_of_beq_eq_true hb.1; simpa using this
        have h2 : off + v.cells.size ≤ cells.size := by have := Nat.le_of_ble_eq_true hb.2; simpa using this
        rw [if_neg (by simp [h1]; omega)]
        refine fill_eq place rest _ cs ?_
        rw [← h]
        congr 1
        have e : (v.cells.zipIdx.foldl (fun cs (p : Value × Nat) => cs.setIfInBounds (off + p.2) p.1) cells) = (v.cells.toList.zipIdx.foldl (fun cs (p : Value × Nat) => cs.setIfInBounds (off + p.2) p.1) cells) := by
          rw [← Array.foldl_toList]; simp
        have := setSeg off v.cells.toList 0 cells (by simpa using h2)
        simp only [Nat.add_zero] at this
        rw [← this, ← e]
/-- How a struct is built: the places of its fields, its zero cells. -/
def bldOf (P : Program) (T : TypeId) : Option (List (Nat × Nat) × List Value) :=
  match P.underlying T, zeroOf P T with
  | some (.struct fs), some z => match fs.toList.mapM fun f => (P.info? f.type).map fun i => (f.offset, i.size) with
    | some pl => some (pl, z)
    | none => none
  | _, _ => none
theorem run_places {P : Program} {fs : List Field} : ∀ {pl : List (Nat × Nat)}, fs.mapM (fun f => (P.info? f.type).map fun i => (f.offset, i.size)) = some pl → (fs.mapM (fun f => Prod.mk f.offset <$> sizeOf f.type : Field → Sem (Nat × Nat))).run P w = .ok pl w := by
  induction fs with
  | nil => intro pl h; simp at h; subst h; simp
  | cons f fs ih =>
    intro pl h
    rw [List.mapM_cons] at h
    cases hf : P.info? f.type with
    | none => rw [hf] at h; simp at h
    | some i =>
      rw [hf] at h
      cases hfs : fs.mapM (fun f => (P.info? f.type).map fun i => (f.offset, i.size)) with
      | none => rw [hfs] at h; simp at h
      | some pl' =>
        rw [hfs] at h
        simp at h; subst h
        have := ih hfs
        simp [List.mapM_cons, sizeOf, typeInfo, hf] at this ⊢
        simp [this]
def evp (l : Envl) : List (Nat × Operand) → Option (List (Nat × Value))
  | [] => some []
  | (i, x) :: xs => match ev l x, evp l xs with
    | some v, some vs => some ((i, v) :: vs)
    | _, _ => none
theorem Env.evalp {a : Act} {n : Nat} (h : Env a n l) : ∀ (xs : List (Nat × Operand)) (vs : List (Nat × Value)), evp l xs = some vs → xs.map (fun (i, x) => (i, a.eval x)) = vs
  | [], vs, hx => by simp [evp] at hx; simp [hx]
  | (i, x) :: xs, vs, hx => by
    simp only [evp] at hx
    split at hx
    · rename_i v us h1 h2
      cases hx
      simp [h.eval h1, h.evalp xs us h2]
    · cases hx
theorem run_build {P : Program} {T : TypeId} {pl : List (Nat × Nat)} {z cs : List Value} {ps : List (Nat × Value)} (ht : bldOf P T = some (pl, z)) (hf : fillL (pl[·]?) z ps = some cs) :
    (Instr.build T ps.toArray).run P w = .ok (.agg cs.toArray) w := by
  unfold bldOf at ht
  split at ht <;> (try cases ht)
  rename_i fs z' hu hz
  split at ht <;> cases ht
  rename_i hpl
  have hp := run_places (w := w) hpl
  unfold zeroOf at hz
  split at hz <;> (try cases hz)
  rename_i i hi
  split at hz <;> cases hz
  rename_i zz hzz
  have h1 : (fs.mapM (fun f => do pure (f.offset, ← sizeOf f.type) : Field → Sem (Nat × Nat))).run P w = .ok pl.toArray w := by
    have : fs = fs.toList.toArray := by simp
    rw [this, List.mapM_toArray]
    simp only [bind_pure_comp, Sem.run_map]
    rw [hp]; rfl
  have h2 := fill_eq (pl[·]?) ps zz.cells cs (by simpa using hf)
  have h3 : (fun x : Nat => pl.toArray[x]?) = (fun x : Nat => pl[x]?) := by funext x; simp
  simp only [Instr.build, zeroValue, typeInfo, underlying, Sem.run_bind, run_program, Result.andThen_ok, hi, hzz, hu, Sem.run_pure, h1, h3, h2]
theorem L_build {T : TypeId} {xs : List (Nat × Operand)} {ps : List (Nat × Value)} {pl : List (Nat × Nat)} {z cs : List Value} (hn : Nat.blt d Γ.n = true) (hx : evp l xs = some ps) (ht : bldOf Γ.P T = some (pl, z))
    (hf : fillL (pl[·]?) z ps = some cs) (hk : L Γ rest ((d, .agg cs.toArray) :: l) M K) :
    L Γ ({ dst := some d, op := .build T xs.toArray, type := ty, pos, after := af, guard := none } :: rest) l M K :=
  L_pure hn (fun a w ha _ => by
    have h1 : xs.toArray.map (fun (i, x) => (i, a.eval x)) = ps.toArray := by simp [ha.evalp xs ps hx]
    simp only [execOp, h1]
    simp [run_build ht hf]) hk
theorem run_buildSlice {P : Program} {T e sz by_ : Nat} {z cs : List Value} {ps : List (Nat × Value)} {n : Nat} (ht : elOf P T = some (e, sz, by_, z)) (hz : z.length = sz) (hsz : 0 < sz) (hn : n * sz ≤ 65536) (hn0 : 0 < n)
    (hf : fillL (fun i => some (i * sz, sz)) ((List.range (n * sz)).map fun i => z.getD (i % sz) undef) ps = some cs) :
    (Instr.buildSlice T n ps.toArray).run P w = .ok (.slice (some ⟨w.heap.size, 0, none⟩) n n) (w.alloc (.cells cs.toArray e (0, 0))) := by
  unfold elOf at ht
  split at ht <;> (try cases ht)
  rename_i e' het
  split at ht <;> (try cases ht)
  rename_i i' hi'
  split at ht <;> cases ht
  rename_i z' hz'
  have hzs : z'.cells.size = i'.size := by rw [← Array.length_toList]; exact hz
  have hne : ¬ (n * i'.size = 0) := by intro h; rcases Nat.mul_eq_zero.1 h with h | h <;> omega
  have hle : ¬ (2 ^ 24 < n * i'.size) := by
    have : (2 : Nat) ^ 24 = 16777216 := by decide
    omega
  have e0 : ((Array.range (n * i'.size)).map (z'.cells[· % z'.cells.size]!)).toList = (List.range (n * i'.size)).map fun i => z'.cells.toList.getD (i % i'.size) undef := by
    rw [Array.toList_map, Array.toList_range]
    refine List.map_congr_left fun i _ => ?_
    have h2 : i % i'.size < z'.cells.size := by rw [hzs]; exact Nat.mod_lt _ hsz
    rw [hzs, getElem!_pos z'.cells (i % i'.size) h2]
    simp [List.getD_eq_getElem?_getD, h2]
  have h2 := fill_eq (fun i => some (i * i'.size, i'.size)) ps ((Array.range (n * i'.size)).map (z'.cells[· % z'.cells.size]!)) cs (by rw [e0]; exact hf)
  simp only [Instr.buildSlice, underlying, het, sizeOf, typeInfo, hi', Sem.run_bind, run_program, Result.andThen_ok, Sem.run_pure, gt_iff_lt, hle, if_false, hne, zeroValue, hz', newRow, run_newObj]
  simp only [h2, Sem.run_bind, Result.andThen_ok, Sem.run_pure, newRow, run_newObj, Sem.run_map]
  rfl
theorem L_buildSlice {T e sz by_ n : Nat} {z cs : List Value} {xs : List (Nat × Operand)} {ps : List (Nat × Value)} (hn : Nat.blt d Γ.n = true) (hx : evp l xs = some ps) (ht : elOf Γ.P T = some (e, sz, by_, z)) (hz : z.length = sz)
    (hsz : 0 < sz) (hns : n * sz ≤ 65536) (hn0 : 0 < n) (hf : fillL (fun i => some (i * sz, sz)) ((List.range (n * sz)).map fun i => z.getD (i % sz) undef) ps = some cs)
    (hk : ∀ b, L Γ rest ((d, .slice (some ⟨b, 0, none⟩) n n) :: l) (blk b cs e :: M) K) :
    L Γ ({ dst := some d, op := .buildSlice T n xs.toArray, type := ty, pos, after := af, guard := none } :: rest) l M K :=
  L_stepR (fun v M' => ∃ b, v = .slice (some ⟨b, 0, none⟩) n n ∧ M' = blk b cs e :: M) rfl rfl (Nat.le_of_ble_eq_true hn)
    (fun a w ha hw => by
      have h1 : xs.toArray.map (fun (i, x) => (i, a.eval x)) = ps.toArray := by simp [ha.evalp xs ps hx]
      refine ⟨_, _, _, ⟨w.heap.size, rfl, rfl⟩, ?_, hw.new rfl⟩
      simp only [execOp, h1]
      simp [run_buildSlice ht hz hsz hns hn0 hf]) (fun v M' ⟨b, h1, h2⟩ => by subst h1; subst h2; exact hk b)
/-- A slice of one part. -/
theorem L_buildSlice1 {T e sz by_ : Nat} {z : List Value} {x : Operand} {v : Value} (hn : Nat.blt d Γ.n = true) (hx : ev l x = some v) (ht : elOf Γ.P T = some (e, sz, by_, z)) (hz : z.length = sz)
    (hsz : 0 < sz) (hns : sz ≤ 65536) (hv : v.cells.toList.length = sz)
    (hk : ∀ b, L Γ rest ((d, .slice (some ⟨b, 0, none⟩) 1 1) :: l) (blk b v.cells.toList e :: M) K) :
    L Γ ({ dst := some d, op := .buildSlice T 1 #[(0, x)], type := ty, pos, after := af, guard := none } :: rest) l M K :=
  L_buildSlice (xs := [(0, x)]) (ps := [(0, v)]) (cs := v.cells.toList) hn (by simp [evp, hx]) ht hz hsz (by omega) (by omega) (by
    simp only [fillL, Nat.zero_mul, Nat.one_mul, Nat.zero_add, hv, Nat.beq_refl, Bool.true_and, List.length_map, List.length_range, List.take_zero, List.nil_append]
    rw [show Nat.ble sz sz = true from Nat.ble_eq_true_of_le (Nat.le_refl _)]
    simp only []
    rw [List.drop_of_length_le (by simp), List.append_nil]) hk
end Go.Proofs.SL
namespace Go.Proofs.SL
open Go Go.Deep
/-- What holds of all data that a program can be given: numbers within their kind, lengths within what a length can be. -/
class Ok (δ : Type) where
  ok : δ → Prop
instance : Ok Int := ⟨inR⟩
instance : Ok Bool := ⟨fun _ => True⟩
instance : Ok UInt8 := ⟨fun _ => True⟩
instance : Ok ByteArray := ⟨fun s => s.size ≤ 9223372036854775807⟩
instance {δ ε : Type} [Ok δ] [Ok ε] : Ok (δ × ε) := ⟨fun p => Ok.ok p.1 ∧ Ok.ok p.2⟩
instance {δ : Type} [Ok δ] : Ok (List δ) := ⟨fun l => l.length ≤ 9223372036854775807 ∧ ∀ x, x ∈ l → Ok.ok x⟩
/-- What reads as data of type T is a tree. -/
def Opn (P : Program) (T : TypeId) (τ : Type) {δ : Type} [GT τ δ] [Ok δ] : Prop :=
  ∀ {H : Type} (enc : TypeId × Value → H) (w : World) (spare : Nat → Bool) (held : Bool) (fuel : Nat) (cs : List Value) (x : DataW H × List MemPlace), DataW.trod enc P w 0 spare held fuel T cs = some x →
    ∃ t : τ, cs = GT.cells t ∧ GT.rd w [] t ∧ Ok.ok (GT.dat t)
variable {P : Program} {T : TypeId}
theorem inR_of_wf {n : Int} (h : (Lit.int .i64 n).wf = true) : inR n := bounds_i64 h
theorem Opn.int (ht : P.underlying T = some (.int .i64)) : Opn P T Int := fun enc w spare held fuel cs x h => by
  obtain ⟨n, h1, _, h3⟩ := DataW.trod_int ht h
  exact ⟨n, h1, trivial, inR_of_wf h3⟩
theorem Opn.u8 (ht : P.underlying T = some (.int .u8)) : Opn P T UInt8 := fun enc w spare held fuel cs x h => by
  obtain ⟨n, h1, _, h3⟩ := DataW.trod_int ht h
  obtain ⟨h4, h5⟩ := bounds_u8 h3
  obtain ⟨k, rfl⟩ := Int.eq_ofNat_of_zero_le h4
  refine ⟨UInt8.ofNat k, ?_, trivial, trivial⟩
  rw [h1]
  show _ = [Value.int .u8 ((UInt8.ofNat k).toNat : Int)]
  have : (UInt8.ofNat k).toNat = k := by simp; omega
  rw [this]
theorem Opn.bool (ht : P.underlying T = some .bool) : Opn P T Bool := fun enc w spare held fuel cs x h => by
  obtain ⟨b, h1, _⟩ := DataW.trod_bool ht h
  exact ⟨b, h1, trivial, trivial⟩
theorem Opn.str (ht : P.underlying T = some .string) : Opn P T ByteArray := fun enc w spare held fuel cs x h => by
  obtain ⟨s, h1, _, h3⟩ := DataW.trod_string ht h
  refine ⟨s, h1, trivial, ?_⟩
  show s.size ≤ 9223372036854775807
  have : s.size ≤ maxLen := h3
  simp only [maxLen] at this; omega
theorem chooseL {α : Type} {p : Nat → α → Prop} : ∀ (len : Nat), (∀ i, i < len → ∃ t, p i t) → ∃ ts : List α, ts.length = len ∧ ∀ i t, ts[i]? = some t → p i t
  | 0, _ => ⟨[], rfl, fun i t h => by simp at h⟩
  | len + 1, h => by
    obtain ⟨ts, h1, h2⟩ := chooseL len (fun i hi => h i (by omega))
    obtain ⟨t, h3⟩ := h len (by omega)
    refine ⟨ts ++ [t], by simp [h1], fun i t' hi => ?_⟩
    by_cases hlt : i < ts.length
    · rw [List.getElem?_append_left hlt] at hi; exact h2 i t' hi
    · rw [List.getElem?_append_right (by omega)] at hi
      have : i = len := by
        have := (List.getElem?_eq_some_iff.1 hi).1
        simp at this; omega
      subst this
      rw [h1, Nat.sub_self] at hi
      simp at hi; subst hi
      exact h3
section
variable {τ δ : Type} [GT τ δ] [Ok δ]
theorem Opn.slice {e : TypeId} (ht : P.underlying T = some (.slice e)) (hc : P.cellsOf e = GT.sz τ) (he : Opn P e τ) : Opn P T (TL τ) := fun enc w spare held fuel cs x h => by
  rcases DataW.trod_slice ht h with ⟨h1, _⟩ | ⟨a, len, cap, elems, rest, n, _, h1, _, hb, hl, hm, hlen, hel, _, _⟩
  · exact ⟨⟨none, 0, 0, [], []⟩, h1, ⟨Nat.le_refl _, by simp [maxLen], fun x hx => (by cases hx), fun _ => rfl, fun a ha => by cases ha⟩, Nat.zero_le _, fun x hx => by cases hx⟩
  · rw [hc] at hel
    have key : ∀ i, i < len → ∃ t : τ, w.cells? 0 (a.add (i * GT.sz τ)) (GT.sz τ) = some (GT.cells t) ∧ GT.rd w [] t ∧ Ok.ok (GT.dat t) := by
      intro i hi
      have h2 := hel i hi
      have h3 : i < elems.length := by omega
      rw [List.getElem?_eq_getElem h3] at h2
      obtain ⟨cs', h4, h5⟩ := Option.bind_eq_some_iff.1 h2
      obtain ⟨t, h6, h7⟩ := he enc w spare held n cs' _ h5
      subst h6
      exact ⟨t, h4, h7⟩
    have key2 := chooseL (p := fun i (t : τ) => w.cells? 0 (a.add (i * GT.sz τ)) (GT.sz τ) = some (GT.cells t) ∧ GT.rd w [] t ∧ Ok.ok (GT.dat t)) len key
    obtain ⟨ts, hts, hts2⟩ := key2
    have hcell : ∀ i t k v, ts[i]? = some t → (GT.cells t)[k]? = some v → w.cell? ((a.add (i * GT.sz τ)).add k) = some v := by
      intro i t k v hi hk
      have h2 := (hts2 i t hi).1
      unfold World.cells? at h2
      split at h2
      · have hkl : k < GT.sz τ := by rw [← GT.len t]; exact (List.getElem?_eq_some_iff.1 hk).1
        have := mapM_some_get h2 k k (by simp [hkl])
        rw [this, hk]
      · cases h2
    refine ⟨⟨some a, cap, 0, ts, []⟩, ?_, ⟨by show ts.length ≤ cap; omega, hm, fun t ht => ?_, fun h => (by cases h), fun a' ha' => ?_⟩, ?_, fun x hx => ?_⟩
    · rw [h1]; show _ = [Value.slice (some a) ts.length cap]; rw [hts]
    · obtain ⟨i, hi⟩ := List.getElem?_of_mem ht
      exact (hts2 i t hi).2.1
    rotate_left
    · show (ts.map GT.dat).length ≤ 9223372036854775807
      rw [List.length_map]
      have : cap ≤ maxLen := hm
      simp only [maxLen] at this; omega
    · obtain ⟨t, ht, rfl⟩ := List.mem_map.1 hx
      obtain ⟨i, hi⟩ := List.getElem?_of_mem ht
      exact (hts2 i t hi).2.2
    · have ha2 : a = a' := by simpa using ha'
      subst ha2
      -- an element's first cell lies at a plain place
      have hspot : ts ≠ [] → a.spot = none := by
        intro hne
        have h0 : 0 < ts.length := List.length_pos_iff.2 hne
        have hpos := GT.pos (τ := τ)
        have h2 : ts[0]? = some ts[0] := List.getElem?_eq_getElem h0
        have hl0 : 0 < (GT.cells ts[0]).length := by rw [GT.len]; exact hpos
        have h3 : (GT.cells ts[0])[0]? = some ((GT.cells ts[0])[0]'hl0) := List.getElem?_eq_getElem hl0
        have h4 := hcell 0 _ 0 _ h2 h3
        simp only [Nat.zero_mul, Addr.add, if_true] at h4
        unfold World.cell? at h4
        split at h4
        · split at h4
          · cases h4
          · rename_i hs; simpa using hs
        · cases h4
      refine ⟨hspot, fun j v hv => ⟨?_, by simp⟩⟩
      have hpos := GT.pos (τ := τ)
      have hj : j < ts.length * GT.sz τ := by rw [← length_rowCells]; exact (List.getElem?_eq_some_iff.1 hv).1
      have h5 : j / GT.sz τ < ts.length := Nat.div_lt_of_lt_mul (by rw [Nat.mul_comm]; exact hj)
      have h6 : ts[j / GT.sz τ]? = some ts[j / GT.sz τ] := List.getElem?_eq_getElem h5
      have h7 := rowCells_get ts (j / GT.sz τ) (j % GT.sz τ) _ h6 (Nat.mod_lt _ hpos)
      rw [Nat.div_add_mod' j (GT.sz τ)] at h7
      rw [h7] at hv
      have h8 := hcell _ _ _ _ h6 hv
      have hs := hspot (fun e => by subst e; simp at h5)
      obtain ⟨b, o, s⟩ := a
      have hs' : s = none := hs
      subst hs'
      rw [addr_add, addr_add, Nat.add_assoc, Nat.div_add_mod' j (GT.sz τ)] at h8
      exact h8
end
/-- The fields of a struct, one behind the other. -/
def OpnFs (P : Program) (off : Nat) (fs : List Field) (τ : Type) {δ : Type} [GT τ δ] [Ok δ] : Prop :=
  ∀ {H : Type} (enc : TypeId × Value → H) (w : World) (spare : Nat → Bool) (held : Bool) (n : Nat) (cs : List Value),
    (∀ f, f ∈ fs → ∃ x, DataW.trod enc P w 0 spare held n f.type ((cs.drop f.offset).take (P.cellsOf f.type)) = some x) → ∃ t : τ, (cs.drop off).take (GT.sz τ) = GT.cells t ∧ GT.rd w [] t ∧ Ok.ok (GT.dat t)
section
variable {τ τ' δ δ' : Type} [GT τ δ] [GT τ' δ'] [Ok δ] [Ok δ']
theorem OpnFs.one {f : Field} {off : Nat} (ho : f.offset = off) (hc : P.cellsOf f.type = GT.sz τ) (h : Opn P f.type τ) : OpnFs P off [f] τ := fun enc w spare held n cs hh => by
  obtain ⟨x, hx⟩ := hh f (by simp)
  obtain ⟨t, h1, h2⟩ := h enc w spare held n _ _ hx
  rw [ho, hc] at h1
  exact ⟨t, h1, h2⟩
theorem OpnFs.cons {f : Field} {fs : List Field} {off : Nat} (ho : f.offset = off) (hc : P.cellsOf f.type = GT.sz τ) (h : Opn P f.type τ) (hr : OpnFs P (off + GT.sz τ) fs τ') : OpnFs P off (f :: fs) (τ × τ') := fun enc w spare held n cs hh => by
  obtain ⟨x, hx⟩ := hh f (by simp)
  obtain ⟨t, h1, h2, h2'⟩ := h enc w spare held n _ _ hx
  obtain ⟨t', h3, h4, h4'⟩ := hr enc w spare held n cs (fun g hg => hh g (List.mem_cons_of_mem _ hg))
  rw [ho, hc] at h1
  refine ⟨(t, t'), ?_, ⟨h2, h4⟩, h2', h4'⟩
  show (cs.drop off).take (GT.sz τ + GT.sz τ') = GT.cells t ++ GT.cells t'
  rw [List.take_add, h1, List.drop_drop, h3]
theorem Opn.struct {fs : List Field} (ht : P.underlying T = some (.struct fs.toArray)) (hc : P.cellsOf T = GT.sz τ) (h : OpnFs P 0 fs τ) : Opn P T τ := fun enc w spare held fuel cs x hx => by
  obtain ⟨xs, n, _, _, hl, hxl, hf⟩ := DataW.trod_struct ht hx
  obtain ⟨t, h1, h2⟩ := h enc w spare held n cs (fun f hfm => by
    obtain ⟨i, hi⟩ := List.getElem?_of_mem hfm
    have h3 := hf i f (by simpa using hi)
    have h4 : i < xs.length := by rw [hxl]; have := (List.getElem?_eq_some_iff.1 hi).1; simpa using this
    rw [List.getElem?_eq_getElem h4] at h3
    exact ⟨_, h3⟩)
  refine ⟨t, ?_, h2⟩
  rw [← h1, List.drop_zero, List.take_of_length_le (by rw [hl, hc]; exact Nat.le_refl _)]
end
/-- What a contract over an argument's data says, as the row's frame wants it. -/
theorem Holds.below {W W' : World} {M : List HP} (h : Holds W [] M W') : RowKit.Below W.heap.size W W' := ⟨h.os, h.tape, h.output, h.size, fun k hk => h.old k hk (by simp)⟩
theorem Spec.top {f : FuncId} {args : Array Value} {W : World} {R : Value → List HP → Prop} (h : Spec P f args W [] R) : Calls P f args W fun e W' => ∃ v M', e = .returned v ∧ R v M' ∧ RowKit.Below W.heap.size W W' :=
  (h ⟨rfl, rfl, rfl, Nat.le_refl _, fun _ _ _ => rfl, fun x hx => (by cases hx), by simp, fun k hk => by simp at hk⟩).mono fun e W' ⟨v, M', h1, h2, h3⟩ => ⟨v, M', h1, h2, h3.below⟩
end Go.Proofs.SL
namespace Go.Proofs.SL
open Go
variable {Γ : Cx} {l : Envl} {M M' M1 M2 : List HP} {Q : Post} {K : Kont} {w0 w : World} {S0 : List Nat}
variable {rest : List Oper} {d : Nat} {ty : TypeId} {pos : String} {af : Array Edge}
class Bk (τ : Type) where
  bulk : τ → Nat
instance : Bk Int := ⟨fun _ => 0⟩
instance : Bk Bool := ⟨fun _ => 0⟩
instance : Bk UInt8 := ⟨fun _ => 0⟩
instance : Bk ByteArray := ⟨fun s => s.size⟩
instance {α β : Type} [Bk α] [Bk β] : Bk (α × β) := ⟨fun p => Bk.bulk p.1 + Bk.bulk p.2⟩
def bulks {τ : Type} [Bk τ] : List τ → Nat
  | [] => 0
  | x :: xs => Bk.bulk x + bulks xs
instance {τ : Type} [Bk τ] : Bk (TL τ) := ⟨fun L => L.els.length + bulks L.els⟩
theorem bulk_pair {α β : Type} [Bk α] [Bk β] (a : α) (b : β) : Bk.bulk (a, b) = Bk.bulk a + Bk.bulk b := rfl
theorem bulk_TL {τ : Type} [Bk τ] (a : Option Addr) (c e : Nat) (x : List τ) (y : List Value) : Bk.bulk (⟨a, c, e, x, y⟩ : TL τ) = x.length + bulks x := rfl
section
variable {τ : Type} [Bk τ]
end
theorem dat_int (n : Int) : GT.dat n = n := rfl
theorem dat_bool (n : Bool) : GT.dat n = n := rfl
theorem dat_str (s : ByteArray) : GT.dat s = s := rfl
theorem dat_pair {α β δ ε : Type} [GT α δ] [GT β ε] (a : α) (b : β) : GT.dat (a, b) = (GT.dat a, GT.dat b) := rfl
theorem dat_TL {τ δ : Type} [GT τ δ] (a : Option Addr) (c e : Nat) (x : List τ) (y : List Value) : GT.dat (⟨a, c, e, x, y⟩ : TL τ) = x.map GT.dat := rfl
section
variable {τ δ : Type} [GT τ δ]
end
/-- Equality as a Bool. -/
noncomputable def eqB {α : Type} (a b : α) : Bool := @decide (a = b) (Classical.propDecidable _)
@[simp] theorem eqB_true {α : Type} {a b : α} : eqB a b = true ↔ a = b := by unfold eqB; exact @decide_eq_true_iff _ (Classical.propDecidable _)
@[simp] theorem eqB_false {α : Type} {a b : α} : eqB a b = false ↔ ¬ a = b := by unfold eqB; exact @decide_eq_false_iff_not _ (Classical.propDecidable _)
end Go.Proofs.SL
namespace Go.Proofs.SL
open Go
variable {Γ : Cx} {l : Envl} {M M' M1 M2 : List HP} {Q : Post} {K : Kont} {w0 w : World} {S0 : List Nat} {P : Program}
variable {rest : List Oper} {d : Nat} {ty : TypeId} {pos : String} {af : Array Edge}
theorem run_equal_bool {T : TypeId} (h : P.underlying T = some .bool) (a b : Bool) : (Op.equal T (.bool a) (.bool b)).run P w = .ok (a == b) w := run_equalIn_bool' w 9999 T a b h
theorem bv_beql {x y : Operand} {T : TypeId} {a b : Bool} (h : P.underlying T = some .bool) : BinV P .eql T x y (.bool a) (.bool b) (.bool (a == b)) := fun w => by simp [eqGuard, binOp, run_equal_bool h]
theorem bv_bneq {x y : Operand} {T : TypeId} {a b : Bool} (h : P.underlying T = some .bool) : BinV P .neq T x y (.bool a) (.bool b) (.bool (!(a == b))) := fun w => by simp [eqGuard, binOp, run_equal_bool h]
section
variable {ops : Array Oper} {Msh pool : List HP} {E : Fl} {rs : List (Option Nat × Rel)} {cs0 : List Nat} {KD : List (Option Nat × Rel) → List Nat → List HP → Prop}
/-- A call whose operands are known; its result by its contract. -/
theorem D_call1R {f : Nat} {xs : List Operand} {ats : Array TypeId} {vs : List Value} (R : Rel)
    (hf : IsFn Γ.P f) (hx : OpVs E True xs vs) (hc : ∀ w F, Holds Γ.w0 Γ.S0 F w → (∀ h, h ∈ Msh → h ∈ F) → Spec Γ.P f vs.toArray w [] R)
    (hk : DV Γ ops Msh pool ((d, R) :: E) ((some d, R) :: rs) cs0 rest KD) :
    DV Γ ops Msh pool E rs cs0 ({ dst := some d, op := .call { callee := .value (.func f), args := xs.toArray, argTypes := ats }, type := ty, pos := pos, after := af, guard := none } :: rest) KD := by
  refine DV.mk R [] pool [] (by simp) rfl ?_ (by rw [dropE_nil]; exact hk)
  intro a w F Mk _ _ hw hm hfa hcf
  have hMk : Mk = [] := hcf
  subst hMk
  rw [dropE_nil] at hfa
  simp only [List.nil_append] at hw ⊢
  rw [if_pos (by simp [Region.wanted])]
  have hw' : Holds Γ.w0 Γ.S0 F w := by simpa using hw
  have h2 : (#[] ++ xs.toArray.map a.eval ++ #[] : Array Value) = vs.toArray := by
    simp [OpVs.evals (o := { dst := some d, op := .call { callee := .value (.func f), args := xs.toArray, argTypes := ats }, type := ty, pos := pos, after := af, guard := none }) trivial hfa xs vs hx (fun x hx => by simp [Op.operands, Call.operands, hx])]
  rw [execOp_call_go, h2, hf.run]
  exact (hc w F hw' hm (Holds.split (M1 := []) (M2 := F) hw)).mono fun e w'' ⟨v, M', h1, h3, h4⟩ => ⟨v, M', h1, h3, Holds.frame (M1 := []) (M2 := F) hw h4⟩
end
theorem cells_of_blk {F : List HP} {b : Nat} {cs : List Value} {T : TypeId} (h : blk b cs T ∈ F) (hw : Sees w0 S0 F w) : Cells w [] b 0 cs := fun j v hv => by
  have hp : w.heap[b]? = some (.cells cs.toArray T (0, 0)) := hw.prs _ h
  refine ⟨?_, by simp⟩
  rw [cell_of_row _ _ _ _ _ _ hp, Nat.zero_add]
  simpa using hv
theorem Cells.carry {F : List HP} {g o : Nat} {cs : List Value} (h : Cells w0 S0 g o cs) (hw : Holds w0 S0 F w) : Cells w [] g o cs := fun j v hv => (h j v hv).carry (M1 := []) (M2 := F) hw
/-- Where the first element that passes stands, or -1. -/
def firstI {α : Type} (p : α → Bool) (xs : List α) : Int := match xs.findIdx? p with | some i => (i : Int) | none => -1
theorem firstI_hit {α : Type} {p : α → Bool} {xs : List α} {k : Nat} {u : α} (h : ∀ x, x ∈ xs.take k → p x = false) (hu : xs[k]? = some u) (hp : p u = true) : firstI p xs = k := by
  unfold firstI
  have hk := (List.getElem?_eq_some_iff.1 hu)
  obtain ⟨hlt, hk⟩ := hk
  have : xs.findIdx? p = some k := by
    rw [List.findIdx?_eq_some_iff_getElem]
    refine ⟨hlt, by rw [hk]; exact hp, fun j hj => ?_⟩
    have := h (xs[j]) (List.mem_iff_getElem?.2 ⟨j, by rw [List.getElem?_take_of_lt hj]; exact List.getElem?_eq_getElem _⟩)
    simp [this]
  rw [this]
theorem firstI_miss {α : Type} {p : α → Bool} {xs : List α} (h : ∀ x, x ∈ xs → p x = false) : firstI p xs = -1 := by
  unfold firstI
  rw [List.findIdx?_eq_none_iff.2 h]
theorem firstI_find {α : Type} (p : α → Bool) (xs : List α) : (firstI p xs = -1 ∧ xs.find? p = none) ∨ ∃ (k : Nat) (u : α), firstI p xs = (k : Int) ∧ xs[k]? = some u ∧ xs.find? p = some u ∧ k < xs.length := by
  unfold firstI
  cases h : xs.findIdx? p with
  | none =>
    refine .inl ⟨rfl, ?_⟩
    rw [List.find?_eq_none]
    intro x hx
    have := List.findIdx?_eq_none_iff.1 h x hx
    simp [this]
  | some i =>
    obtain ⟨h1, h2, h3⟩ := List.findIdx?_eq_some_iff_getElem.1 h
    refine .inr ⟨i, xs[i], rfl, List.getElem?_eq_getElem h1, ?_, h1⟩
    rw [List.find?_eq_some_iff_getElem]
    exact ⟨h2, i, h1, rfl, fun j hj => by have := h3 j hj; simpa using this⟩
noncomputable def pB (p : Prop) : Bool := @decide p (Classical.propDecidable p)
theorem pB_iff {p : Prop} : pB p = true ↔ p := by unfold pB; exact @decide_eq_true_iff p (Classical.propDecidable p)
end Go.Proofs.SL
namespace Go.Proofs.SL
open Go
variable {Γ : Cx} {l : Envl} {M M' M1 M2 : List HP} {Q : Post} {K : Kont} {w0 w : World} {S0 : List Nat} {P : Program}
variable {rest : List Oper} {d : Nat} {ty : TypeId} {pos : String} {af : Array Edge}
/-- The string of bytes that stand as numbers. -/
def strOf (ns : List Int) : ByteArray := ns.foldl (fun r n => r.push (UInt8.ofNat n.toNat)) ByteArray.empty
/-! The marks -/
def dg (k : Nat) : ByteArray := strOf [IntKind.u8.wrap (48 + ((k % 10 : Nat) : Int))]
def mtxN (k : Nat) (s : ByteArray) : ByteArray := if h : k = 0 then s else mtxN (k / 10) (dg k ++ s)
  termination_by k
  decreasing_by omega
def mtx (k : Nat) : ByteArray := ByteArray.mk #[109] ++ mtxN k (ByteArray.mk #[])
/-- What a mark, from k on, makes of an element. -/
class Mk (τ : Type) where
  cnt : τ → Nat
  mkd : Nat → τ → τ
instance : Mk Int := ⟨fun _ => 1, fun k _ => (k : Int)⟩
instance : Mk ByteArray := ⟨fun _ => 1, fun k _ => mtx k⟩
instance {α β : Type} [Mk α] [Mk β] : Mk (α × β) := ⟨fun p => Mk.cnt p.1 + Mk.cnt p.2, fun k p => (Mk.mkd k p.1, Mk.mkd (k + Mk.cnt p.1) p.2)⟩
section
variable {τ : Type} [Mk τ]
def cnts : List τ → Nat
  | [] => 0
  | x :: xs => Mk.cnt x + cnts xs
def mks (k : Nat) : List τ → List τ
  | [] => []
  | x :: xs => Mk.mkd k x :: mks (k + Mk.cnt x) xs
instance : Mk (TL τ) := ⟨fun L => cnts L.els, fun k L => { L with els := mks k L.els }⟩
theorem mks_length (xs : List τ) : ∀ k, (mks k xs).length = xs.length := by
  induction xs with
  | nil => intro k; rfl
  | cons x xs ih => intro k; simp [mks, ih]
end
/-- The marks of a struct that is handed over: its rows alone. -/
class Mv (τ : Type) where
  cnt : τ → Nat
  mkd : Nat → τ → τ
instance : Mv Int := ⟨fun _ => 0, fun _ t => t⟩
instance : Mv Bool := ⟨fun _ => 0, fun _ t => t⟩
instance : Mv ByteArray := ⟨fun _ => 0, fun _ t => t⟩
instance {τ : Type} [Mk τ] : Mv (TL τ) := ⟨Mk.cnt, Mk.mkd⟩
instance {α β : Type} [Mv α] [Mv β] : Mv (α × β) := ⟨fun p => Mv.cnt p.1 + Mv.cnt p.2, fun k p => (Mv.mkd k p.1, Mv.mkd (k + Mv.cnt p.1) p.2)⟩
section
variable {τ δ : Type} [GT τ δ]
theorem ow_facts {L : TL τ} (h : GT.ow w L) : L.els.length ≤ 9223372036854775807 ∧ (0 < L.els.length → ∃ g, L.a = some ⟨g, 0, none⟩) := by
  have h1 := h.1; have h2 := h.2.1; simp only [maxLen] at h2
  refine ⟨by omega, fun hl => ?_⟩
  cases ha : L.a with
  | none => have := (h.2.2.2.1 ha).1; rw [this] at hl; simp at hl
  | some a =>
    obtain ⟨h3, h4, _⟩ := h.2.2.2.2 _ ha
    obtain ⟨b, o, s⟩ := a
    exact ⟨b, by simp at h3 h4; rw [h3, h4]⟩
end
theorem cnt_pair {α β : Type} [Mk α] [Mk β] (a : α) (b : β) : Mk.cnt (a, b) = Mk.cnt a + Mk.cnt b := rfl
theorem cells_pair {α β δ ε : Type} [GT α δ] [GT β ε] (a : α) (b : β) : GT.cells (a, b) = GT.cells a ++ GT.cells b := rfl
theorem cells_mkTL {τ δ : Type} [GT τ δ] [Mk τ] (k : Nat) (L : TL τ) : GT.cells (Mk.mkd k L : TL τ) = GT.cells L := by
  show [Value.slice L.a (mks k L.els).length L.cap] = [Value.slice L.a L.els.length L.cap]
  rw [mks_length]
theorem mv_pair {α β : Type} [Mv α] [Mv β] (k : Nat) (a : α) (b : β) : Mv.mkd k (a, b) = (Mv.mkd k a, Mv.mkd (k + Mv.cnt a) b) := rfl
theorem mv_cnt_pair {α β : Type} [Mv α] [Mv β] (a : α) (b : β) : Mv.cnt (a, b) = Mv.cnt a + Mv.cnt b := rfl
end Go.Proofs.SL
namespace Go.Proofs.SL
open Go
variable {Γ : Cx} {l : Envl} {M M' M1 M2 : List HP} {Q : Post} {K : Kont} {w0 w : World} {S0 : List Nat} {P : Program}
variable {rest : List Oper} {d : Nat} {ty : TypeId} {pos : String} {af : Array Edge}
theorem run_buildSlice0 {T e sz by_ : Nat} {z : List Value} (ht : elOf P T = some (e, sz, by_, z)) (w : World) :
    (Instr.buildSlice T 0 #[]).run P w = .ok (.slice (some ⟨w.heap.size, 0, none⟩) 0 0) (w.alloc (.cells (#[] : Array Value) e (0, 0))) := by
  unfold elOf at ht
  split at ht <;> (try cases ht)
  rename_i e' het
  split at ht <;> (try cases ht)
  rename_i i' hi'
  split at ht <;> cases ht
  simp [Instr.buildSlice, underlying, het, sizeOf, typeInfo, hi', newRow, Instr.fill]
  rw [show (Array.map (fun _ : Nat => (default : Value)) (Array.range 0)) = #[] from Array.eq_empty_of_size_eq_zero (by simp)]
/-- An empty row that is not nil. -/
theorem L_buildSlice0 (τ : Type) {δ : Type} [GT τ δ] {T e sz by_ : Nat} {z : List Value} (hn : Nat.blt d Γ.n = true) (ht : elOf Γ.P T = some (e, sz, by_, z))
    (hk : ∀ b, L Γ rest ((d, .slice (some ⟨b, 0, none⟩) 0 0) :: l) (treeH (⟨some ⟨b, 0, none⟩, 0, e, [], []⟩ : TL τ) :: M) K) :
    L Γ ({ dst := some d, op := .buildSlice T 0 #[], type := ty, pos, after := af, guard := none } :: rest) l M K :=
  L_stepR (fun v M' => ∃ b, v = .slice (some ⟨b, 0, none⟩) 0 0 ∧ M' = treeH (⟨some ⟨b, 0, none⟩, 0, e, [], []⟩ : TL τ) :: M) rfl rfl (Nat.le_of_ble_eq_true hn)
    (fun a w ha hw => by
      refine ⟨_, _, w.alloc (.cells ([] : List Value).toArray e (0, 0)), ⟨w.heap.size, rfl, rfl⟩, ?_, ?_⟩
      · have := run_buildSlice0 ht w
        simp only [execOp]
        simp [this]
      · have h2 := hw.new (cs := []) (T := e) (b := w.heap.size) rfl
        refine h2.reFp (List.Perm.of_eq rfl) fun x hx => ?_
        rcases List.mem_cons.1 hx with rfl | hx
        · have hp := h2.prs (blk w.heap.size [] e) (List.mem_cons_self ..)
          refine ⟨Nat.le_refl _, by simp [maxLen], fun x hx => (by cases hx), fun ha => (by cases ha), fun a ha => ?_⟩
          cases ha
          exact ⟨rfl, rfl, hp, by simp⟩
        · exact h2.prs x (List.mem_cons_of_mem _ hx))
    (fun v M' ⟨b, h1, h2⟩ => by subst h1; subst h2; exact hk b)
/-- The marks' number by the size; and the size is the data's. -/
class Bd (τ : Type) {δ : outParam Type} [GT τ δ] [Bk τ] where
  bd : δ → Nat
  eq : ∀ x : τ, Bk.bulk x = bd (GT.dat x)
class Bm (τ : Type) [Bk τ] [Mk τ] where
  A : Nat
  le : ∀ x : τ, Mk.cnt x ≤ A * (1 + Bk.bulk x)
instance : Bd Int := ⟨fun _ => 0, fun _ => rfl⟩
instance : Bd Bool := ⟨fun _ => 0, fun _ => rfl⟩
instance : Bd ByteArray := ⟨fun s => s.size, fun _ => rfl⟩
instance {α β δ ε : Type} [GT α δ] [GT β ε] [Bk α] [Bk β] [Bd α] [Bd β] : Bd (α × β) := ⟨fun p => Bd.bd (τ := α) p.1 + Bd.bd (τ := β) p.2, fun x => by
  obtain ⟨a, b⟩ := x
  simp only [bulk_pair, dat_pair, Bd.eq]⟩
def bds (τ : Type) {δ : Type} [GT τ δ] [Bk τ] [Bd τ] : List δ → Nat
  | [] => 0
  | x :: xs => Bd.bd (τ := τ) x + bds τ xs
theorem bulks_eq {τ δ : Type} [GT τ δ] [Bk τ] [Bd τ] (xs : List τ) : bulks xs = bds τ (xs.map GT.dat) := by
  induction xs with
  | nil => rfl
  | cons x xs ih => simp only [List.map_cons, bulks, bds, Bd.eq, ih]
instance {τ δ : Type} [GT τ δ] [Bk τ] [Bd τ] : Bd (TL τ) := ⟨fun xs => xs.length + bds τ xs, fun L => by
  obtain ⟨_, _, _, xs, _⟩ := L
  simp only [bulk_TL, dat_TL, bulks_eq, List.length_map]⟩
instance : Bm Int := ⟨1, fun x => by show 1 ≤ 1 * (1 + 0); omega⟩
instance : Bm ByteArray := ⟨1, fun x => by show 1 ≤ 1 * (1 + x.size); omega⟩
instance {α β : Type} [Bk α] [Bk β] [Mk α] [Mk β] [Bm α] [Bm β] : Bm (α × β) := ⟨Bm.A α + Bm.A β, fun x => by
  obtain ⟨a, b⟩ := x
  have h1 := Bm.le a; have h2 := Bm.le b
  simp only [cnt_pair, bulk_pair]
  have h3 : Bm.A α * (1 + Bk.bulk a) ≤ Bm.A α * (1 + (Bk.bulk a + Bk.bulk b)) := Nat.mul_le_mul_left _ (by omega)
  have h4 : Bm.A β * (1 + Bk.bulk b) ≤ Bm.A β * (1 + (Bk.bulk a + Bk.bulk b)) := Nat.mul_le_mul_left _ (by omega)
  rw [Nat.add_mul]; omega⟩
theorem cnts_le {τ : Type} [Bk τ] [Mk τ] [Bm τ] (xs : List τ) : cnts xs ≤ Bm.A τ * (xs.length + bulks xs) := by
  induction xs with
  | nil => simp [cnts]
  | cons x xs ih =>
    have h := Bm.le x
    simp only [cnts, List.length_cons, bulks]
    rw [show xs.length + 1 + (Bk.bulk x + bulks xs) = (1 + Bk.bulk x) + (xs.length + bulks xs) by omega, Nat.mul_add]
    omega
theorem cntTL_le {τ : Type} [Bk τ] [Mk τ] [Bm τ] (L : TL τ) : Mk.cnt L ≤ Bm.A τ * Bk.bulk L := cnts_le L.els
instance {τ : Type} [Bk τ] [Mk τ] [Bm τ] : Bm (TL τ) := ⟨Bm.A τ, fun L => Nat.le_trans (cntTL_le L) (Nat.mul_le_mul_left _ (by omega))⟩
/-- The same of what is handed over. -/
class Bv (τ : Type) [Bk τ] [Mv τ] where
  A : Nat
  le : ∀ x : τ, Mv.cnt x ≤ A * Bk.bulk x
instance : Bv Int := ⟨0, fun x => by show 0 ≤ 0 * 0; omega⟩
instance : Bv Bool := ⟨0, fun x => by show 0 ≤ 0 * 0; omega⟩
instance : Bv ByteArray := ⟨0, fun x => by show 0 ≤ 0 * x.size; omega⟩
instance {τ : Type} [Bk τ] [Mk τ] [Bm τ] : Bv (TL τ) := ⟨Bm.A τ, cntTL_le⟩
instance {α β : Type} [Bk α] [Bk β] [Mv α] [Mv β] [Bv α] [Bv β] : Bv (α × β) := ⟨Bv.A α + Bv.A β, fun x => by
  obtain ⟨a, b⟩ := x
  have h1 := Bv.le a; have h2 := Bv.le b
  simp only [mv_cnt_pair, bulk_pair]
  have h3 : Bv.A α * Bk.bulk a ≤ Bv.A α * (Bk.bulk a + Bk.bulk b) := Nat.mul_le_mul_left _ (by omega)
  have h4 : Bv.A β * Bk.bulk b ≤ Bv.A β * (Bk.bulk a + Bk.bulk b) := Nat.mul_le_mul_left _ (by omega)
  rw [Nat.add_mul]; omega⟩
class Cv (τ : Type) {δ : outParam Type} [GT τ δ] [Mv τ] : Prop where
  eq : ∀ (k : Nat) (x : τ), GT.cells (Mv.mkd k x) = GT.cells x
instance : Cv Int := ⟨fun _ _ => rfl⟩
instance : Cv Bool := ⟨fun _ _ => rfl⟩
instance : Cv ByteArray := ⟨fun _ _ => rfl⟩
instance {τ δ : Type} [GT τ δ] [Mk τ] : Cv (TL τ) := ⟨fun k L => cells_mkTL k L⟩
instance {α β δ ε : Type} [GT α δ] [GT β ε] [Mv α] [Mv β] [Cv α] [Cv β] : Cv (α × β) := ⟨fun k x => by
  obtain ⟨a, b⟩ := x
  rw [mv_pair, cells_pair, cells_pair, Cv.eq, Cv.eq]⟩
end Go.Proofs.SL
namespace Go.Proofs.SL
open Go
variable {P : Program} {T : TypeId} {x y : Operand} {k : IntKind} {a b : Int}
theorem bv_and : BinV P .and T x y (.int k a) (.int k b) (.int k (bits .and k a b)) := fun w => by simp [eqGuard, binOp, intBits_and]
theorem bv_or : BinV P .or T x y (.int k a) (.int k b) (.int k (bits .or k a b)) := fun w => by simp [eqGuard, binOp, intBits_or]
theorem bv_xor : BinV P .xor T x y (.int k a) (.int k b) (.int k (bits .xor k a b)) := fun w => by simp [eqGuard, binOp, intBits_xor]
theorem bv_shr {yk : IntKind} (h0 : 0 ≤ b) (h1 : b ≤ k.bits) : BinV P .shr T x y (.int k a) (.int yk b) (.int k (a / 2 ^ b.toNat)) := fun w => by simp [eqGuard, binOp, shift_shr k yk a b h0 h1]
theorem bv_shl {yk : IntKind} (h0 : 0 ≤ b) (h1 : b ≤ k.bits) : BinV P .shl T x y (.int k a) (.int yk b) (.int k (k.wrap (a * 2 ^ b.toNat))) := fun w => by simp [eqGuard, binOp, shift_shl k yk a b h0 h1]
theorem and_mask (a : Int) (m : Nat) (hm : m < 9223372036854775808) : 0 ≤ bits .and .i64 a (m : Int) ∧ bits .and .i64 a (m : Int) ≤ (m : Int) := by
  unfold bits
  show 0 ≤ IntKind.wrap .i64 (((BitVec.ofInt 64 a) &&& (BitVec.ofInt 64 (m : Int))).toNat : Int) ∧ IntKind.wrap .i64 (((BitVec.ofInt 64 a) &&& (BitVec.ofInt 64 (m : Int))).toNat : Int) ≤ (m : Int)
  have h1 : ((BitVec.ofInt 64 a) &&& (BitVec.ofInt 64 (m : Int))).toNat ≤ m := by
    rw [BitVec.toNat_and]
    have h2 : (BitVec.ofInt 64 (m : Int)).toNat = m := by
      rw [BitVec.ofInt_natCast, BitVec.toNat_ofNat]
      exact Nat.mod_eq_of_lt (by omega)
    rw [h2]
    exact Nat.and_le_right
  rw [wrap64_in (by unfold inR; omega)]
  omega
end Go.Proofs.SL
namespace Go.Proofs.SL
open Go
variable {Γ : Cx} {rest : List Oper} {d : Nat} {ty : TypeId} {pos : String} {af : Array Edge} {gd : Option (Nat × Bool)}
variable {ops : Array Oper} {Msh pool : List HP} {E : Fl} {rs : List (Option Nat × Rel)} {cs0 : List Nat} {KD : List (Option Nat × Rel) → List Nat → List HP → Prop}
end Go.Proofs.SL
namespace Go.Proofs.SL
open Go
abbrev i64 (n : Int) : Int := IntKind.wrap .i64 n
section
variable {α β σ : Type}
def idx (l : List α) (i : Int) : Option α := if i < 0 then none else l[i.toNat]?
theorem idx_some {l : List α} {i : Int} {x : α} : idx l i = some x ↔ 0 ≤ i ∧ l[i.toNat]? = some x := by
  unfold idx
  split
  · constructor
    · intro h; cases h
    · intro h; omega
  · constructor
    · intro h; exact ⟨by omega, h⟩
    · intro h; exact h.2
theorem idx_nat {l : List α} {k : Nat} : idx l (k : Int) = l[k]? := by
  unfold idx
  rw [if_neg (by omega)]; simp
def sidx (s : ByteArray) (i : Int) : Option Int := if h : 0 ≤ i ∧ i.toNat < s.size then some ((s[i.toNat]'h.2).toNat : Int) else none
theorem sidx_some {s : ByteArray} {i n : Int} (h : sidx s i = some n) : ∃ h : 0 ≤ i ∧ i.toNat < s.size, n = ((s[i.toNat]'h.2).toNat : Int) := by
  unfold sidx at h
  split at h
  · rename_i hh; cases h; exact ⟨hh, rfl⟩
  · cases h
def gb [Inhabited α] (g : Bool) (o : Option α) (k : α → Option β) : Option β := match g with | true => o.bind k | false => k default
theorem gb_any [Inhabited α] {g : Bool} {o : Option α} {k : α → Option β} {r : β} (h : gb g o k = some r) : ∃ y, (g = true → o = some y) ∧ k y = some r := by
  cases g with
  | true => obtain ⟨y, h1, h2⟩ := Option.bind_eq_some_iff.1 h; exact ⟨y, fun _ => h1, h2⟩
  | false => exact ⟨default, (fun hh => (by cases hh)), h⟩
theorem bind_any {o : Option α} {k : α → Option β} {r : β} (h : Option.bind o k = some r) : ∃ y, o = some y ∧ k y = some r := Option.bind_eq_some_iff.1 h
theorem cond_t {c : Bool} {A B o : Option α} (hc : c = true) (h : cond c A B = o) : A = o := by subst hc; exact h
theorem cond_f {c : Bool} {A B o : Option α} (hc : c = false) (h : cond c A B = o) : B = o := by subst hc; exact h
theorem map_any {o : Option α} {f : α → β} {r : β} (h : Option.map f o = some r) : ∃ a, o = some a ∧ r = f a := by
  obtain ⟨a, h1, h2⟩ := Option.map_eq_some_iff.1 h; exact ⟨a, h1, h2.symm⟩
theorem some_eq {a b : α} (h : some a = some b) : b = a := (Option.some.inj h).symm
/-! Loops -/
def iterW (f : σ → Option (σ ⊕ α)) : Nat → σ → Option α
  | 0, _ => none
  | n + 1, s => match f s with
    | none => none
    | some (.inl s') => iterW f n s'
    | some (.inr a) => some a
theorem iterW_mono {f : σ → Option (σ ⊕ α)} {a : α} : ∀ {n : Nat} {s : σ} (m : Nat), n ≤ m → iterW f n s = some a → iterW f m s = some a
  | 0, s, m, _, h => by cases h
  | n + 1, s, 0, hm, _ => by omega
  | n + 1, s, m + 1, hm, h => by
    simp only [iterW] at h ⊢
    split at h
    · cases h
    · exact iterW_mono m (by omega) h
    · exact h
noncomputable def whileP (f : σ → Option (σ ⊕ α)) (s : σ) : Option α :=
  @dite _ (∃ n a, iterW f n s = some a) (Classical.propDecidable _) (fun h => some h.choose_spec.choose) (fun _ => none)
theorem whileP_iff {f : σ → Option (σ ⊕ α)} {s : σ} {a : α} : whileP f s = some a ↔ ∃ n, iterW f n s = some a := by
  unfold whileP
  constructor
  · intro h
    split at h
    · rename_i hh
      cases h
      exact ⟨hh.choose, hh.choose_spec.choose_spec⟩
    · cases h
  · rintro ⟨n, hn⟩
    have hh : ∃ n a, iterW f n s = some a := ⟨n, a, hn⟩
    rw [dif_pos hh]
    have h2 := hh.choose_spec.choose_spec
    have key : ∀ m b, iterW f m s = some b → some b = some a := by
      intro m b h2
      rcases Nat.le_total n m with hle | hle
      · rw [iterW_mono m hle hn] at h2; exact h2.symm
      · rw [iterW_mono n hle h2] at hn; exact hn
    exact key _ _ h2
theorem whileP_eq (f : σ → Option (σ ⊕ α)) (s : σ) : whileP f s = match f s with | none => none | some (.inl s') => whileP f s' | some (.inr a) => some a := by
  have key : ∀ a, whileP f s = some a ↔ (match f s with | none => none | some (.inl s') => whileP f s' | some (.inr a) => some a) = some a := by
    intro a
    rw [whileP_iff]
    constructor
    · rintro ⟨n, h⟩
      cases n with
      | zero => cases h
      | succ n =>
        simp only [iterW] at h
        split at h
        · cases h
        · exact whileP_iff.2 ⟨n, h⟩
        · exact h
    · intro h
      split at h
      · cases h
      · rename_i s' hs
        obtain ⟨n, h⟩ := whileP_iff.1 h
        exact ⟨n + 1, by simp only [iterW, hs]; exact h⟩
      · rename_i b hs
        exact ⟨1, by simp only [iterW, hs]; exact h⟩
  exact Option.ext key
/-- The rule of a loop, on data. -/
theorem whileP_rule {f : σ → Option (σ ⊕ α)} (I : σ → Prop) (μ : σ → Nat) (Q : α → Prop)
    (h : ∀ s, I s → (∃ s', f s = some (.inl s') ∧ I s' ∧ μ s' < μ s) ∨ ∃ a, f s = some (.inr a) ∧ Q a) (s : σ) (hs : I s) : ∃ a, whileP f s = some a ∧ Q a := by
  generalize hn : μ s = n
  induction n using Nat.strongRecOn generalizing s with
  | _ n ih =>
    rw [whileP_eq]
    rcases h s hs with ⟨s', h1, h2, h3⟩ | ⟨a, h1, h2⟩
    · rw [h1]; exact ih (μ s') (hn ▸ h3) s' h2 rfl
    · rw [h1]; exact ⟨a, rfl, h2⟩
def jbind (o : Option (σ ⊕ α)) (k : σ → Option α) : Option α := match o with
  | none => none
  | some (.inl s) => k s
  | some (.inr a) => some a
theorem jbind_any {o : Option (σ ⊕ α)} {k : σ → Option α} {r : α} (h : jbind o k = some r) : ∃ e, o = some e ∧ (∀ a, e = .inr a → a = r) ∧ (∀ s, e = .inl s → k s = some r) := by
  unfold jbind at h
  split at h
  · cases h
  · exact ⟨_, rfl, fun a ha => by (cases ha), fun s hs => by cases hs; exact h⟩
  · exact ⟨_, rfl, fun a ha => by cases ha; cases h; rfl, fun s hs => by cases hs⟩
end
variable {Γ : Cx} {l : Envl} {M M1 M2 F : List HP} {Q : Post} {K : Kont} {w0 w : World} {S0 : List Nat}
variable {rest : List Oper} {d : Nat} {ty : TypeId} {pos : String} {af : Array Edge}
theorem W_post {c : Code} {Q' : Post} (h : W Γ c l M Q) (hq : ∀ e l M, Q e l M → ∃ M', (∀ w, Holds Γ.w0 Γ.S0 M w → Holds Γ.w0 Γ.S0 M' w) ∧ Q' e l M') : W Γ c l M Q' := fun a w ha hw =>
  Code.wp_mono (fun e a w q => by
    cases e <;> first
      | exact q.elim
      | (obtain ⟨l, M, h1, h2, h3⟩ := q
         obtain ⟨M', h4, h5⟩ := hq _ _ _ h3
         exact ⟨l, M', h1, h4 _ h2, h5⟩)) (h a w ha hw)
/-- What is there suffices for what is wanted. -/
def Arr (Γ : Cx) (M M' : List HP) : Prop := ∃ M2, (∀ w, Holds Γ.w0 Γ.S0 M w → Holds Γ.w0 Γ.S0 M2 w) ∧ MSub M' M2
theorem Arr.sub {M M' : List HP} (h : MSub M' M) : Arr Γ M M' := ⟨M, fun _ h => h, h⟩
/-- A loop of the program along a loop on data. -/
theorem W_while {σ δ A : Type} {c : Code} {f : δ → Option (δ ⊕ A)} {r : A} (dat : σ → δ) (Ev : σ → Envl) (Mv : σ → List HP) (Ec : Envl) (Mc : List HP) (s0 : σ) (h0 : whileP f (dat s0) = some r)
    (hl : Sub (Ev s0 ++ Ec) l) (hm : MSub (Mv s0 ++ Mc) M)
    (round : ∀ s x, f (dat s) = some x → (∀ a, x = .inr a → a = r) → W Γ c (Ev s ++ Ec) (Mv s ++ Mc) (thenQ (fun l' M' => ∃ s', Sub (Ev s' ++ Ec) l' ∧ Arr Γ M' (Mv s' ++ Mc) ∧ x = .inl (dat s')) Q)) :
    W Γ (.loop c) l M Q := by
  obtain ⟨n, hn⟩ := whileP_iff.1 h0
  refine W_loop (σ := σ × Nat) (fun s => Ev s.1 ++ Ec) (fun s => Mv s.1 ++ Mc) (fun s => iterW f s.2 (dat s.1) = some r) (fun s => s.2) (s0, n) hn hl hm ?_
  rintro ⟨s, n⟩ hI
  dsimp only at hI ⊢
  cases n with
  | zero => cases hI
  | succ n =>
    simp only [iterW] at hI
    split at hI
    · cases hI
    · rename_i s' hs
      refine W_post (round s _ hs (fun a ha => by cases ha)) fun e l' M' hq => ?_
      cases e <;> first
        | exact ⟨M', fun _ h => h, hq⟩
        | (obtain ⟨s2, h1, ⟨M2, h2, h2'⟩, h3⟩ := hq
           have e : s' = dat s2 := by simpa using h3
           subst e
           exact ⟨M2, h2, (s2, n), h1, h2', hI, Nat.lt_succ_self n⟩)
    · rename_i a ha
      cases hI
      refine W_mono (round s _ ha (fun a ha => by cases ha; rfl)) fun e l' M' hq => ?_
      cases e <;> first
        | exact hq
        | (obtain ⟨s2, h1, h2, h3⟩ := hq; cases h3)
/-- Ways that meet again. -/
theorem W_jn {σ δ A : Type} {x y : Code} {o : Option (δ ⊕ A)} {k : δ → Option A} {r : A} (dat : σ → δ) (Ev : σ → Envl) (Mv : σ → List HP) (Ec : Envl) (Mc : List HP) (h0 : jbind o k = some r)
    (h : ∀ e, o = some e → (∀ a, e = .inr a → a = r) → W Γ x l M (thenQ (fun l' M' => ∃ s, Sub (Ev s ++ Ec) l' ∧ Arr Γ M' (Mv s ++ Mc) ∧ e = .inl (dat s)) Q))
    (hk : ∀ s, k (dat s) = some r → W Γ y (Ev s ++ Ec) (Mv s ++ Mc) Q) : W Γ (.seq x y) l M Q := by
  obtain ⟨e, h1, h2, h3⟩ := jbind_any h0
  exact W_seq (W_post (h e h1 h2) fun ex l' M' hq => by
    cases ex <;> first
      | exact ⟨M', fun _ h => h, hq⟩
      | (obtain ⟨s, h4, ⟨M2, h5, h5'⟩, h6⟩ := hq; exact ⟨M2, h5, W_weaken h4 h5' (hk s (h3 _ h6))⟩))
end Go.Proofs.SL
namespace Go.Proofs.SL
open Go
variable {Γ : Cx} {l : Envl} {M M1 M2 F : List HP} {Q : Post} {K : Kont} {w0 w : World} {S0 : List Nat}
variable {rest : List Oper} {d : Nat} {ty : TypeId} {pos : String} {af : Array Edge}
theorem run_append_roomE {P : Program} (w : World) (t ty e e2 : TypeId) (i : TypeInfo) (ht : P.underlying t = some (.slice e)) (hi : P.info? e = some i)
    (g sLen sCap : Nat) (cur : Array Value) (hg : w.heap[g]? = some (.cells cur e2 (0, 0)))
    (a : Addr) (m c : Nat) (news : List Value) (hl : news.length = m * i.size) (hnews : ∀ j u, news[j]? = some u → w.cell? (a.add j) = some u) (h1 : ∀ u ∈ news, u.oneCell' = true)
    (hroom : sLen + m ≤ sCap) (hfit : sLen * i.size + news.length ≤ cur.size) :
    (Builtin.append_ #[t, t] ty #[.slice (some ⟨g, 0, none⟩) sLen sCap, .slice (some a) m c]).run P w =
      .ok (.slice (some ⟨g, 0, none⟩) (sLen + m) sCap) (w.setRow g (cur.toList.take (sLen * i.size) ++ news ++ cur.toList.drop (sLen * i.size + news.length)).toArray) := by
  have hf := run_firstCells_some (P := P) w i.size m a m c news hl hnews
  have hst := run_storeCells_at P g (sLen * i.size) e2 news 0 cur w hg (by simpa using hfit) h1
  simp only [Nat.add_zero] at hst
  simp [Builtin.append_, run_underlying ht, sizeOf, typeInfo, hi, Builtin.lenOf, hroom, hf, Addr.add_lit, hst]
section
variable {τ δ : Type} [GT τ δ]
/-- append to a row of our own of what can be read. -/
theorem append_rowE {P : Program} {T e sz by_ : Nat} {z : List Value} {L : TL τ} {ys : List τ} (ht : elOf P T = some (e, sz, by_, z)) (hsz : GT.sz τ = sz) (hz : z.length = sz) (hw : Holds w0 S0 (rowH L :: F) w)
    {a : Addr} {c : Nat} (hsrc : ∀ j v, (rowCells ys)[j]? = some v → w.cell? (a.add j) = some v) (hm : L.els.length + ys.length ≤ 4294967296) (hb : by_ ≤ 32768) (ty : TypeId) :
    ∃ a' c' e' tl w', (Builtin.append_ #[T, T] ty #[L.hdr, .slice (some a) ys.length c]).run P w = .ok (.slice a' (L.els ++ ys).length c') w' ∧ Holds w0 S0 (rowH (⟨a', c', e', L.els ++ ys, tl⟩ : TL τ) :: F) w' := by
  unfold elOf at ht
  split at ht <;> (try cases ht)
  rename_i e' het
  split at ht <;> (try cases ht)
  rename_i i' hi'
  split at ht <;> cases ht
  rename_i z' hz'
  have hzs : z'.cells.size = i'.size := by rw [← Array.length_toList]; exact hz
  have hpos : 0 < i'.size := hsz ▸ GT.pos (τ := τ)
  obtain ⟨La, Lc, Le, Lx, Lt⟩ := L
  have hr := hw.prs (rowH _) (List.mem_cons_self ..)
  obtain ⟨hr1, hr2, hr3, hr4⟩ := hr
  dsimp only at hr1 hr2 hr3 hr4 hm ⊢
  have hlx : (rowCells Lx).length = Lx.length * i'.size := by rw [length_rowCells, hsz]
  have hly : (rowCells ys).length = ys.length * i'.size := by rw [length_rowCells, hsz]
  have hby : (Lx.length + ys.length) * i'.bytes ≤ 140737488355328 := by
    have := Nat.mul_le_mul hm hb
    omega
  have hone : ∀ u, u ∈ rowCells ys → u.oneCell' = true := fun u hu => rowCells_one ys u hu
  have hgrow : ∀ (old : Nat) (h : HP), h = rowH (⟨La, Lc, Le, Lx, Lt⟩ : TL τ) → Holds w0 S0 (rowH (⟨some ⟨w.heap.size, 0, none⟩, grownCap w (Lx.length + ys.length) old e, e, Lx ++ ys, (Builtin.zeroCells z'.cells (grownCap w (Lx.length + ys.length) old e - (Lx.length + ys.length))).toList⟩ : TL τ) :: F)
      (w.drew.alloc (.cells ((rowCells Lx).toArray ++ (rowCells ys).toArray ++ Builtin.zeroCells z'.cells (grownCap w (Lx.length + ys.length) old e - (Lx.length + ys.length))) e)) := by
    intro old h hh
    have hge := grownCap_ge w (Lx.length + ys.length) old e
    have hcm : grownCap w (Lx.length + ys.length) old e ≤ maxLen := grownCap_le_maxLen w (Lx.length + ys.length) old e (by simp only [maxLen]; omega)
    refine Holds.swap (w' := w.drew.alloc _) (hh ▸ hw : Holds w0 S0 (h :: F) w) rfl rfl rfl (by simp) (fun k hk _ => ?_) (fun k hk => ?_) (by simp [rowH]) ?_
    · rw [heap_alloc_old _ _ (by simpa using hk)]; rfl
    · simp [rowH] at hk; subst hk; exact ⟨.inr (Nat.le_refl _), by simp⟩
    · refine ⟨by simpa using hge, hcm, fun h => (by cases h), fun a ha => ?_⟩
      cases ha
      refine ⟨rfl, rfl, ?_, ?_⟩
      · have := heap_alloc_new w.drew (.cells ((rowCells Lx).toArray ++ (rowCells ys).toArray ++ Builtin.zeroCells z'.cells (grownCap w (Lx.length + ys.length) old e - (Lx.length + ys.length))) e)
        simp only [World.size_drew] at this
        rw [this]
        congr 2
        apply Array.ext'
        simp [rowCells_append]
      · simp only [Array.length_toList, size_zc, hzs, List.length_append, hsz]
        rw [← Nat.add_mul]; congr 1; omega
  cases La with
  | none =>
    obtain ⟨hx0, hc0⟩ := hr3 rfl
    subst hx0; subst hc0
    by_cases hy0 : ys = []
    · subst hy0
      refine ⟨none, 0, e, [], w, ?_, Holds.swap hw rfl rfl rfl (Nat.le_refl _) (fun _ _ _ => rfl) (fun k hk => by simp [rowH] at hk) (by simp [rowH]) ⟨by simp, by simp [maxLen], fun _ => ⟨rfl, rfl⟩, fun a ha => by cases ha⟩⟩
      simp [TL.hdr, Builtin.append_, run_underlying het, sizeOf, typeInfo, hi', Builtin.lenOf, Builtin.firstCells, loadCells, loadCellsFrom]
    · have hyl : 0 < ys.length := List.length_pos_iff.2 hy0
      have hrun := run_append_nil (P := P) w T ty e i' z' het hi' hz' a ys.length c (rowCells ys) hly hsrc hyl (by omega) (by simp at hby; omega)
      have := hgrow 0 _ rfl
      simp only [List.length_nil, Nat.zero_add, List.nil_append] at this ⊢
      have e0 : (rowCells ([] : List τ)).toArray = #[] := rfl
      rw [e0, Array.empty_append] at this
      exact ⟨_, _, _, _, _, hrun, this⟩
  | some La =>
    obtain ⟨h1, h2, h3, h4⟩ := hr4 La rfl
    obtain ⟨g, o, s⟩ := La
    dsimp only at h1 h2 h3
    subst h1; subst h2
    have hhd : TL.hdr (⟨some ⟨g, 0, none⟩, Lc, Le, Lx, Lt⟩ : TL τ) = .slice (some ⟨g, 0, none⟩) Lx.length Lc := rfl
    rw [hhd]
    rw [hsz] at h4
    have hsize : ((rowCells Lx ++ Lt).toArray).size = Lc * i'.size := by simp [hlx]; omega
    by_cases hroom : Lx.length + ys.length ≤ Lc
    · have hfit : Lx.length * i'.size + (rowCells ys).length ≤ ((rowCells Lx ++ Lt).toArray).size := by rw [hsize, hly, ← Nat.add_mul]; exact Nat.mul_le_mul_right _ hroom
      have hrun := run_append_roomE (P := P) w T ty e Le i' het hi' g Lx.length Lc _ h3 a ys.length c (rowCells ys) hly hsrc hone hroom hfit
      refine ⟨some ⟨g, 0, none⟩, Lc, Le, Lt.drop (rowCells ys).length, _, by rw [List.length_append]; exact hrun, ?_⟩
      have e1 : (List.take (Lx.length * i'.size) (rowCells Lx ++ Lt).toArray.toList ++ rowCells ys ++ List.drop (Lx.length * i'.size + (rowCells ys).length) (rowCells Lx ++ Lt).toArray.toList) = rowCells (Lx ++ ys) ++ Lt.drop (rowCells ys).length := by
        simp only []
        rw [← hlx, List.take_left, List.drop_append, List.drop_of_length_le (by omega), List.nil_append, Nat.add_sub_cancel_left, rowCells_append]
      rw [e1]
      refine Holds.swap hw rfl rfl rfl (by simp) (fun k hk hn => ?_) (fun k hk => ?_) (by simp [rowH]) ?_
      · exact setRow_other _ _ _ _ (fun e => hn (by simp [rowH, e]))
      · simp [rowH] at hk; subst hk; exact ⟨.inl (by simp [rowH]), by simp; exact (Array.getElem?_eq_some_iff.1 h3).1⟩
      · refine ⟨by simpa using hroom, hr2, fun h => (by cases h), fun a ha => ?_⟩
        cases ha
        refine ⟨rfl, rfl, setRow_heap _ _ _ _ _ _ h3, ?_⟩
        simp only [List.length_append, List.length_drop, hsz, hly]
        have := Nat.mul_le_mul_right i'.size hroom
        rw [Nat.add_mul] at this ⊢
        omega
    · have holds : ∀ j v, (rowCells Lx)[j]? = some v → w.cell? ((⟨g, 0, none⟩ : Addr).add j) = some v := fun j v hv => by
        rw [addr_add, Nat.zero_add, cell_of_row _ _ _ _ _ _ h3]
        simp only [List.getElem?_toArray]
        rw [List.getElem?_append_left (List.getElem?_eq_some_iff.1 hv).1]; exact hv
      have hrun := run_append_grow (P := P) w T ty e i' z' het hi' hz' ⟨g, 0, none⟩ Lx.length Lc (rowCells Lx) hlx holds a ys.length c (rowCells ys) hly hsrc (by omega) (by omega) (growslice_fits (by omega) hby)
      refine ⟨_, _, _, _, _, by rw [List.length_append]; exact hrun, hgrow Lc _ rfl⟩
/-- append of what can be read to a slice of one's own. -/
theorem L_appA {s x : Operand} {T e sz by_ m c : Nat} {ad : Addr} {z : List Value} {X : TL τ} {ys : List τ} (hn : Nat.blt d Γ.n = true)
    (hs : ev l s = some X.hdr) (hx : ev l x = some (.slice (some ad) m c)) (ht : elOf Γ.P T = some (e, sz, by_, z)) (hsz : GT.sz τ = sz) (hz : z.length = sz)
    (hp : Pick (treeH X) M M1) (hmy : m = ys.length) (hsrc : ∀ w, Sees Γ.w0 Γ.S0 M w → ∀ j v, (rowCells ys)[j]? = some v → w.cell? (ad.add j) = some v)
    (hown : ∀ w R, Holds Γ.w0 Γ.S0 (M1 ++ R) w → Holds Γ.w0 Γ.S0 (elsT ys :: (M2 ++ R)) w)
    (hlen : X.els.length + ys.length ≤ 4294967296) (hb : by_ ≤ 32768)
    (hk : ∀ X' : TL τ, X'.els = X.els ++ ys → L Γ rest ((d, X'.hdr) :: l) (treeH X' :: M2) K) :
    L Γ ({ dst := some d, op := .call { callee := .builtin .append, args := #[s, x], argTypes := #[T, T] }, type := ty, pos, after := af, guard := none } :: rest) l M K := by
  subst hmy
  refine L_stepR (fun v M' => ∃ X' : TL τ, X'.els = X.els ++ ys ∧ v = X'.hdr ∧ M' = treeH X' :: M2) rfl rfl (Nat.le_of_ble_eq_true hn)
    (fun a w ha hw => ?_) (fun v M' ⟨X', h0, h1, h2⟩ => by subst h1; subst h2; exact hk X' h0)
  have hw1 := tree_row (hw.perm hp.perm)
  have hsr := hsrc w hw.sees
  obtain ⟨a', c', e', tl, w', h1, h2⟩ := append_rowE (P := Γ.P) (c := c) ht hsz hz hw1 hsr hlen hb ty
  refine ⟨_, _, w', ⟨⟨a', c', e', X.els ++ ys, tl⟩, rfl, rfl, rfl⟩, ?_, ?_⟩
  · have h1' : (Builtin.append_ #[T, T] ty #[X.hdr, .slice (some ad) ys.length c]).run Γ.P w = .ok (TL.hdr (⟨a', c', e', X.els ++ ys, tl⟩ : TL τ)) w' := h1
    generalize TL.hdr (⟨a', c', e', X.els ++ ys, tl⟩ : TL τ) = vv at *
    generalize X.hdr = uu at *
    simp [execOp, resolve, invoke, builtin, ha.eval hs, ha.eval hx, h1']
  · have h3 : Holds Γ.w0 Γ.S0 (M1 ++ [elsT X.els, rowH (⟨a', c', e', X.els ++ ys, tl⟩ : TL τ)]) w' :=
      h2.perm ((List.Perm.swap _ _ _).trans (List.perm_append_comm (l₁ := [elsT X.els, rowH (⟨a', c', e', X.els ++ ys, tl⟩ : TL τ)]) (l₂ := M1)))
    have h4 := hown w' _ h3
    refine row_tree ?_
    have h5 : Holds Γ.w0 Γ.S0 (elsT X.els :: elsT ys :: rowH (⟨a', c', e', X.els ++ ys, tl⟩ : TL τ) :: M2) w' := h4.perm
      (((List.perm_append_comm (l₁ := M2) (l₂ := [elsT X.els, rowH (⟨a', c', e', X.els ++ ys, tl⟩ : TL τ)])).cons _).trans (List.Perm.swap _ _ _))
    exact (elsT_app h5).perm (List.Perm.swap _ _ _)
end
/-! What can be read, by data -/
def TL.g {τ : Type} (X : TL τ) : Nat := (X.a.map Addr.block).getD 0
def TL.o {τ : Type} (X : TL τ) : Nat := (X.a.map Addr.off).getD 0
section
variable {τ δ : Type} [GT τ δ]
theorem rd_adr {X : TL τ} {j : Nat} {u : τ} (h : GT.rd w0 S0 X) (hi : X.els[j]? = some u) : X.a = some ⟨X.g, X.o, none⟩ := by
  have hlt := (List.getElem?_eq_some_iff.1 hi).1
  obtain ⟨g, o, ha⟩ := rd_addr h hlt
  unfold TL.g TL.o
  rw [ha]; rfl
theorem hdr_adr {X : TL τ} {j : Nat} {u : τ} (h : GT.rd w0 S0 X) (hi : X.els[j]? = some u) : X.hdr = .slice (some ⟨X.g, X.o, none⟩) X.els.length X.cap := by
  show Value.slice X.a X.els.length X.cap = _
  rw [rd_adr h hi]
theorem RdT.at {X : TL τ} {j : Nat} {x : τ} (h : RdT Γ M X) (hi : X.els[j]? = some x) : RdC Γ M X.g (X.o + j * GT.sz τ) (GT.cells x) := fun w hw =>
  (RdT.cells (Γ := Γ) (M := M) h (rd_adr (h w hw) hi) hi) w hw
theorem RdT.of {X : TL τ} {j : Nat} {x : τ} (h : RdT Γ M X) (hi : X.els[j]? = some x) : RdT Γ M x := h.el (List.mem_of_getElem? hi)
theorem RdT.pair {α β δ ε : Type} [GT α δ] [GT β ε] {a : α} {b : β} (h1 : RdT Γ M a) (h2 : RdT Γ M b) : RdT Γ M (a, b) := fun w hw => ⟨h1 w hw, h2 w hw⟩
theorem RdT.int {n : Int} : RdT Γ M n := fun _ _ => trivial
theorem RdT.bool {n : Bool} : RdT Γ M n := fun _ _ => trivial
theorem RdT.str {n : ByteArray} : RdT Γ M n := fun _ _ => trivial
theorem RdT.u8 {n : UInt8} : RdT Γ M n := fun _ _ => trivial
theorem RdT.nil (e : TypeId) : RdT Γ M (TL.nil τ e) := fun _ _ => ⟨Nat.le_refl _, by simp [TL.nil, maxLen], fun x hx => by simp [TL.nil] at hx, fun _ => rfl, fun a ha => by simp [TL.nil] at ha⟩
theorem dat_els (X : TL τ) : GT.dat X = X.els.map GT.dat := rfl
theorem idx_dat {X : TL τ} {i : Int} {y : δ} (h : idx (GT.dat X) i = some y) : ∃ u : τ, (0 ≤ i ∧ X.els[i.toNat]? = some u) ∧ GT.dat u = y := by
  obtain ⟨h1, h2⟩ := idx_some.1 h
  rw [dat_els, List.getElem?_map] at h2
  obtain ⟨u, h3, h4⟩ := Option.map_eq_some_iff.1 h2
  exact ⟨u, ⟨h1, h3⟩, h4⟩
theorem idx_bind {β : Type} {X : TL τ} {i : Int} {k : δ → Option β} {r : β} (h : Option.bind (idx (GT.dat X) i) k = some r) : ∃ u : τ, (0 ≤ i ∧ X.els[i.toNat]? = some u) ∧ k (GT.dat u) = some r := by
  obtain ⟨y, h1, h2⟩ := bind_any h
  obtain ⟨u, h3, rfl⟩ := idx_dat h1
  exact ⟨u, h3, h2⟩
/-- The data of nothing is the data of some tree. -/
class Df (τ : Type) {δ : outParam Type} [GT τ δ] [Inhabited δ] : Prop where
  df : ∃ t : τ, GT.dat t = default
instance : Df Int := ⟨0, rfl⟩
instance : Df Bool := ⟨false, rfl⟩
instance : Df UInt8 := ⟨default, rfl⟩
instance : Df ByteArray := ⟨default, rfl⟩
instance {τ δ : Type} [GT τ δ] : Df (TL τ) := ⟨TL.nil τ 0, rfl⟩
instance {α β δ ε : Type} [GT α δ] [GT β ε] [Inhabited δ] [Inhabited ε] [Df α] [Df β] : Df (α × β) := ⟨by
  obtain ⟨a, ha⟩ := Df.df (τ := α)
  obtain ⟨b, hb⟩ := Df.df (τ := β)
  exact ⟨(a, b), by rw [dat_pair, ha, hb]; rfl⟩⟩
theorem idx_gb [Inhabited δ] [Df τ] {β : Type} {X : TL τ} {g : Bool} {i : Int} {k : δ → Option β} {r : β} (h : gb g (idx (GT.dat X) i) k = some r) : ∃ u : τ, (g = true → 0 ≤ i ∧ X.els[i.toNat]? = some u) ∧ k (GT.dat u) = some r := by
  cases g with
  | true => obtain ⟨u, h1, h2⟩ := idx_bind h; exact ⟨u, fun _ => h1, h2⟩
  | false =>
    obtain ⟨t, ht⟩ := Df.df (τ := τ)
    exact ⟨t, (fun h => (by cases h)), by rw [ht]; exact h⟩
end
/-! Rules, in a region that is carried out as it stands -/
section
variable {τ δ : Type} [GT τ δ]
theorem L_lenP {x : Operand} {T : TypeId} {e : TypeId × Nat × Nat × List Value} {X : TL τ} (hn : Nat.blt d Γ.n = true) (hx : ev l x = some X.hdr) (ht : elOf Γ.P T = some e)
    (hk : L Γ rest ((d, .int .i64 ((GT.dat X).length : Int)) :: l) M K) :
    L Γ ({ dst := some d, op := .call { callee := .builtin .len, args := #[x], argTypes := #[T] }, type := ty, pos := pos, after := af, guard := none } :: rest) l M K :=
  L_lenS (a := X.a) (n := X.els.length) (c := X.cap) hn hx ht (by rw [dat_els, List.length_map] at hk; exact hk)
theorem L_idxA {x y : Operand} {T e sz by_ : Nat} {z : List Value} {k : IntKind} {i : Int} {X : TL τ} {u : τ} (hn : Nat.blt d Γ.n = true) (hx : ev l x = some X.hdr) (hy : ev l y = some (.int k i))
    (ht : elOf Γ.P T = some (e, sz, by_, z)) (hr : RdT Γ M X) (hi : 0 ≤ i ∧ X.els[i.toNat]? = some u) (hk : L Γ rest ((d, .pointer (some ⟨X.g, X.o + i.toNat * sz, none⟩)) :: l) M K) :
    L Γ ({ dst := some d, op := .indexAddr T x y, type := ty, pos := pos, after := af, guard := none } :: rest) l M K :=
  L_pure hn (fun a' w ha hw => by
    have h1 := ha.eval hx
    rw [hdr_adr (hr w hw.sees) hi.2] at h1
    simp [execOp, h1, ha.eval hy, run_indexAt ht X.g X.o X.els.length X.cap k i i.toNat (by omega) (List.getElem?_eq_some_iff.1 hi.2).1 w]) hk
theorem L_negW {x : Operand} {T : TypeId} {k : IntKind} {n : Int} (hn : Nat.blt d Γ.n = true) (hx : ev l x = some (.int k n)) (hk : L Γ rest ((d, .int k (k.wrap (-n))) :: l) M K) :
    L Γ ({ dst := some d, op := .unOp .neg T x, type := ty, pos := pos, after := af, guard := none } :: rest) l M K :=
  L_pure hn (fun a w ha _ => by simp [execOp, ha.eval hx, Op.unary, Op.intArith]) hk
end
/-! In a drawn region -/
variable {ops : Array Oper} {Msh pool : List HP} {E : Fl} {rs : List (Option Nat × Rel)} {cs0 : List Nat} {KD : List (Option Nat × Rel) → List Nat → List HP → Prop} {gd : Option (Nat × Bool)}
section
variable {τ δ : Type} [GT τ δ]
theorem D_lenP {x : Operand} {T : TypeId} {e : TypeId × Nat × Nat × List Value} {X : TL τ} {c : Prop} (hg : GC ops E { dst := some d, op := .call { callee := .builtin .len, args := #[x], argTypes := #[T] }, type := ty, pos := pos, after := af, guard := gd } c)
    (hx : OpV E x c X.hdr) (ht : elOf Γ.P T = some e)
    (hk : DV Γ ops Msh pool ((d, FC c (.int .i64 ((GT.dat X).length : Int))) :: E) ((some d, FC c (.int .i64 ((GT.dat X).length : Int))) :: rs) cs0 rest KD) :
    DV Γ ops Msh pool E rs cs0 ({ dst := some d, op := .call { callee := .builtin .len, args := #[x], argTypes := #[T] }, type := ty, pos := pos, after := af, guard := gd } :: rest) KD :=
  D_lenS (a := X.a) (n := X.els.length) (cp := X.cap) hg hx ht (by rw [dat_els, List.length_map] at hk; exact hk)
theorem D_idxA {x y : Operand} {T e sz by_ : Nat} {z : List Value} {k : IntKind} {i : Int} {X : TL τ} {u : τ} {c : Prop} (hg : GC ops E { dst := some d, op := .indexAddr T x y, type := ty, pos := pos, after := af, guard := gd } c)
    (hx : OpV E x c X.hdr) (hy : OpV E y c (.int k i)) (ht : elOf Γ.P T = some (e, sz, by_, z)) (hr : RdT Γ Msh X) (hi : c → 0 ≤ i ∧ X.els[i.toNat]? = some u)
    (hk : DV Γ ops Msh pool ((d, FC c (.pointer (some ⟨X.g, X.o + i.toNat * sz, none⟩))) :: E) ((some d, FC c (.pointer (some ⟨X.g, X.o + i.toNat * sz, none⟩))) :: rs) cs0 rest KD) :
    DV Γ ops Msh pool E rs cs0 ({ dst := some d, op := .indexAddr T x y, type := ty, pos := pos, after := af, guard := gd } :: rest) KD :=
  DV_pure c _ hg (fun a w F hc hf hs => by
    have e1 := hx.eval hf (by simp [Op.operands]) hc
    have e2 := hy.eval hf (by simp [Op.operands]) hc
    obtain ⟨h0, h1⟩ := hi hc
    rw [hdr_adr (hr w hs) h1] at e1
    simp [execOp, e1, e2, run_indexAt ht X.g X.o X.els.length X.cap k i i.toNat (by omega) (List.getElem?_eq_some_iff.1 h1).1 w]) hk
theorem D_idxS {x y : Operand} {T : TypeId} {s : ByteArray} {k : IntKind} {i n : Int} {c : Prop} (hg : GC ops E { dst := some d, op := .index T x y, type := ty, pos := pos, after := af, guard := gd } c)
    (hx : OpV E x c (.string s)) (hy : OpV E y c (.int k i)) (ht : isStr Γ.P T = true) (hi : c → sidx s i = some n)
    (hk : DV Γ ops Msh pool ((d, FC c (.int .u8 n)) :: E) ((some d, FC c (.int .u8 n)) :: rs) cs0 rest KD) :
    DV Γ ops Msh pool E rs cs0 ({ dst := some d, op := .index T x y, type := ty, pos := pos, after := af, guard := gd } :: rest) KD :=
  DV_pure c _ hg (fun a w F hc hf hs => by
    have e1 := hx.eval hf (by simp [Op.operands]) hc
    have e2 := hy.eval hf (by simp [Op.operands]) hc
    obtain ⟨⟨h1, h2⟩, h3⟩ := sidx_some (hi hc)
    have h4 : Γ.P.underlying T = some .string := by unfold isStr at ht; split at ht <;> simp_all
    obtain ⟨j, rfl⟩ := Int.eq_ofNat_of_zero_le h1
    simp only [Int.toNat_natCast] at h2 h3
    simp [execOp, e1, e2, Instr.index, asIntOf, underlying, h4, h2, h3]) hk
end
end Go.Proofs.SL
namespace Go.Proofs.SL
open Go
variable {Γ : Cx} {l : Envl} {M M' M1 M2 F : List HP} {Q : Post} {K : Kont} {w0 w : World} {S0 : List Nat}
variable {rest : List Oper} {d : Nat} {ty : TypeId} {pos : String} {af : Array Edge}
def appP {δ : Type} (a b : List δ) : Option (List δ) := if a.length + b.length ≤ 4294967296 then some (a ++ b) else none
theorem appP_some {δ : Type} {a b r : List δ} (h : appP a b = some r) : a.length + b.length ≤ 4294967296 ∧ r = a ++ b := by
  unfold appP at h
  split at h
  · cases h; exact ⟨by assumption, rfl⟩
  · cases h
def catP (a b : ByteArray) : Option ByteArray := if a.size + b.size ≤ 9223372036854775807 then some (a ++ b) else none
theorem catP_some {a b r : ByteArray} (h : catP a b = some r) : a.size + b.size ≤ 9223372036854775807 ∧ a ++ b = r := by
  unfold catP at h
  split at h
  · cases h; exact ⟨by assumption, rfl⟩
  · cases h
theorem bv_saddP {P : Program} {T : TypeId} {x y : Operand} {s t r : ByteArray} (h : catP s t = some r) : BinV P .add T x y (.string s) (.string t) (.string r) := by
  obtain ⟨h1, rfl⟩ := catP_some h
  exact bv_sadd h1
def remP (a b : Int) : Option Int := if b = 0 then none else some (a.tmod b)
theorem bv_remP {P : Program} {T : TypeId} {x y : Operand} {k : IntKind} {a b r : Int} (h : remP a b = some r) : BinV P .rem T x y (.int k a) (.int k b) (.int k r) := by
  unfold remP at h
  split at h
  · cases h
  · cases h; exact bv_rem (by assumption)
def shlP (k : IntKind) (a b : Int) : Option Int := if 0 ≤ b ∧ b ≤ k.bits then some (k.wrap (a * 2 ^ b.toNat)) else none
def shrP (k : IntKind) (a b : Int) : Option Int := if 0 ≤ b ∧ b ≤ k.bits then some (a / 2 ^ b.toNat) else none
theorem bv_shlP {P : Program} {T : TypeId} {x y : Operand} {k yk : IntKind} {a b r : Int} (h : shlP k a b = some r) : BinV P .shl T x y (.int k a) (.int yk b) (.int k r) := by
  unfold shlP at h
  split at h
  · rename_i hh; cases h; exact bv_shl hh.1 hh.2
  · cases h
theorem bv_shrP {P : Program} {T : TypeId} {x y : Operand} {k yk : IntKind} {a b r : Int} (h : shrP k a b = some r) : BinV P .shr T x y (.int k a) (.int yk b) (.int k r) := by
  unfold shrP at h
  split at h
  · rename_i hh; cases h; exact bv_shr hh.1 hh.2
  · cases h
theorem bv_sgtr {P : Program} {T : TypeId} {x y : Operand} {s t : ByteArray} : BinV P .gtr T x y (.string s) (.string t) (.bool (!sLt s t && !decide (s = t))) := fun w => by simp [eqGuard, binOp, Op.stringOp, sLt, str_eq]
theorem bv_sleq {P : Program} {T : TypeId} {x y : Operand} {s t : ByteArray} : BinV P .leq T x y (.string s) (.string t) (.bool (sLt s t || decide (s = t))) := fun w => by simp [eqGuard, binOp, Op.stringOp, sLt, str_eq]
/-- What owns no block. -/
class FlatT (τ : Type) {δ : outParam Type} [GT τ δ] : Prop where
  flat : ∀ t : τ, Flat t
instance : FlatT Int := ⟨fun _ => flat_int trivial⟩
instance : FlatT Bool := ⟨fun b => flat_bool b⟩
instance : FlatT UInt8 := ⟨fun b => flat_u8 b⟩
instance : FlatT ByteArray := ⟨fun _ => flat_str trivial⟩
instance {α β δ ε : Type} [GT α δ] [GT β ε] [FlatT α] [FlatT β] : FlatT (α × β) := ⟨fun t => flat_pair (FlatT.flat t.1) (FlatT.flat t.2)⟩
section
variable {τ δ : Type} [GT τ δ]
/-- append of one value that owns something, out of a new row. -/
theorem L_app1 {s x : Operand} {T e sz by_ c b : Nat} {z : List Value} {X : TL τ} {T' : TypeId} (y : τ) {r : List δ} (hn : Nat.blt d Γ.n = true)
    (hs : ev l s = some X.hdr) (hx : ev l x = some (.slice (some ⟨b, 0, none⟩) 1 c)) (ht : elOf Γ.P T = some (e, sz, by_, z)) (hsz : GT.sz τ = sz) (hz : z.length = sz)
    (hp : Pick (treeH X) M M1) (hsrc : blk b (GT.cells y) T' ∈ M) (hy : Pick (treeH y) M1 M2)
    (hr : appP (GT.dat X) [GT.dat y] = some r) (hb : by_ ≤ 32768)
    (hk : ∀ X' : TL τ, GT.dat X' = r → L Γ rest ((d, X'.hdr) :: l) (treeH X' :: M2) K) :
    L Γ ({ dst := some d, op := .call { callee := .builtin .append, args := #[s, x], argTypes := #[T, T] }, type := ty, pos, after := af, guard := none } :: rest) l M K := by
  obtain ⟨h1, rfl⟩ := appP_some hr
  refine L_appA (ys := [y]) hn hs hx ht hsz hz hp rfl (fun w hw j v hv => ?_) (fun w R h => elsT_one (h.perm (hy.perm.append_right R))) (by simpa [dat_els] using h1) hb
    (fun X' h => hk X' (by rw [dat_els, h, List.map_append, dat_els]; rfl))
  rw [addr_add]
  exact RdC.blk (Γ := Γ) hsrc w hw j v (by simpa [rowCells] using hv)
theorem L_app1F [FlatT τ] {s x : Operand} {T e sz by_ c b : Nat} {z : List Value} {X : TL τ} {T' : TypeId} (y : τ) {r : List δ} (hn : Nat.blt d Γ.n = true)
    (hs : ev l s = some X.hdr) (hx : ev l x = some (.slice (some ⟨b, 0, none⟩) 1 c)) (ht : elOf Γ.P T = some (e, sz, by_, z)) (hsz : GT.sz τ = sz) (hz : z.length = sz)
    (hp : Pick (treeH X) M M1) (hsrc : blk b (GT.cells y) T' ∈ M)
    (hr : appP (GT.dat X) [GT.dat y] = some r) (hb : by_ ≤ 32768)
    (hk : ∀ X' : TL τ, GT.dat X' = r → L Γ rest ((d, X'.hdr) :: l) (treeH X' :: M1) K) :
    L Γ ({ dst := some d, op := .call { callee := .builtin .append, args := #[s, x], argTypes := #[T, T] }, type := ty, pos, after := af, guard := none } :: rest) l M K := by
  obtain ⟨h1, rfl⟩ := appP_some hr
  refine L_appA (ys := [y]) hn hs hx ht hsz hz hp rfl (fun w hw j v hv => ?_) (fun w R h => elsT_flat h fun x _ => FlatT.flat x) (by simpa [dat_els] using h1) hb
    (fun X' h => hk X' (by rw [dat_els, h, List.map_append, dat_els]; rfl))
  rw [addr_add]
  exact RdC.blk (Γ := Γ) hsrc w hw j v (by simpa [rowCells] using hv)
/-- append of a whole slice whose elements own nothing. -/
theorem L_appT [FlatT τ] {s x : Operand} {T e sz by_ : Nat} {z : List Value} {X Y : TL τ} {r : List δ} (hn : Nat.blt d Γ.n = true)
    (hs : ev l s = some X.hdr) (hx : ev l x = some Y.hdr) (ht : elOf Γ.P T = some (e, sz, by_, z)) (hsz : GT.sz τ = sz) (hz : z.length = sz)
    (hp : Pick (treeH X) M M1) (hsrc : RdT Γ M Y) (hr : appP (GT.dat X) (GT.dat Y) = some r) (hb : by_ ≤ 32768)
    (hk : ∀ X' : TL τ, GT.dat X' = r → L Γ rest ((d, X'.hdr) :: l) (treeH X' :: M1) K) :
    L Γ ({ dst := some d, op := .call { callee := .builtin .append, args := #[s, x], argTypes := #[T, T] }, type := ty, pos, after := af, guard := none } :: rest) l M K := by
  obtain ⟨h1, rfl⟩ := appP_some hr
  simp only [dat_els, List.length_map] at h1
  obtain ⟨a2, c2, e2, x2, tl2⟩ := Y
  cases a2 with
  | some a2 =>
    obtain ⟨b, o, sp⟩ := a2
    refine L_appA (ys := x2) hn hs hx ht hsz hz hp rfl (fun w hw j v hv => ?_) (fun w R h => elsT_flat h fun x _ => FlatT.flat x) h1 hb
      (fun X' h => hk X' (by rw [dat_els, h, List.map_append]; rfl))
    have h2 := (hsrc w hw).2.2.2.2 _ rfl
    have hne : x2 ≠ [] := fun e => by subst e; simp [rowCells] at hv
    have h3 : sp = none := h2.1 hne
    subst h3
    rw [addr_add]; exact (h2.2 j v hv).1
  | none =>
    intro ops a w Q ha hw
    have h2 : x2 = [] := (hsrc w hw.sees).2.2.2.1 rfl
    subst h2
    have hk' := hk X (by rw [dat_els]; show _ = _ ++ [].map GT.dat; simp)
    have hr : GT.ow w X := (hw.perm hp.perm).prs _ (List.mem_cons_self ..)
    refine L_step rfl rfl (Nat.le_of_ble_eq_true hn) (fun a w ha hw => ⟨w, ?_, hw.perm hp.perm⟩) hk' ops a w Q ha hw
    have := append_none (P := Γ.P) (w := w) (a := X.a) (n := X.els.length) (c := X.cap) (c2 := c2) ht hr.1 ty
    have h5 : (Builtin.append_ #[T, T] ty #[X.hdr, .slice none 0 c2]).run Γ.P w = .ok X.hdr w := this
    have h6 := ha.eval hx
    simp only [TL.hdr, List.length_nil] at h6
    generalize X.hdr = uu at *
    simp [execOp, resolve, invoke, builtin, ha.eval hs, h6, h5]
theorem addF [FlatT τ] (t : τ) (h : Holds w0 S0 M w) : Holds w0 S0 (treeH t :: M) w := h.addFlat (FlatT.flat t)
/-! Slices of slices -/
def slc (X : TL τ) (lo hi : Nat) : TL τ := ⟨if X.cap = lo then X.a else X.a.map (·.add (lo * GT.sz τ)), X.cap - lo, X.e, (X.els.drop lo).take (hi - lo), []⟩
theorem slc_rd {X : TL τ} {lo hi : Nat} (h : GT.rd w0 S0 X) (h1 : lo ≤ hi) (h2 : hi ≤ X.els.length) : GT.rd w0 S0 (slc X lo hi) := by
  obtain ⟨r1, r2, r3, r4, r5⟩ := h
  have hsub : ∀ x, x ∈ (X.els.drop lo).take (hi - lo) → x ∈ X.els := fun x hx => List.mem_of_mem_drop (List.mem_of_mem_take hx)
  refine ⟨?_, ?_, fun x hx => r3 x (hsub x hx), fun ha => ?_, fun a ha => ?_⟩
  · show ((X.els.drop lo).take (hi - lo)).length ≤ X.cap - lo
    simp; omega
  · show X.cap - lo ≤ maxLen
    omega
  · have ha' : (if X.cap = lo then X.a else X.a.map (·.add (lo * GT.sz τ))) = none := ha
    have : X.a = none := by split at ha' <;> simpa using ha'
    show (X.els.drop lo).take (hi - lo) = []
    rw [r4 this]; simp
  · have ha' : (if X.cap = lo then X.a else X.a.map (·.add (lo * GT.sz τ))) = some a := ha
    by_cases hcl : X.cap = lo
    · have he : (X.els.drop lo).take (hi - lo) = [] := by rw [List.drop_of_length_le (by omega)]; simp
      refine ⟨fun hne => (hne he).elim, fun j v hv => ?_⟩
      have hv' : (rowCells ((X.els.drop lo).take (hi - lo)))[j]? = some v := hv
      rw [he] at hv'
      simp [rowCells] at hv'
    · rw [if_neg hcl] at ha'
      obtain ⟨a0, h3, h4⟩ := Option.map_eq_some_iff.1 ha'
      obtain ⟨r6, r7⟩ := r5 a0 h3
      have hspot : (X.els.drop lo).take (hi - lo) ≠ [] → a0.spot = none := fun hne => r6 (fun e => hne (by rw [e]; simp))
      have hadd : a0.spot = none → a0.add (lo * GT.sz τ) = ⟨a0.block, a0.off + lo * GT.sz τ, none⟩ := fun hs => by
        obtain ⟨b, o, s⟩ := a0
        have hs' : s = none := hs
        subst hs'
        rw [addr_add]
      refine ⟨fun hne => ?_, fun j v hv => ?_⟩
      · rw [← h4, hadd (hspot hne)]
      · have hv' : (rowCells ((X.els.drop lo).take (hi - lo)))[j]? = some v := hv
        have hne : (X.els.drop lo).take (hi - lo) ≠ [] := fun e => by rw [e] at hv'; simp [rowCells] at hv'
        rw [← h4, hadd (hspot hne)]
        have hrow : rowCells X.els = rowCells (X.els.take lo) ++ (rowCells ((X.els.drop lo).take (hi - lo)) ++ rowCells ((X.els.drop lo).drop (hi - lo))) := by
          rw [← rowCells_append, ← rowCells_append, List.take_append_drop, List.take_append_drop]
        have hl : (rowCells (X.els.take lo)).length = lo * GT.sz τ := by rw [length_rowCells, List.length_take, Nat.min_eq_left (by omega)]
        have := r7 (lo * GT.sz τ + j) v (by
          rw [hrow, List.getElem?_append_right (by omega), hl, Nat.add_sub_cancel_left, List.getElem?_append_left (List.getElem?_eq_some_iff.1 hv').1]; exact hv')
        rw [show a0.off + lo * GT.sz τ + j = a0.off + (lo * GT.sz τ + j) by omega]; exact this
theorem RdT.slc {X : TL τ} {lo hi : Nat} (h : RdT Γ M X) (h1 : lo ≤ hi) (h2 : hi ≤ X.els.length) : RdT Γ M (slc X lo hi) := fun w hw => slc_rd (h w hw) h1 h2
def slcP {δ : Type} (l : List δ) (a b : Int) : Option (List δ) := if 0 ≤ a ∧ a ≤ b ∧ b ≤ l.length then some ((l.drop a.toNat).take (b.toNat - a.toNat)) else none
def optI (l : Envl) (x : Option Operand) (n : Int) : Option Int := match x with
  | none => some n
  | some o => match ev l o with | some (.int _ i) => some i | _ => none
theorem optI_some {o : Operand} {n i : Int} (h : optI l (some o) n = some i) : ∃ k, ev l o = some (.int k i) := by
  unfold optI at h
  dsimp only at h
  split at h
  · cases h; exact ⟨_, by assumption⟩
  · cases h
theorem run_sliceBound {P : Program} {k : IntKind} {i : Int} {y : Nat} {code : BoundsCode} (h0 : 0 ≤ i) (h1 : i ≤ (y : Int)) (w : World) : (Instr.sliceBound (.int k i) y code).run P w = .ok i.toNat w := by
  simp [Instr.sliceBound, asIntOf, h0, h1]
end
/-! Slices of strings -/
def sslP (s : ByteArray) (a b : Int) : Option ByteArray := if 0 ≤ a ∧ a ≤ b ∧ b ≤ s.size then some (s.extract a.toNat b.toNat) else none
end Go.Proofs.SL
