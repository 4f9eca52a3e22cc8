/- The base of the walks: a small separation logic over the model's own rules for code, proved for every program. -/
import Derived.WalkKit
import Derived.Orders
import Derived.KernelRfl
namespace Go.Proofs.SL
open Go

abbrev Envl := List (Nat × Value)

/-- What is known of a frame's slots. -/
structure Env (a : Act) (n : Nat) (l : Envl) : Prop where
  size : a.tmps.size = n
  defers : a.defers = []
  get : ∀ t v, l.lookup t = some v → a.tmps[t]? = some v

/-- A part of memory with what is known of it; `fp` lists the blocks that it speaks of. -/
structure HP where
  fp : List Nat
  pr : World → Prop
  st : ∀ w w' : World, (∀ k, k ∈ fp → w'.heap[k]? = w.heap[k]?) → pr w → pr w'

def fps (M : List HP) : List Nat := M.flatMap HP.fp

structure Holds (w0 : World) (S0 : List Nat) (M : List HP) (w : World) : Prop where
  os : w.os = w0.os
  tape : w.tape = w0.tape
  output : w.output = w0.output
  size : w0.heap.size ≤ w.heap.size
  old : ∀ k, k < w0.heap.size → k ∉ S0 → w.heap[k]? = w0.heap[k]?
  prs : ∀ h, h ∈ M → h.pr w
  nodup : (fps M).Nodup
  rng : ∀ k, k ∈ fps M → (k ∈ S0 ∨ w0.heap.size ≤ k) ∧ k < w.heap.size

structure Cx where
  P : Program
  n : Nat
  w0 : World
  S0 : List Nat

abbrev Kont := Envl → List HP → Prop
abbrev Post := Exit → Envl → List HP → Prop

def liftQ (Γ : Cx) (Q : Post) : Exit → Act → World → Prop
  | .outgrown => fun _ _ => False
  | .panic _ => fun _ _ => False
  | e => fun a w => ∃ l M, Env a Γ.n l ∧ Holds Γ.w0 Γ.S0 M w ∧ Q e l M

def W (Γ : Cx) (c : Code) (l : Envl) (M : List HP) (Q : Post) : Prop :=
  ∀ a w, Env a Γ.n l → Holds Γ.w0 Γ.S0 M w → c.wp Γ.P (liftQ Γ Q) a w

def thenQ (K : Kont) (Q : Post) : Post
  | .normal, l, M => K l M
  | e, l, M => Q e l M

def blockQ (id : Nat) (Q : Post) : Post
  | .exit id', l, M => match Nat.beq id' id with
    | true => Q .normal l M
    | false => Q (.exit id') l M
  | e, l, M => Q e l M

def L (Γ : Cx) (rest : List Oper) (l : Envl) (M : List HP) (K : Kont) : Prop :=
  ∀ ops a w (Q : Exit → Act → World → Prop), Env a Γ.n l → Holds Γ.w0 Γ.S0 M w →
    (∀ a' w' l' M', Env a' Γ.n l' → Holds Γ.w0 Γ.S0 M' w' → K l' M' → Q .normal a' w') → wpList Γ.P ops Q rest a w

variable {Γ : Cx} {l : Envl} {M : List HP} {Q : Post} {K : Kont}

theorem W_mono {c : Code} {Q' : Post} (h : W Γ c l M Q) (hq : ∀ e l M, Q e l M → Q' e l M) : W Γ c l M Q' := fun a w ha hw =>
  Code.wp_mono (fun e _ _ q => by
    cases e <;> first | exact q.elim | (obtain ⟨l, M, h1, h2, h3⟩ := q; exact ⟨l, M, h1, h2, hq _ _ _ h3⟩)) (h a w ha hw)

theorem W_seq {x y : Code} (h : W Γ x l M (thenQ (fun l M => W Γ y l M Q) Q)) : W Γ (.seq x y) l M Q := fun a w ha hw =>
  wp_seq (Code.wp_mono (fun e a w q => by
    cases e <;> first
      | exact q.elim
      | (obtain ⟨l, M, h1, h2, h3⟩ := q; exact h3 a w h1 h2)
      | (obtain ⟨l, M, h1, h2, h3⟩ := q; exact ⟨l, M, h1, h2, h3⟩)) (h a w ha hw))

theorem W_skip (h : Q .normal l M) : W Γ .skip l M Q := fun a w ha hw => wp_skip ⟨l, M, ha, hw, h⟩
theorem W_ret (h : Q .ret l M) : W Γ .ret l M Q := fun a w ha hw => wp_ret ⟨l, M, ha, hw, h⟩
theorem W_exit {id : Nat} (h : Q (.exit id) l M) : W Γ (.exit id) l M Q := fun a w ha hw => wp_exit ⟨l, M, ha, hw, h⟩

theorem W_block {id : Nat} {c : Code} (h : W Γ c l M (blockQ id Q)) : W Γ (.block id c) l M Q := fun a w ha hw =>
  wp_block (Code.wp_mono (fun e _ _ q => by
    cases e with
    | exit id' =>
      obtain ⟨l, M, h1, h2, h3⟩ := q
      simp only [blockQ] at h3
      simp only [Exit.inBlock]
      split
      · rename_i hid; subst hid; rw [Nat.beq_refl] at h3; exact ⟨l, M, h1, h2, h3⟩
      · rename_i hid; rw [show Nat.beq id' id = false by cases hb : Nat.beq id' id; rfl; exact (hid (Nat.eq_of_beq_eq_true hb)).elim] at h3; exact ⟨l, M, h1, h2, h3⟩
    | panic ch => exact q.elim
    | outgrown => exact q.elim
    | normal => exact q
    | goto l => exact q
    | ret => exact q) (h a w ha hw))

/-- What an operand holds. -/
def ev (l : Envl) : Operand → Option Value
  | .tmp t => l.lookup t
  | .const v => some v
  | .func f => some (.func (.func f) #[] #[])
  | .global g => some (.pointer (some ⟨g, 0, none⟩))

theorem Env.eval {a : Act} {n : Nat} {x : Operand} {v : Value} (h : Env a n l) (hx : ev l x = some v) : a.eval x = v := by
  cases x with
  | tmp t =>
    have := h.get t v hx
    simp only [Act.eval, Array.getD_eq_getD_getElem?, this, Option.getD_some]
  | const u => simpa [ev, Act.eval] using hx
  | func f => simpa [ev, Act.eval] using hx
  | global g => simpa [ev, Act.eval] using hx

theorem W_cond {t : Operand} {b : Bool} {x y : Code} (ht : ev l t = some (.bool b)) (h1 : b = true → W Γ x l M Q) (h2 : b = false → W Γ y l M Q) :
    W Γ (.cond t x y) l M Q := fun a w ha hw =>
  wp_cond_split (ha.eval ht) (fun h => h1 h a w ha hw) (fun h => h2 h a w ha hw)

theorem W_condT {t : Operand} {x y : Code} (ht : ev l t = some (.bool true)) (h1 : W Γ x l M Q) : W Γ (.cond t x y) l M Q :=
  W_cond ht (fun _ => h1) (fun h => by cases h)
theorem W_condF {t : Operand} {x y : Code} (ht : ev l t = some (.bool false)) (h1 : W Γ y l M Q) : W Γ (.cond t x y) l M Q :=
  W_cond ht (fun h => by cases h) (fun _ => h1)

/-- Fewer slots, fewer parts. -/
def Sub (l' l : Envl) : Prop := ∀ t v, l'.lookup t = some v → l.lookup t = some v
theorem Sub.refl (l : Envl) : Sub l l := fun _ _ h => h
theorem Sub.nil (l : Envl) : Sub [] l := fun _ _ h => by simp at h
theorem Sub.cons {l' : Envl} {t : Nat} {v : Value} (h : l.lookup t = some v) (hs : Sub l' l) : Sub ((t, v) :: l') l := by
  intro t' v' h'
  simp only [List.lookup_cons] at h'
  split at h'
  · rename_i he; simp only [beq_iff_eq] at he; subst he; cases h'; exact h
  · exact hs _ _ h'
theorem Env.sub {a : Act} {n : Nat} {l' : Envl} (h : Env a n l) (hs : Sub l' l) : Env a n l' := ⟨h.size, h.defers, fun t v ht => h.get t v (hs t v ht)⟩

/-- `MSub M' M`: M' is M with some parts dropped and the order turned. -/
def MSub (M' M : List HP) : Prop := ∃ r, List.Perm M (M' ++ r)
theorem MSub.refl (M : List HP) : MSub M M := ⟨[], by simp⟩
theorem MSub.nil (M : List HP) : MSub [] M := ⟨M, by simp⟩

theorem fps_perm {M M' : List HP} (h : List.Perm M M') : List.Perm (fps M) (fps M') := by
  unfold fps; exact h.flatMap_right _
theorem fps_append (M M' : List HP) : fps (M ++ M') = fps M ++ fps M' := by simp [fps]
theorem fps_cons (h : HP) (M : List HP) : fps (h :: M) = h.fp ++ fps M := by simp [fps]
@[simp] theorem fps_nil : fps [] = [] := rfl

variable {w0 w : World} {S0 : List Nat}
theorem Holds.perm {M' : List HP} (h : Holds w0 S0 M w) (hp : List.Perm M M') : Holds w0 S0 M' w :=
  ⟨h.os, h.tape, h.output, h.size, h.old, fun x hx => h.prs x (hp.mem_iff.2 hx), (fps_perm hp).nodup_iff.1 h.nodup, fun k hk => h.rng k ((fps_perm hp).mem_iff.2 hk)⟩
theorem Holds.left {M1 M2 : List HP} (h : Holds w0 S0 (M1 ++ M2) w) : Holds w0 S0 M1 w :=
  ⟨h.os, h.tape, h.output, h.size, h.old, fun x hx => h.prs x (List.mem_append_left _ hx),
    by have := h.nodup; rw [fps_append] at this; exact (List.nodup_append.1 this).1, fun k hk => h.rng k (by rw [fps_append]; exact List.mem_append_left _ hk)⟩
theorem Holds.sub {M' : List HP} (h : Holds w0 S0 M w) (hs : MSub M' M) : Holds w0 S0 M' w := by
  obtain ⟨r, hr⟩ := hs; exact (h.perm hr).left

theorem W_weaken {c : Code} {l' : Envl} {M' : List HP} (hs : Sub l' l) (hm : MSub M' M) (h : W Γ c l' M' Q) : W Γ c l M Q :=
  fun a w ha hw => h a w (ha.sub hs) (hw.sub hm)

/-- Keep the slots that are named. -/
def keepE (ts : List Nat) (l : Envl) : Envl := ts.filterMap fun t => (l.lookup t).map fun v => (t, v)
theorem lookup_keepE (ts : List Nat) (l : Envl) (t : Nat) (v : Value) (h : (keepE ts l).lookup t = some v) : l.lookup t = some v := by
  induction ts with
  | nil => simp [keepE] at h
  | cons s ts ih =>
    simp only [keepE, List.filterMap_cons] at h
    cases hs : l.lookup s with
    | none => rw [hs] at h; exact ih h
    | some u =>
      rw [hs] at h
      simp only [Option.map_some, List.lookup_cons] at h
      split at h
      · rename_i he; simp only [beq_iff_eq] at he; subst he; rw [hs]; exact h
      · exact ih h
theorem W_keep {c : Code} (ts : List Nat) {l' : Envl} (hl : keepE ts l = l') (h : W Γ c l' M Q) : W Γ c l M Q :=
  W_weaken (fun t v h => lookup_keepE ts l t v (hl ▸ h)) (MSub.refl M) h

theorem W_loop {σ : Type} {c : Code} (E : σ → Envl) (Mf : σ → List HP) (I : σ → Prop) (μ : σ → Nat) (s0 : σ) (h0 : I s0) (hl : Sub (E s0) l) (hm : MSub (Mf s0) M)
    (round : ∀ s, I s → W Γ c (E s) (Mf s) (thenQ (fun l' M' => ∃ s', Sub (E s') l' ∧ MSub (Mf s') M' ∧ I s' ∧ μ s' < μ s) Q)) : W Γ (.loop c) l M Q := by
  intro a0 w0 ha0 hw0 b k cs
  have key : ∀ n s a w, μ s = n → I s → Env a Γ.n (E s) → Holds Γ.w0 Γ.S0 (Mf s) w →
      ∃ e a' w', liftQ Γ Q e a' w' ∧ Arrives Γ.P (lone (b.at a (.code c :: .inLoop c :: k)) cs w) b k cs e a' w' := by
    intro n
    induction n using Nat.strongRecOn with
    | _ n ih =>
      intro s a w hn hI ha hw
      obtain ⟨e, a₁, w₁, hq, harr⟩ := round s hI a w ha hw b (.inLoop c :: k) cs
      cases e with
      | normal =>
        obtain ⟨l', M', h1, h2, s', h3, h4, h5, h6⟩ := hq
        obtain ⟨e₂, a₂, w₂, hq₂, harr₂⟩ := ih (μ s') (hn ▸ h6) s' a₁ w₁ rfl h5 (h1.sub h3) (h2.sub h4)
        exact ⟨e₂, a₂, w₂, hq₂, .of_steps (Steps.trans harr (.one step_inLoop)) harr₂⟩
      | exit id => exact ⟨.exit id, a₁, w₁, hq, .pass (x := .inLoop c) rfl (fun _ _ => .inl (by simp)) harr⟩
      | goto l => exact ⟨.goto l, a₁, w₁, hq, .pass (x := .inLoop c) rfl (fun _ _ => .inl (by simp)) harr⟩
      | ret => exact ⟨.ret, a₁, w₁, hq, .pass (x := .inLoop c) rfl (fun _ _ => .inl (by simp)) harr⟩
      | panic ch => exact hq.elim
      | outgrown => exact hq.elim
  obtain ⟨e, a', w', hq, harr⟩ := key _ s0 a0 w0 rfl h0 (ha0.sub hl) (hw0.sub hm)
  exact ⟨e, a', w', hq, .of_steps (.one step_loop) harr⟩

/-- A loop: some slots and parts stay as they are, the others go with the state. -/
theorem W_loopC {σ : Type} {c : Code} (s0 : σ) (Ev : σ → Envl) (Mv : σ → List HP) (I : σ → Prop) (μ : σ → Nat) (Ec : Envl) (Mc : List HP) (h0 : I s0) (hl : Sub (Ev s0 ++ Ec) l) (hm : MSub (Mv s0 ++ Mc) M)
    (round : ∀ s, I s → W Γ c (Ev s ++ Ec) (Mv s ++ Mc) (thenQ (fun l' M' => ∃ s', Sub (Ev s' ++ Ec) l' ∧ MSub (Mv s' ++ Mc) M' ∧ I s' ∧ μ s' < μ s) Q)) : W Γ (.loop c) l M Q :=
  W_loop (fun s => Ev s ++ Ec) (fun s => Mv s ++ Mc) I μ s0 h0 hl hm round

/-- Ways that meet again: what holds where they meet. -/
theorem W_join {σ : Type} {x y : Code} (Ev : σ → Envl) (Mv : σ → List HP) (I : σ → Prop) (Ec : Envl) (Mc : List HP)
    (h : W Γ x l M (thenQ (fun l' M' => ∃ s, Sub (Ev s ++ Ec) l' ∧ MSub (Mv s ++ Mc) M' ∧ I s) Q))
    (hk : ∀ s, I s → W Γ y (Ev s ++ Ec) (Mv s ++ Mc) Q) : W Γ (.seq x y) l M Q :=
  W_seq (W_mono h fun e l' M' hq => by
    cases e <;> first
      | exact hq
      | (obtain ⟨s, h1, h2, h3⟩ := hq; exact W_weaken h1 h2 (hk s h3)))

theorem Env.put {a : Act} {n d : Nat} {v : Value} (h : Env a n l) (hd : d < n) : Env (a.put (some d) v) n ((d, v) :: l) := by
  refine ⟨by simp [Act.put, h.size], by simp [Act.put, h.defers], fun t u ht => ?_⟩
  simp only [List.lookup_cons] at ht
  simp only [Act.put]
  by_cases e : t = d
  · subst e
    simp at ht; subst ht
    rw [Array.getElem?_setIfInBounds_self_of_lt (by rw [h.size]; exact hd)]
  · rw [Array.getElem?_setIfInBounds_ne (by omega)]
    rw [show (t == d) = false by simpa using e] at ht
    exact h.get t u ht

theorem W_region {id : Nat} {ops : List Oper} (h : L Γ ops l M (fun l M => Q .normal l M)) : W Γ (.region id ops.toArray false) l M Q :=
  fun a w ha hw => wp_region_lit (h _ a w _ ha hw fun a' w' l' M' h1 h2 h3 => ⟨l', M', h1, h2, h3⟩)

theorem L_nil (h : K l M) : L Γ [] l M K := fun ops a w Q ha hw hk => wpList_nil (hk a w l M ha hw h)

/-- One operation that yields a value and may turn memory. -/
theorem L_step {o : Oper} {rest : List Oper} {M' : List HP} {v : Value} {d : Nat} (hg : o.guard = none) (hd : o.dst = some d) (hn : d < Γ.n)
    (he : ∀ a w, Env a Γ.n l → Holds Γ.w0 Γ.S0 M w → ∃ w', (execOp a.eval o).run Γ.P w = .ok (.value v) w' ∧ Holds Γ.w0 Γ.S0 M' w')
    (hk : L Γ rest ((d, v) :: l) M' K) : L Γ (o :: rest) l M K := fun ops a w Q ha hw hq =>
  wpList_plain hg fun K' hK' => by
    obtain ⟨w', h1, h2⟩ := he a w ha hw
    unfold Oper.wp
    rw [h1, Oper.upon_value, hd]
    exact hK' _ _ (hk ops _ w' Q (ha.put hn) h2 hq)

/-- The same where what comes out is not known beforehand. -/
theorem L_stepR {o : Oper} {rest : List Oper} {d : Nat} (R : Value → List HP → Prop) (hg : o.guard = none) (hd : o.dst = some d) (hn : d < Γ.n)
    (he : ∀ a w, Env a Γ.n l → Holds Γ.w0 Γ.S0 M w → ∃ v M' w', R v M' ∧ (execOp a.eval o).run Γ.P w = .ok (.value v) w' ∧ Holds Γ.w0 Γ.S0 M' w')
    (hk : ∀ v M', R v M' → L Γ rest ((d, v) :: l) M' K) : L Γ (o :: rest) l M K := fun ops a w Q ha hw hq =>
  wpList_plain hg fun K' hK' => by
    obtain ⟨v, M', w', hr, h1, h2⟩ := he a w ha hw
    unfold Oper.wp
    rw [h1, Oper.upon_value, hd]
    exact hK' _ _ (hk v M' hr ops _ w' Q (ha.put hn) h2 hq)

/-- One operation that yields nothing (a store). -/
theorem L_skip {o : Oper} {rest : List Oper} {M' : List HP} (hg : o.guard = none) (hd : o.dst = none)
    (he : ∀ a w, Env a Γ.n l → Holds Γ.w0 Γ.S0 M w → ∃ w', (execOp a.eval o).run Γ.P w = .ok .skip w' ∧ Holds Γ.w0 Γ.S0 M' w')
    (hk : L Γ rest l M' K) : L Γ (o :: rest) l M K := fun ops a w Q ha hw hq =>
  wpList_plain hg fun K' hK' => by
    obtain ⟨w', h1, h2⟩ := he a w ha hw
    unfold Oper.wp
    rw [h1, Oper.upon_skip, hd]
    exact hK' _ _ (hk ops _ w' Q (by simpa [Act.put] using ha) h2 hq)

/-- A function's contract: it is called where the parts `M` hold (of which it may turn what it likes), and hands back a value and parts. -/
def Spec (P : Program) (f : FuncId) (args : Array Value) (w : World) (M : List HP) (R : Value → List HP → Prop) : Prop :=
  Holds w (fps M) M w → Calls P f args w fun e w' => ∃ v M', e = .returned v ∧ R v M' ∧ Holds w (fps M) M' w'

theorem Spec.mono {P : Program} {f : FuncId} {args : Array Value} {R R' : Value → List HP → Prop} (h : Spec P f args w M R) (hr : ∀ v M', R v M' → R' v M') :
    Spec P f args w M R' := fun hh => (h hh).mono fun _ _ ⟨v, M', h1, h2, h3⟩ => ⟨v, M', h1, hr _ _ h2, h3⟩

theorem Holds.split {M1 M2 : List HP} (h : Holds w0 S0 (M1 ++ M2) w) : Holds w (fps M1) M1 w :=
  ⟨rfl, rfl, rfl, Nat.le_refl _, fun _ _ _ => rfl, h.left.prs, h.left.nodup, fun k hk => ⟨.inl hk, (h.left.rng k hk).2⟩⟩

/-- What a call leaves, with all that it was not given. -/
theorem Holds.frame {M1 M2 M' : List HP} {w' : World} (h : Holds w0 S0 (M1 ++ M2) w) (h' : Holds w (fps M1) M' w') : Holds w0 S0 (M' ++ M2) w' := by
  have hnd := h.nodup
  rw [fps_append] at hnd
  obtain ⟨hn1, hn2, hdis⟩ := List.nodup_append.1 hnd
  have hr1 : ∀ k, k ∈ fps M1 → (k ∈ S0 ∨ w0.heap.size ≤ k) ∧ k < w.heap.size := fun k hk => h.rng k (by rw [fps_append]; exact List.mem_append_left _ hk)
  have hr2 : ∀ k, k ∈ fps M2 → (k ∈ S0 ∨ w0.heap.size ≤ k) ∧ k < w.heap.size := fun k hk => h.rng k (by rw [fps_append]; exact List.mem_append_right _ hk)
  have hno : ∀ k, k ∈ fps M2 → k ∉ fps M1 := fun k h2 h1 => hdis k h1 k h2 rfl
  refine ⟨h'.os.trans h.os, h'.tape.trans h.tape, h'.output.trans h.output, Nat.le_trans h.size h'.size, fun k hk hs => ?_, fun x hx => ?_, ?_, fun k hk => ?_⟩
  · rw [h'.old k (Nat.lt_of_lt_of_le hk h.size) (fun hm => by
      rcases (hr1 k hm).1 with h3 | h3
      · exact hs h3
      · omega)]
    exact h.old k hk hs
  · rcases List.mem_append.1 hx with hx | hx
    · exact h'.prs x hx
    · refine x.st w w' (fun k hk => ?_) (h.prs x (List.mem_append_right _ hx))
      have hm : k ∈ fps M2 := List.mem_flatMap.2 ⟨x, hx, hk⟩
      exact h'.old k (hr2 k hm).2 (hno k hm)
  · rw [fps_append]
    refine List.nodup_append.2 ⟨h'.nodup, hn2, fun a ha b hb e => ?_⟩
    subst e
    rcases (h'.rng a ha).1 with h3 | h3
    · exact hno a hb h3
    · have := (hr2 a hb).2; omega
  · rw [fps_append] at hk
    rcases List.mem_append.1 hk with hk | hk
    · obtain ⟨h3, h4⟩ := h'.rng k hk
      refine ⟨?_, h4⟩
      rcases h3 with h3 | h3
      · exact (hr1 k h3).1
      · exact .inr (Nat.le_trans h.size h3)
    · exact ⟨(hr2 k hk).1, Nat.lt_of_lt_of_le (hr2 k hk).2 h'.size⟩

structure IsFn (P : Program) (f : FuncId) : Prop where
  out : ∃ fn : Func, P.funcs[f]? = some fn ∧ (fn.name == "runtime.NumGoroutine") = false ∧ fn.body.isNone = false

theorem IsFn.run {P : Program} {f : FuncId} (h : IsFn P f) (args : Array Value) (w : World) : (callFunc f args).run P w = .ok (.enter f args) w := by
  obtain ⟨fn, h1, h2, h3⟩ := h.out
  simp only [callFunc, Sem.run_bind, run_program, Result.andThen_ok, h1, h2, h3, Bool.false_eq_true, if_false, Sem.run_pure]

def evs (l : Envl) : List Operand → Option (List Value)
  | [] => some []
  | x :: xs => match ev l x, evs l xs with
    | some v, some vs => some (v :: vs)
    | _, _ => none
theorem Env.evals {a : Act} {n : Nat} (h : Env a n l) : ∀ (xs : List Operand) (vs : List Value), evs l xs = some vs → xs.map a.eval = vs
  | [], vs, hx => by simp [evs] at hx; simp [hx]
  | x :: xs, vs, hx => by
    simp only [evs] at hx
    split at hx
    · rename_i v us h1 h2
      cases hx
      simp [h.eval h1, h.evals xs us h2]
    · cases hx

/-- A call of a named function, by its contract. -/
theorem L_call {o : Oper} {rest : List Oper} {d f : Nat} {xs : List Operand} {ats : Array TypeId} {vs : List Value} {M1 M2 : List HP} {R : Value → List HP → Prop}
    (ho : o.op = .call { callee := .value (.func f), args := xs.toArray, argTypes := ats }) (hg : o.guard = none) (hd : o.dst = some d) (hn : d < Γ.n)
    (hf : IsFn Γ.P f) (hx : evs l xs = some vs) (hp : List.Perm M (M1 ++ M2))
    (hc : ∀ w, Holds Γ.w0 Γ.S0 (M1 ++ M2) w → Spec Γ.P f vs.toArray w M1 R)
    (hk : ∀ v M', R v M' → L Γ rest ((d, v) :: l) (M' ++ M2) K) : L Γ (o :: rest) l M K := fun ops a w Q ha hw hq =>
  wpList_plain hg fun K' hK' => by
    have hw' := hw.perm hp
    have he : (execOp a.eval o).run Γ.P w = .ok (.enter f vs.toArray) w := by
      have h1 : execOp a.eval o = callFunc f (#[] ++ xs.toArray.map a.eval ++ #[]) := by unfold execOp; rw [ho]; rfl
      have h2 : (#[] ++ xs.toArray.map a.eval ++ #[] : Array Value) = vs.toArray := by simp [ha.evals xs vs hx]
      rw [h1, h2, hf.run]
    unfold Oper.wp
    rw [he, Oper.upon_enter]
    refine (hc w hw' hw'.split).mono fun e w'' ⟨v, M', h1, h2, h3⟩ => ?_
    subst h1
    simp only [hd]
    exact hK' _ _ (hk v M' h2 ops _ w'' Q (ha.put hn) (hw'.frame h3) hq)

end Go.Proofs.SL
