/- What a function computes on data alone: indexing that may fail, loops, ways that meet again; and the rules that let a walk follow such a text. -/
import Derived.Test.YthebgoognabinaaBaseG
namespace Go.Proofs.SL
open Go

abbrev i64 (n : Int) : Int := IntKind.wrap .i64 n

section
variable {α β σ : Type}
def idx (l : List α) (i : Int) : Option α := if i < 0 then none else l[i.toNat]?
theorem idx_some {l : List α} {i : Int} {x : α} : idx l i = some x ↔ 0 ≤ i ∧ l[i.toNat]? = some x := by
  unfold idx
  split
  · constructor
    · intro h; cases h
    · intro h; omega
  · constructor
    · intro h; exact ⟨by omega, h⟩
    · intro h; exact h.2
theorem idx_nat {l : List α} {k : Nat} : idx l (k : Int) = l[k]? := by
  unfold idx
  rw [if_neg (by omega)]; simp
def sidx (s : ByteArray) (i : Int) : Option Int := if h : 0 ≤ i ∧ i.toNat < s.size then some ((s[i.toNat]'h.2).toNat : Int) else none
theorem sidx_some {s : ByteArray} {i n : Int} (h : sidx s i = some n) : ∃ h : 0 ≤ i ∧ i.toNat < s.size, n = ((s[i.toNat]'h.2).toNat : Int) := by
  unfold sidx at h
  split at h
  · rename_i hh; cases h; exact ⟨hh, rfl⟩
  · cases h
def gb [Inhabited α] (g : Bool) (o : Option α) (k : α → Option β) : Option β := match g with | true => o.bind k | false => k default
theorem gb_any [Inhabited α] {g : Bool} {o : Option α} {k : α → Option β} {r : β} (h : gb g o k = some r) : ∃ y, (g = true → o = some y) ∧ k y = some r := by
  cases g with
  | true => obtain ⟨y, h1, h2⟩ := Option.bind_eq_some_iff.1 h; exact ⟨y, fun _ => h1, h2⟩
  | false => exact ⟨default, (fun hh => (by cases hh)), h⟩
theorem bind_any {o : Option α} {k : α → Option β} {r : β} (h : Option.bind o k = some r) : ∃ y, o = some y ∧ k y = some r := Option.bind_eq_some_iff.1 h
theorem cond_t {c : Bool} {A B o : Option α} (hc : c = true) (h : cond c A B = o) : A = o := by subst hc; exact h
theorem cond_f {c : Bool} {A B o : Option α} (hc : c = false) (h : cond c A B = o) : B = o := by subst hc; exact h
theorem map_any {o : Option α} {f : α → β} {r : β} (h : Option.map f o = some r) : ∃ a, o = some a ∧ r = f a := by
  obtain ⟨a, h1, h2⟩ := Option.map_eq_some_iff.1 h; exact ⟨a, h1, h2.symm⟩
theorem some_eq {a b : α} (h : some a = some b) : b = a := (Option.some.inj h).symm

/-! Loops -/
def iterW (f : σ → Option (σ ⊕ α)) : Nat → σ → Option α
  | 0, _ => none
  | n + 1, s => match f s with
    | none => none
    | some (.inl s') => iterW f n s'
    | some (.inr a) => some a
theorem iterW_mono {f : σ → Option (σ ⊕ α)} {a : α} : ∀ {n : Nat} {s : σ} (m : Nat), n ≤ m → iterW f n s = some a → iterW f m s = some a
  | 0, s, m, _, h => by cases h
  | n + 1, s, 0, hm, _ => by omega
  | n + 1, s, m + 1, hm, h => by
    simp only [iterW] at h ⊢
    split at h
    · cases h
    · exact iterW_mono m (by omega) h
    · exact h
noncomputable def whileP (f : σ → Option (σ ⊕ α)) (s : σ) : Option α :=
  @dite _ (∃ n a, iterW f n s = some a) (Classical.propDecidable _) (fun h => some h.choose_spec.choose) (fun _ => none)
theorem whileP_iff {f : σ → Option (σ ⊕ α)} {s : σ} {a : α} : whileP f s = some a ↔ ∃ n, iterW f n s = some a := by
  unfold whileP
  constructor
  · intro h
    split at h
    · rename_i hh
      cases h
      exact ⟨hh.choose, hh.choose_spec.choose_spec⟩
    · cases h
  · rintro ⟨n, hn⟩
    have hh : ∃ n a, iterW f n s = some a := ⟨n, a, hn⟩
    rw [dif_pos hh]
    have h2 := hh.choose_spec.choose_spec
    have key : ∀ m b, iterW f m s = some b → some b = some a := by
      intro m b h2
      rcases Nat.le_total n m with hle | hle
      · rw [iterW_mono m hle hn] at h2; exact h2.symm
      · rw [iterW_mono n hle h2] at hn; exact hn
    exact key _ _ h2
theorem whileP_eq (f : σ → Option (σ ⊕ α)) (s : σ) : whileP f s = match f s with | none => none | some (.inl s') => whileP f s' | some (.inr a) => some a := by
  have key : ∀ a, whileP f s = some a ↔ (match f s with | none => none | some (.inl s') => whileP f s' | some (.inr a) => some a) = some a := by
    intro a
    rw [whileP_iff]
    constructor
    · rintro ⟨n, h⟩
      cases n with
      | zero => cases h
      | succ n =>
        simp only [iterW] at h
        split at h
        · cases h
        · exact whileP_iff.2 ⟨n, h⟩
        · exact h
    · intro h
      split at h
      · cases h
      · rename_i s' hs
        obtain ⟨n, h⟩ := whileP_iff.1 h
        exact ⟨n + 1, by simp only [iterW, hs]; exact h⟩
      · rename_i b hs
        exact ⟨1, by simp only [iterW, hs]; exact h⟩
  exact Option.ext key
/-- The rule of a loop, on data. -/
theorem whileP_rule {f : σ → Option (σ ⊕ α)} (I : σ → Prop) (μ : σ → Nat) (Q : α → Prop)
    (h : ∀ s, I s → (∃ s', f s = some (.inl s') ∧ I s' ∧ μ s' < μ s) ∨ ∃ a, f s = some (.inr a) ∧ Q a) (s : σ) (hs : I s) : ∃ a, whileP f s = some a ∧ Q a := by
  generalize hn : μ s = n
  induction n using Nat.strongRecOn generalizing s with
  | _ n ih =>
    rw [whileP_eq]
    rcases h s hs with ⟨s', h1, h2, h3⟩ | ⟨a, h1, h2⟩
    · rw [h1]; exact ih (μ s') (hn ▸ h3) s' h2 rfl
    · rw [h1]; exact ⟨a, rfl, h2⟩
def jbind (o : Option (σ ⊕ α)) (k : σ → Option α) : Option α := match o with
  | none => none
  | some (.inl s) => k s
  | some (.inr a) => some a
theorem jbind_any {o : Option (σ ⊕ α)} {k : σ → Option α} {r : α} (h : jbind o k = some r) : ∃ e, o = some e ∧ (∀ a, e = .inr a → a = r) ∧ (∀ s, e = .inl s → k s = some r) := by
  unfold jbind at h
  split at h
  · cases h
  · exact ⟨_, rfl, fun a ha => by (cases ha), fun s hs => by cases hs; exact h⟩
  · exact ⟨_, rfl, fun a ha => by cases ha; cases h; rfl, fun s hs => by cases hs⟩
end

variable {Γ : Cx} {l : Envl} {M M1 M2 F : List HP} {Q : Post} {K : Kont} {w0 w : World} {S0 : List Nat}
variable {rest : List Oper} {d : Nat} {ty : TypeId} {pos : String} {af : Array Edge}

theorem W_post {c : Code} {Q' : Post} (h : W Γ c l M Q) (hq : ∀ e l M, Q e l M → ∃ M', (∀ w, Holds Γ.w0 Γ.S0 M w → Holds Γ.w0 Γ.S0 M' w) ∧ Q' e l M') : W Γ c l M Q' := fun a w ha hw =>
  Code.wp_mono (fun e a w q => by
    cases e <;> first
      | exact q.elim
      | (obtain ⟨l, M, h1, h2, h3⟩ := q
         obtain ⟨M', h4, h5⟩ := hq _ _ _ h3
         exact ⟨l, M', h1, h4 _ h2, h5⟩)) (h a w ha hw)
/-- What is there suffices for what is wanted. -/
def Arr (Γ : Cx) (M M' : List HP) : Prop := ∃ M2, (∀ w, Holds Γ.w0 Γ.S0 M w → Holds Γ.w0 Γ.S0 M2 w) ∧ MSub M' M2
theorem Arr.sub {M M' : List HP} (h : MSub M' M) : Arr Γ M M' := ⟨M, fun _ h => h, h⟩
/-- A loop of the program along a loop on data. -/
theorem W_while {σ δ A : Type} {c : Code} {f : δ → Option (δ ⊕ A)} {r : A} (dat : σ → δ) (Ev : σ → Envl) (Mv : σ → List HP) (Ec : Envl) (Mc : List HP) (s0 : σ) (h0 : whileP f (dat s0) = some r)
    (hl : Sub (Ev s0 ++ Ec) l) (hm : MSub (Mv s0 ++ Mc) M)
    (round : ∀ s x, f (dat s) = some x → (∀ a, x = .inr a → a = r) → W Γ c (Ev s ++ Ec) (Mv s ++ Mc) (thenQ (fun l' M' => ∃ s', Sub (Ev s' ++ Ec) l' ∧ Arr Γ M' (Mv s' ++ Mc) ∧ x = .inl (dat s')) Q)) :
    W Γ (.loop c) l M Q := by
  obtain ⟨n, hn⟩ := whileP_iff.1 h0
  refine W_loop (σ := σ × Nat) (fun s => Ev s.1 ++ Ec) (fun s => Mv s.1 ++ Mc) (fun s => iterW f s.2 (dat s.1) = some r) (fun s => s.2) (s0, n) hn hl hm ?_
  rintro ⟨s, n⟩ hI
  dsimp only at hI ⊢
  cases n with
  | zero => cases hI
  | succ n =>
    simp only [iterW] at hI
    split at hI
    · cases hI
    · rename_i s' hs
      refine W_post (round s _ hs (fun a ha => by cases ha)) fun e l' M' hq => ?_
      cases e <;> first
        | exact ⟨M', fun _ h => h, hq⟩
        | (obtain ⟨s2, h1, ⟨M2, h2, h2'⟩, h3⟩ := hq
           have e : s' = dat s2 := by simpa using h3
           subst e
           exact ⟨M2, h2, (s2, n), h1, h2', hI, Nat.lt_succ_self n⟩)
    · rename_i a ha
      cases hI
      refine W_mono (round s _ ha (fun a ha => by cases ha; rfl)) fun e l' M' hq => ?_
      cases e <;> first
        | exact hq
        | (obtain ⟨s2, h1, h2, h3⟩ := hq; cases h3)

/-- Ways that meet again. -/
theorem W_jn {σ δ A : Type} {x y : Code} {o : Option (δ ⊕ A)} {k : δ → Option A} {r : A} (dat : σ → δ) (Ev : σ → Envl) (Mv : σ → List HP) (Ec : Envl) (Mc : List HP) (h0 : jbind o k = some r)
    (h : ∀ e, o = some e → (∀ a, e = .inr a → a = r) → W Γ x l M (thenQ (fun l' M' => ∃ s, Sub (Ev s ++ Ec) l' ∧ Arr Γ M' (Mv s ++ Mc) ∧ e = .inl (dat s)) Q))
    (hk : ∀ s, k (dat s) = some r → W Γ y (Ev s ++ Ec) (Mv s ++ Mc) Q) : W Γ (.seq x y) l M Q := by
  obtain ⟨e, h1, h2, h3⟩ := jbind_any h0
  exact W_seq (W_post (h e h1 h2) fun ex l' M' hq => by
    cases ex <;> first
      | exact ⟨M', fun _ h => h, hq⟩
      | (obtain ⟨s, h4, ⟨M2, h5, h5'⟩, h6⟩ := hq; exact ⟨M2, h5, W_weaken h4 h5' (hk s (h3 _ h6))⟩))
end Go.Proofs.SL
