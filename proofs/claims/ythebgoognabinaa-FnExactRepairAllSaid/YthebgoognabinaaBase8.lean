/- The base of the walks, eighth part: the rules for slices of one's own, for values built of parts, for strings and bytes. -/
import Derived.Test.YthebgoognabinaaBase7
namespace Go.Proofs.SL
open Go

variable {Γ : Cx} {l : Envl} {M M1 M2 F : List HP} {Q : Post} {K : Kont} {w0 w : World} {S0 : List Nat}
variable {rest : List Oper} {d : Nat} {ty : TypeId} {pos : String} {af : Array Edge}

/-- What can be read here. -/
def RdT {τ δ : Type} [GT τ δ] (Γ : Cx) (M : List HP) (t : τ) : Prop := ∀ w, Sees Γ.w0 Γ.S0 M w → GT.rd w [] t
section
variable {τ δ : Type} [GT τ δ] {t : τ}
theorem RdT.old (h : GT.rd Γ.w0 Γ.S0 t) : RdT Γ M t := fun _ hw => GT.rd_mono h fun _ _ ho => ⟨ho.now hw, by simp⟩
theorem RdT.tree (h : treeH t ∈ M) : RdT Γ M t := fun _ hw => rd_of_tree h hw
theorem RdT.fst {α β δ ε : Type} [GT α δ] [GT β ε] {t : α × β} (h : RdT Γ M t) : RdT Γ M t.1 := fun w hw => (h w hw).1
theorem RdT.snd {α β δ ε : Type} [GT α δ] [GT β ε] {t : α × β} (h : RdT Γ M t) : RdT Γ M t.2 := fun w hw => (h w hw).2
theorem RdT.el {L : TL τ} {x : τ} (h : RdT Γ M L) (hx : x ∈ L.els) : RdT Γ M x := fun w hw => (h w hw).2.2.1 x hx
theorem RdT.cells {L : TL τ} {g o i : Nat} {x : τ} (h : RdT Γ M L) (ha : L.a = some ⟨g, o, none⟩) (hi : L.els[i]? = some x) : RdC Γ M g (o + i * GT.sz τ) (GT.cells x) := fun w hw j v hv =>
  ((Cells.el (h w hw) ha hi) j v hv).1
theorem RdT.row {L : TL τ} {g o : Nat} (h : RdT Γ M L) (ha : L.a = some ⟨g, o, none⟩) : RdC Γ M g o (rowCells L.els) := fun w hw j v hv => (((h w hw).2.2.2.2 _ ha).2 j v hv).1
theorem RdT.sub {M' : List HP} (h : RdT Γ M t) (hm : ∀ x, x ∈ M → x ∈ M') : RdT Γ M' t := fun w hw => h w ⟨hw.old, fun x hx => hw.prs x (hm x hx)⟩
end

theorem Pick.sub {h : HP} {M M' : List HP} (p : Pick h M M') : ∀ x, x ∈ M' → x ∈ M := fun x hx => p.perm.mem_iff.2 (List.mem_cons_of_mem _ hx)

section
variable {τ δ : Type} [GT τ δ]

/-- append of what can be read to a slice of one's own. -/
theorem L_appendA {s x : Operand} {T e sz by_ La Lc m c : Nat} {ad : Addr} {z : List Value} {Lg : Option Addr} {Lx ys : List τ} {Lt : List Value} {Le : TypeId} (hn : Nat.blt d Γ.n = true)
    (hs : ev l s = some (.slice Lg La Lc)) (hx : ev l x = some (.slice (some ad) m c)) (ht : elOf Γ.P T = some (e, sz, by_, z)) (hsz : GT.sz τ = sz) (hz : z.length = sz)
    (hp : Pick (treeH (⟨Lg, Lc, Le, Lx, Lt⟩ : TL τ)) M M1) (hLa : La = Lx.length) (he : Le = e ∨ Lg = none) (hmy : m = ys.length) (hsrc : ∀ w, Sees Γ.w0 Γ.S0 M w → ∀ j v, (rowCells ys)[j]? = some v → w.cell? (ad.add j) = some v)
    (hown : ∀ w R, Holds Γ.w0 Γ.S0 (M1 ++ R) w → Holds Γ.w0 Γ.S0 (elsT ys :: (M2 ++ R)) w)
    (hlen : Lx.length + ys.length ≤ 4294967296) (hb : by_ ≤ 32768)
    (hk : ∀ a' c' tl, L Γ rest ((d, .slice a' (Lx ++ ys).length c') :: l) (treeH (⟨a', c', e, Lx ++ ys, tl⟩ : TL τ) :: M2) K) :
    L Γ ({ dst := some d, op := .call { callee := .builtin .append, args := #[s, x], argTypes := #[T, T] }, type := ty, pos, after := af, guard := none } :: rest) l M K := by
  subst hLa; subst hmy
  refine L_stepR (fun v M' => ∃ a' c' tl, v = .slice a' (Lx ++ ys).length c' ∧ M' = treeH (⟨a', c', e, Lx ++ ys, tl⟩ : TL τ) :: M2) rfl rfl (Nat.le_of_ble_eq_true hn)
    (fun a w ha hw => ?_) (fun v M' ⟨a', c', tl, h1, h2⟩ => by subst h1; subst h2; exact hk a' c' tl)
  have hw1 := tree_row (hw.perm hp.perm)
  have hsr := hsrc w hw.sees
  obtain ⟨a', c', tl, w', h1, h2⟩ := append_row (P := Γ.P) (c := c) ht hsz hz hw1 he hsr hlen hb ty
  refine ⟨_, _, w', ⟨a', c', tl, rfl, rfl⟩, ?_, ?_⟩
  · have : (Builtin.append_ #[T, T] ty #[.slice Lg Lx.length Lc, .slice (some ad) ys.length c]).run Γ.P w = .ok (.slice a' (Lx ++ ys).length c') w' := h1
    simp [execOp, resolve, invoke, builtin, ha.eval hs, ha.eval hx, this]
  · have h3 : Holds Γ.w0 Γ.S0 (M1 ++ [elsT Lx, rowH (⟨a', c', e, Lx ++ ys, tl⟩ : TL τ)]) w' :=
      h2.perm ((List.Perm.swap _ _ _).trans (List.perm_append_comm (l₁ := [elsT Lx, rowH (⟨a', c', e, Lx ++ ys, tl⟩ : TL τ)]) (l₂ := M1)))
    have h4 := hown w' _ h3
    refine row_tree ?_
    have h5 : Holds Γ.w0 Γ.S0 (elsT Lx :: elsT ys :: rowH (⟨a', c', e, Lx ++ ys, tl⟩ : TL τ) :: M2) w' := h4.perm
      (((List.perm_append_comm (l₁ := M2) (l₂ := [elsT Lx, rowH (⟨a', c', e, Lx ++ ys, tl⟩ : TL τ)])).cons _).trans (List.Perm.swap _ _ _))
    exact (elsT_app h5).perm (List.Perm.swap _ _ _)

theorem L_appendC {s x : Operand} {T e sz by_ La Lc m c b o : Nat} {z : List Value} {Lg : Option Addr} {Lx ys : List τ} {Lt : List Value} {Le : TypeId} (hn : Nat.blt d Γ.n = true)
    (hs : ev l s = some (.slice Lg La Lc)) (hx : ev l x = some (.slice (some ⟨b, o, none⟩) m c)) (ht : elOf Γ.P T = some (e, sz, by_, z)) (hsz : GT.sz τ = sz) (hz : z.length = sz)
    (hp : Pick (treeH (⟨Lg, Lc, Le, Lx, Lt⟩ : TL τ)) M M1) (hLa : La = Lx.length) (he : Le = e ∨ Lg = none) (hmy : m = ys.length) (hsrc : RdC Γ M b o (rowCells ys))
    (hown : ∀ w R, Holds Γ.w0 Γ.S0 (M1 ++ R) w → Holds Γ.w0 Γ.S0 (elsT ys :: (M2 ++ R)) w)
    (hlen : Lx.length + ys.length ≤ 4294967296) (hb : by_ ≤ 32768)
    (hk : ∀ a' c' tl, L Γ rest ((d, .slice a' (Lx ++ ys).length c') :: l) (treeH (⟨a', c', e, Lx ++ ys, tl⟩ : TL τ) :: M2) K) :
    L Γ ({ dst := some d, op := .call { callee := .builtin .append, args := #[s, x], argTypes := #[T, T] }, type := ty, pos, after := af, guard := none } :: rest) l M K :=
  L_appendA hn hs hx ht hsz hz hp hLa he hmy (fun w hw j v hv => by rw [addr_add]; exact hsrc w hw j v hv) hown hlen hb hk

/-- append of one value out of a new row, with what it owns. -/
theorem L_append1 {s x : Operand} {T e sz by_ La Lc c b : Nat} {z : List Value} {Lg : Option Addr} {Lx : List τ} {Lt : List Value} {Le T' : TypeId} (y : τ) (hn : Nat.blt d Γ.n = true)
    (hs : ev l s = some (.slice Lg La Lc)) (hx : ev l x = some (.slice (some ⟨b, 0, none⟩) 1 c)) (ht : elOf Γ.P T = some (e, sz, by_, z)) (hsz : GT.sz τ = sz) (hz : z.length = sz)
    (hp : Pick (treeH (⟨Lg, Lc, Le, Lx, Lt⟩ : TL τ)) M M1) (hLa : La = Lx.length) (he : Le = e ∨ Lg = none) (hsrc : blk b (GT.cells y) T' ∈ M) (hy : Pick (treeH y) M1 M2)
    (hlen : Lx.length + 1 ≤ 4294967296) (hb : by_ ≤ 32768)
    (hk : ∀ a' c' tl, L Γ rest ((d, .slice a' (Lx ++ [y]).length c') :: l) (treeH (⟨a', c', e, Lx ++ [y], tl⟩ : TL τ) :: M2) K) :
    L Γ ({ dst := some d, op := .call { callee := .builtin .append, args := #[s, x], argTypes := #[T, T] }, type := ty, pos, after := af, guard := none } :: rest) l M K :=
  L_appendC (ys := [y]) hn hs hx ht hsz hz hp hLa he rfl (by have := RdC.blk (Γ := Γ) hsrc; simpa [rowCells] using this) (fun w R h => elsT_one (h.perm (hy.perm.append_right R))) hlen hb hk
/-- append of one value that owns nothing. -/
theorem L_append1F {s x : Operand} {T e sz by_ La Lc c b : Nat} {z : List Value} {Lg : Option Addr} {Lx : List τ} {Lt : List Value} {Le T' : TypeId} (y : τ) (hn : Nat.blt d Γ.n = true)
    (hs : ev l s = some (.slice Lg La Lc)) (hx : ev l x = some (.slice (some ⟨b, 0, none⟩) 1 c)) (ht : elOf Γ.P T = some (e, sz, by_, z)) (hsz : GT.sz τ = sz) (hz : z.length = sz)
    (hp : Pick (treeH (⟨Lg, Lc, Le, Lx, Lt⟩ : TL τ)) M M1) (hLa : La = Lx.length) (he : Le = e ∨ Lg = none) (hsrc : blk b (GT.cells y) T' ∈ M) (hy : Flat y)
    (hlen : Lx.length + 1 ≤ 4294967296) (hb : by_ ≤ 32768)
    (hk : ∀ a' c' tl, L Γ rest ((d, .slice a' (Lx ++ [y]).length c') :: l) (treeH (⟨a', c', e, Lx ++ [y], tl⟩ : TL τ) :: M1) K) :
    L Γ ({ dst := some d, op := .call { callee := .builtin .append, args := #[s, x], argTypes := #[T, T] }, type := ty, pos, after := af, guard := none } :: rest) l M K :=
  L_appendC (ys := [y]) hn hs hx ht hsz hz hp hLa he rfl (by have := RdC.blk (Γ := Γ) hsrc; simpa [rowCells] using this) (fun w R h => elsT_flat h fun x hx => by simp at hx; subst hx; exact hy) hlen hb hk
/-- append of a whole slice (nil or not) whose elements own nothing. -/
theorem L_appendT {s x : Operand} {T e sz by_ La Lc : Nat} {z : List Value} {Lg : Option Addr} {Lx : List τ} {Lt : List Value} {Le : TypeId} (t2 : TL τ) (hn : Nat.blt d Γ.n = true)
    (hs : ev l s = some (.slice Lg La Lc)) (hx : ev l x = some t2.hdr) (ht : elOf Γ.P T = some (e, sz, by_, z)) (hsz : GT.sz τ = sz) (hz : z.length = sz)
    (hp : Pick (treeH (⟨Lg, Lc, Le, Lx, Lt⟩ : TL τ)) M M1) (hLa : La = Lx.length) (he : Le = e ∨ Lg = none) (hsrc : RdT Γ M t2) (hf : ∀ y, y ∈ t2.els → Flat y)
    (hlen : Lx.length + t2.els.length ≤ 4294967296) (hb : by_ ≤ 32768)
    (hk : ∀ a' c' tl, L Γ rest ((d, .slice a' (Lx ++ t2.els).length c') :: l) (treeH (⟨a', c', e, Lx ++ t2.els, tl⟩ : TL τ) :: M1) K) :
    L Γ ({ dst := some d, op := .call { callee := .builtin .append, args := #[s, x], argTypes := #[T, T] }, type := ty, pos, after := af, guard := none } :: rest) l M K := by
  obtain ⟨a2, c2, e2, x2, tl2⟩ := t2
  cases a2 with
  | some a2 =>
    obtain ⟨b, o, sp⟩ := a2
    intro ops a w Q ha hw
    refine L_appendA (ys := x2) hn hs hx ht hsz hz hp hLa he rfl (fun w hw j v hv => ?_) (fun w R h => elsT_flat h hf) hlen hb hk ops a w Q ha hw
    have h1 := (hsrc w hw).2.2.2.2 _ rfl
    have hne : x2 ≠ [] := fun e => by subst e; simp [rowCells] at hv
    have h2 : sp = none := h1.1 hne
    subst h2
    rw [addr_add]; exact (h1.2 j v hv).1
  | none =>
    intro ops a w Q ha hw
    have h1 : x2 = [] := (hsrc w hw.sees).2.2.2.1 rfl
    subst h1
    subst hLa
    have hk' := hk Lg Lc Lt
    rw [List.append_nil] at hk'
    have hr : GT.ow w (⟨Lg, Lc, Le, Lx, Lt⟩ : TL τ) := (hw.perm hp.perm).prs _ (List.mem_cons_self ..)
    refine L_step rfl rfl (Nat.le_of_ble_eq_true hn) (fun a w ha hw => ⟨w, ?_, ?_⟩) hk' ops a w Q ha hw
    · have := append_none (P := Γ.P) (w := w) (a := Lg) (n := Lx.length) (c := Lc) (c2 := c2) ht hr.1 ty
      simp [execOp, resolve, invoke, builtin, ha.eval hs, ha.eval hx, TL.hdr, this]
    · have h3 := hw.perm hp.perm
      rcases he with rfl | rfl
      · exact h3
      · have h4 : GT.ow w (⟨none, Lc, Le, Lx, Lt⟩ : TL τ) := h3.prs _ (List.mem_cons_self ..)
        refine h3.reFp (List.Perm.of_eq ?_) fun y hy => ?_
        · simp only [fps_cons]; rfl
        · rcases List.mem_cons.1 hy with rfl | hy
          · exact ⟨h4.1, h4.2.1, h4.2.2.1, h4.2.2.2.1, fun a ha => by cases ha⟩
          · exact h3.prs _ (List.mem_cons_of_mem _ hy)

/-- The nil slice as one's own. -/
theorem addNil (e : TypeId) (w : World) (h : Holds w0 S0 M w) : Holds w0 S0 (treeH (⟨none, 0, e, [], []⟩ : TL τ) :: M) w := h.addFlat (flat_nil e)

/-! Stores into elements -/
/-- A whole element, or a part of it, that owns what the new element owns. -/
theorem L_storeEl {p y : Operand} {T g i Lc n : Nat} {Lx : List τ} {Lt : List Value} {Le : TypeId} {v : Value} {x : τ} (x' : τ) (hp0 : ev l p = some (.pointer (some ⟨g, 0 + i * n, none⟩))) (hy : ev l y = some v)
    (hp : Pick (treeH (⟨some ⟨g, 0, none⟩, Lc, Le, Lx, Lt⟩ : TL τ)) M M1) (hn : GT.sz τ = n) (hi : Lx[i]? = some x) (hv : v.cells.toList = GT.cells x') (hq : Pick (treeH x') M1 M2)
    (hT : aggOf Γ.P T = some n ∨ (oneOf Γ.P T = true ∧ n = 1)) (hk : L Γ rest l (treeH (⟨some ⟨g, 0, none⟩, Lc, Le, Lx.set i x', Lt⟩ : TL τ) :: M2) K) :
    L Γ ({ dst := none, op := .store T p y, type := ty, pos, after := af, guard := none } :: rest) l M K := by
  subst hn
  refine L_skip rfl rfl (fun a w ha hw => ?_) hk
  have hw1 := tree_row (hw.perm hp.perm)
  have hc : v.cells.size = GT.sz τ := by rw [← Array.length_toList, hv, GT.len]
  obtain ⟨w', h1, h2⟩ := store_el (P := Γ.P) (fo := 0) (vs := v.cells.toList) (x' := x') hw1 rfl hi (by
    rw [hv, List.take_zero, List.nil_append, Nat.zero_add, List.drop_of_length_le (by rw [GT.len, GT.len]; exact Nat.le_refl _), List.append_nil]) (by rw [hv]; exact GT.one x') (by rw [hv, GT.len]; omega)
  rw [Nat.add_zero] at h1
  refine ⟨w', ?_, ?_⟩
  · simp only [Nat.zero_add] at h1 hp0
    rcases hT with hT | ⟨hT, hn1⟩
    · simp [execOp, ha.eval hp0, ha.eval hy, Instr.storeAt, Instr.sureAddr, storeVar, run_isAgg_agg hT, hc, h1]
    · simp [execOp, ha.eval hp0, ha.eval hy, Instr.storeAt, Instr.sureAddr, storeVar, run_isAgg_one hT, hc, hn1] at h1 ⊢
      simp [h1]
  · refine row_tree ?_
    have h3 := h2.perm (List.Perm.swap _ _ _)
    have h4 := elsT_pick hi h3
    have h5 : Holds Γ.w0 Γ.S0 (treeH x' :: elsT (Lx.eraseIdx i) :: rowH (⟨some ⟨g, 0, none⟩, Lc, Le, Lx.set i x', Lt⟩ : TL τ) :: M2) w' := by
      have h6 := h4.sub (M' := elsT (Lx.eraseIdx i) :: rowH (⟨some ⟨g, 0, none⟩, Lc, Le, Lx.set i x', Lt⟩ : TL τ) :: M1) ⟨[treeH x], (List.perm_append_comm (l₁ := [treeH x]))⟩
      refine h6.perm ?_
      refine ((hq.perm.cons _).cons _).trans ?_
      exact ((List.Perm.swap _ _ _).cons _).trans (List.Perm.swap _ _ _)
    exact (elsT_put (List.getElem?_eq_some_iff.1 hi).1 h5).perm (List.Perm.swap _ _ _)
/-- A cell of an element: what the element owns stays. -/
theorem L_storeElF {p y : Operand} {T g i Lc n fo : Nat} {Lx : List τ} {Lt : List Value} {Le : TypeId} {v : Value} {x : τ} (x' : τ) (hp0 : ev l p = some (.pointer (some ⟨g, 0 + i * n + fo, none⟩))) (hy : ev l y = some v)
    (hp : Pick (treeH (⟨some ⟨g, 0, none⟩, Lc, Le, Lx, Lt⟩ : TL τ)) M M1) (hn : GT.sz τ = n) (hi : Lx[i]? = some x) (hv : GT.cells x' = (GT.cells x).set fo v) (h1 : v.oneCell' = true) (hfo : fo < n)
    (hfp : GT.fp x' = GT.fp x) (how : ∀ w, GT.ow w x → GT.ow w x')
    (hT : oneOf Γ.P T = true) (hk : L Γ rest l (treeH (⟨some ⟨g, 0, none⟩, Lc, Le, Lx.set i x', Lt⟩ : TL τ) :: M1) K) :
    L Γ ({ dst := none, op := .store T p y, type := ty, pos, after := af, guard := none } :: rest) l M K := by
  subst hn
  refine L_skip rfl rfl (fun a w ha hw => ?_) hk
  have hw1 := tree_row (hw.perm hp.perm)
  have hc : v.cells = #[v] := by cases v <;> first | rfl | cases h1
  obtain ⟨w', h2, h3⟩ := store_el (P := Γ.P) (fo := fo) (vs := [v]) (x' := x') hw1 rfl hi (by
    rw [hv, List.set_eq_take_append_cons_drop, if_pos (by rw [GT.len]; exact hfo)]; simp) (by simpa using h1) (by simp only [List.length_cons, List.length_nil]; omega)
  refine ⟨w', ?_, ?_⟩
  · simp only [Nat.zero_add] at h2 hp0
    simp [execOp, ha.eval hp0, ha.eval hy, Instr.storeAt, Instr.sureAddr, storeVar, run_isAgg_one hT, hc, h2]
  · refine row_tree ?_
    have h4 := elsT_pick hi (h3.perm (List.Perm.swap _ _ _))
    have h5 : Holds Γ.w0 Γ.S0 (treeH x' :: elsT (Lx.eraseIdx i) :: rowH (⟨some ⟨g, 0, none⟩, Lc, Le, Lx.set i x', Lt⟩ : TL τ) :: M1) w' := by
      refine h4.reFp (List.Perm.of_eq ?_) fun z hz => ?_
      · simp only [fps_cons]; show GT.fp x ++ _ = GT.fp x' ++ _; rw [hfp]
      · rcases List.mem_cons.1 hz with rfl | hz
        · exact how _ (h4.prs (treeH x) (List.mem_cons_self ..))
        · exact h4.prs _ (List.mem_cons_of_mem _ hz)
    exact (elsT_put (List.getElem?_eq_some_iff.1 hi).1 h5).perm (List.Perm.swap _ _ _)
end
end Go.Proofs.SL
