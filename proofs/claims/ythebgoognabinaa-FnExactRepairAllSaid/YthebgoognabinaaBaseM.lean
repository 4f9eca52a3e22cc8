/- append within a drawn region; a row whose elements are handed on one by one. -/
import Derived.Test.YthebgoognabinaaBaseL
namespace Go.Proofs.SL
open Go

variable {Γ : Cx} {l : Envl} {M M' M1 M2 F : List HP} {Q : Post} {K : Kont} {w0 w : World} {S0 : List Nat}
variable {rest : List Oper} {d : Nat} {ty : TypeId} {pos : String} {af : Array Edge}
variable {ops : Array Oper} {Msh pool pool' : List HP} {E : Fl} {rs : List (Option Nat × Rel)} {cs0 : List Nat} {KD : List (Option Nat × Rel) → List Nat → List HP → Prop}

def RowV (cs : List Value) (e : TypeId) : Rel := fun v M => ∃ b, v = .slice (some ⟨b, 0, none⟩) 1 1 ∧ M = [blk b cs e]
theorem run_bs1 {P : Program} {T e sz by_ : Nat} {z : List Value} {v : Value} (ht : elOf P T = some (e, sz, by_, z)) (hz : z.length = sz) (hsz : 0 < sz) (hns : sz ≤ 65536) (hv : v.cells.toList.length = sz) (w : World) :
    (Instr.buildSlice T 1 #[(0, v)]).run P w = .ok (.slice (some ⟨w.heap.size, 0, none⟩) 1 1) (w.alloc (.cells v.cells.toList.toArray e (0, 0))) :=
  run_buildSlice (w := w) (n := 1) (ps := [(0, v)]) (cs := v.cells.toList) ht hz hsz (by omega) (by omega) (by
    simp only [fillL, Nat.zero_mul, Nat.one_mul, Nat.zero_add, hv, Nat.beq_refl, Bool.true_and, List.length_map, List.length_range, List.take_zero, List.nil_append]
    rw [show Nat.ble sz sz = true from Nat.ble_eq_true_of_le (Nat.le_refl _)]
    simp only []
    rw [List.drop_of_length_le (by simp), List.append_nil])
theorem D_bs1 {x : Operand} {T e sz by_ : Nat} {z : List Value} {v : Value} (hx : OpV E x True v) (ht : elOf Γ.P T = some (e, sz, by_, z)) (hz : z.length = sz) (hsz : 0 < sz) (hns : sz ≤ 65536) (hv : v.cells.toList.length = sz)
    (hk : DV Γ ops Msh pool ((d, RowV v.cells.toList e) :: E) ((some d, RowV v.cells.toList e) :: rs) cs0 rest KD) :
    DV Γ ops Msh pool E rs cs0 ({ dst := some d, op := .buildSlice T 1 #[(0, x)], type := ty, pos := pos, after := af, guard := none } :: rest) KD := by
  refine ⟨RowV v.cells.toList e, [], pool, [], by simp, rfl, ?_, by rw [dropE_nil]; exact hk⟩
  intro a w F Mk _ _ hw hm hfa hcf
  have hMk : Mk = [] := hcf
  subst hMk
  rw [dropE_nil] at hfa
  simp only [List.nil_append] at hw ⊢
  rw [if_pos (by simp [Region.wanted])]
  have e1 := hx.eval hfa (by simp [Op.operands]) trivial
  have h1 : (execOp a.eval { dst := some d, op := .buildSlice T 1 #[(0, x)], type := ty, pos := pos, after := af, guard := none }).run Γ.P w = .ok (.value (.slice (some ⟨w.heap.size, 0, none⟩) 1 1)) (w.alloc (.cells v.cells.toList.toArray e (0, 0))) := by
    simp only [execOp]
    have : (#[(0, x)] : Array (Nat × Operand)).map (fun (i, x) => (i, a.eval x)) = #[(0, v)] := by simp [e1]
    rw [this]
    simp [run_bs1 ht hz hsz hns hv]
  rw [h1]
  exact ⟨[blk w.heap.size v.cells.toList e], ⟨_, rfl, rfl⟩, Holds.new (show Holds Γ.w0 Γ.S0 F w by simpa using hw) rfl⟩

section
variable {τ δ : Type} [GT τ δ]
def OwnV (r : List δ) : Rel := fun v M => ∃ X : TL τ, v = X.hdr ∧ GT.dat X = r ∧ M = [treeH X]
theorem D_app1F [FlatT τ] {s : Operand} {t T e sz by_ : Nat} {z : List Value} {X : TL τ} {T' : TypeId} (y : τ) {r : List δ}
    (hs : OpV (dropE [t] E) s True X.hdr) (hx : E.lookup t = some (RowV (GT.cells y) T')) (ht : elOf Γ.P T = some (e, sz, by_, z)) (hsz : GT.sz τ = sz) (hz : z.length = sz)
    (hp : Pick (treeH X) pool pool') (hr : appP (GT.dat X) [GT.dat y] = some r) (hb : by_ ≤ 32768)
    (hlin : linB ops { dst := some d, op := .call { callee := .builtin .append, args := #[s, .tmp t], argTypes := #[T, T] }, type := ty, pos := pos, after := af, guard := none } [t] = true)
    (hk : DV Γ ops Msh pool' ((d, OwnV (τ := τ) r) :: dropE [t] E) ((some d, OwnV (τ := τ) r) :: rs) ([t] ++ cs0) rest KD) :
    DV Γ ops Msh pool E rs cs0 ({ dst := some d, op := .call { callee := .builtin .append, args := #[s, .tmp t], argTypes := #[T, T] }, type := ty, pos := pos, after := af, guard := none } :: rest) KD := by
  refine ⟨OwnV (τ := τ) r, [treeH X], pool', [t], hp.perm, hlin, ?_, hk⟩
  intro a w F Mk _ _ hw hm hfa hcf
  obtain ⟨Mx, Mk', rfl, hR, hnil⟩ := hcf
  have hnil : Mk' = [] := hnil
  subst hnil
  obtain ⟨b, hv, rfl⟩ := hR _ hx
  rw [if_pos (by simp [Region.wanted])]
  have e1 := hs.eval hfa (by simp [Op.operands, Call.operands]) trivial
  have e2 : a.eval (.tmp t) = .slice (some ⟨b, 0, none⟩) 1 1 := hv
  obtain ⟨hl, rfl⟩ := appP_some hr
  simp only [dat_els, List.length_map, List.length_cons, List.length_nil] at hl
  have hw1 : Holds Γ.w0 Γ.S0 (treeH X :: blk b (GT.cells y) T' :: F) w := by simpa using hw
  have hsrc : ∀ j v, (rowCells [y])[j]? = some v → w.cell? ((⟨b, 0, none⟩ : Addr).add j) = some v := fun j v hv => by
    rw [addr_add]
    exact RdC.blk (Γ := Γ) (M := treeH X :: blk b (GT.cells y) T' :: F) (List.mem_cons_of_mem _ (List.mem_cons_self ..)) w hw1.sees j v (by simpa [rowCells] using hv)
  obtain ⟨a', c', e', tl, w', h1, h2⟩ := append_rowE (P := Γ.P) (c := 1) ht hsz hz (tree_row hw1) hsrc (by simpa using hl) hb ty
  have h1' : (Builtin.append_ #[T, T] ty #[X.hdr, .slice (some ⟨b, 0, none⟩) 1 1]).run Γ.P w = .ok (TL.hdr (⟨a', c', e', X.els ++ [y], tl⟩ : TL τ)) w' := h1
  have h3 : (execOp a.eval { dst := some d, op := .call { callee := .builtin .append, args := #[s, .tmp t], argTypes := #[T, T] }, type := ty, pos := pos, after := af, guard := none }).run Γ.P w = .ok (.value (TL.hdr (⟨a', c', e', X.els ++ [y], tl⟩ : TL τ))) w' := by
    generalize TL.hdr (⟨a', c', e', X.els ++ [y], tl⟩ : TL τ) = vv at *
    generalize X.hdr = uu at *
    simp [execOp, resolve, invoke, builtin, e1, e2, h1']
  rw [h3]
  refine ⟨[treeH (⟨a', c', e', X.els ++ [y], tl⟩ : TL τ)], ⟨_, rfl, ?_, rfl⟩, ?_⟩
  · rw [dat_els, List.map_append]; rfl
  · refine row_tree ?_
    have h4 : Holds Γ.w0 Γ.S0 (elsT X.els :: elsT [y] :: rowH (⟨a', c', e', X.els ++ [y], tl⟩ : TL τ) :: F) w' := by
      have h5 := elsT_flat (xs := [y]) h2 (fun x _ => FlatT.flat x)
      have h6 : Holds Γ.w0 Γ.S0 (elsT X.els :: elsT [y] :: rowH (⟨a', c', e', X.els ++ [y], tl⟩ : TL τ) :: blk b (GT.cells y) T' :: F) w' :=
        h5.perm (((List.Perm.swap _ _ _).cons _).trans (List.Perm.swap _ _ _))
      exact h6.sub ⟨[blk b (GT.cells y) T'], by
        show List.Perm _ (([elsT X.els, elsT [y], rowH (⟨a', c', e', X.els ++ [y], tl⟩ : TL τ)] ++ F) ++ [blk b (GT.cells y) T'])
        rw [List.append_assoc]
        exact (List.perm_append_comm (l₁ := [blk b (GT.cells y) T']) (l₂ := F)).append_left [elsT X.els, elsT [y], rowH (⟨a', c', e', X.els ++ [y], tl⟩ : TL τ)]⟩
    exact (elsT_app h4).perm (List.Perm.swap _ _ _)

/-! A row whose elements are handed on -/
theorem RdC.row {X : TL τ} {j : Nat} {x : τ} (h : rowH X ∈ M) (hi : X.els[j]? = some x) : RdC Γ M X.g (X.o + j * GT.sz τ) (GT.cells x) := fun w hw k v hv => by
  obtain ⟨r1, r2, r3, r4⟩ := hw.prs _ h
  have hlt := (List.getElem?_eq_some_iff.1 hi).1
  have hk : k < GT.sz τ := by rw [← GT.len x]; exact (List.getElem?_eq_some_iff.1 hv).1
  cases ha : X.a with
  | none => have := (r3 ha).1; rw [this] at hlt; simp at hlt
  | some a =>
    obtain ⟨h1, h2, h3, h4⟩ := r4 a ha
    have hg : X.g = a.block := by unfold TL.g; rw [ha]; rfl
    have ho : X.o = 0 := by unfold TL.o; rw [ha]; exact h2
    rw [hg, ho, Nat.zero_add, cell_of_row _ _ _ _ _ _ h3]
    simp only [List.getElem?_toArray]
    have hc := rowCells_get X.els j k x hi hk
    rw [List.getElem?_append_left (by rw [hv] at hc; exact (List.getElem?_eq_some_iff.1 hc).1), hc]
    exact hv
theorem row_adr {X : TL τ} {j : Nat} {u : τ} (h : (rowH X).pr w) (hi : X.els[j]? = some u) : X.hdr = .slice (some ⟨X.g, X.o, none⟩) X.els.length X.cap := by
  obtain ⟨r1, r2, r3, r4⟩ := h
  have hlt := (List.getElem?_eq_some_iff.1 hi).1
  show Value.slice X.a X.els.length X.cap = _
  cases ha : X.a with
  | none => have := (r3 ha).1; rw [this] at hlt; simp at hlt
  | some a =>
    obtain ⟨h1, h2, h3, h4⟩ := r4 a ha
    obtain ⟨b, o, s⟩ := a
    have h1 : s = none := h1
    subst h1
    simp [TL.g, TL.o, ha]
theorem L_idxR {x y : Operand} {T e sz by_ : Nat} {z : List Value} {k : IntKind} {i : Int} {X : TL τ} {u : τ} (hn : Nat.blt d Γ.n = true) (hx : ev l x = some X.hdr) (hy : ev l y = some (.int k i))
    (ht : elOf Γ.P T = some (e, sz, by_, z)) (hm : rowH X ∈ M) (hi : 0 ≤ i ∧ X.els[i.toNat]? = some u) (hk : L Γ rest ((d, .pointer (some ⟨X.g, X.o + i.toNat * sz, none⟩)) :: l) M K) :
    L Γ ({ dst := some d, op := .indexAddr T x y, type := ty, pos := pos, after := af, guard := none } :: rest) l M K :=
  L_pure hn (fun a' w ha hw => by
    have h1 := ha.eval hx
    rw [row_adr (hw.prs _ hm) hi.2] at h1
    simp [execOp, h1, ha.eval hy, run_indexAt ht X.g X.o X.els.length X.cap k i i.toNat (by omega) (List.getElem?_eq_some_iff.1 hi.2).1 w]) hk
/-- The next element leaves the pool. -/
theorem els_next {X : TL τ} {i : Nat} {u : τ} (hi : X.els[i]? = some u) (p : Pick (elsT (X.els.drop i)) M M1) (h : Holds w0 S0 M w) : Holds w0 S0 (treeH u :: elsT (X.els.drop (i + 1)) :: M1) w := by
  have h1 := h.perm p.perm
  obtain ⟨hlt, hx⟩ := List.getElem?_eq_some_iff.1 hi
  have he : X.els.drop i = u :: X.els.drop (i + 1) := by rw [← hx, ← List.drop_eq_getElem_cons hlt]
  rw [he] at h1
  refine h1.reFp (List.Perm.of_eq ?_) fun y hy => ?_
  · simp only [fps_cons]
    show (u :: X.els.drop (i + 1)).flatMap GT.fp ++ fps M1 = GT.fp u ++ ((X.els.drop (i + 1)).flatMap GT.fp ++ fps M1)
    rw [List.flatMap_cons, List.append_assoc]
  · have h2 := h1.prs (elsT (u :: X.els.drop (i + 1))) (List.mem_cons_self ..)
    rcases List.mem_cons.1 hy with rfl | hy
    · exact h2 u (List.mem_cons_self ..)
    rcases List.mem_cons.1 hy with rfl | hy
    · exact fun x hx => h2 x (List.mem_cons_of_mem _ hx)
    · exact h1.prs _ (List.mem_cons_of_mem _ hy)
theorem els_start {X : TL τ} (p : Pick (treeH X) M M1) (h : Holds w0 S0 M w) : Holds w0 S0 (rowH X :: elsT (X.els.drop 0) :: M1) w := tree_row (h.perm p.perm)
theorem els_step {X : TL τ} {i : Int} {u : τ} (hi : 0 ≤ i ∧ X.els[i.toNat]? = some u) (hm : rowH X ∈ M) (p : Pick (elsT (X.els.drop (i.toNat + 1))) M M1) (h : Holds w0 S0 M w) :
    Holds w0 S0 (elsT (X.els.drop (IntKind.wrap .i64 (i + 1)).toNat) :: M1) w := by
  have h1 := h.perm p.perm
  have hlt := (List.getElem?_eq_some_iff.1 hi.2).1
  obtain ⟨r1, r2, _⟩ := h.prs _ hm
  simp only [maxLen] at r2
  rw [wrap64_in (by unfold inR; omega), show (i + 1).toNat = i.toNat + 1 by omega]
  exact h1
end
end Go.Proofs.SL
namespace Go.Proofs.SL
open Go
variable {Γ : Cx} {l : Envl} {M M' M1 M2 F : List HP} {Q : Post} {K : Kont} {rest : List Oper}
section
variable {τ δ : Type} [GT τ δ]
theorem W_close {c : Code} {X : TL τ} {i : Nat} {cs : List Value} (x' : τ) {r : List δ} (hc : cs = GT.cells x') (p : Pick (holeH X i cs) M M1) (q : Pick (treeH x') M1 M2) (hr : some ((GT.dat X).set i (GT.dat x')) = some r)
    (hk : ∀ X2 : TL τ, GT.dat X2 = r → X2.hdr = X.hdr → W Γ c l (treeH X2 :: M2) Q) : W Γ c l M Q :=
  W_conv (fun w h => hole_close hc p q h) (hk _ (by rw [dat_set]; exact Option.some.inj hr) (by show Value.slice X.a (X.els.set i x').length X.cap = Value.slice X.a X.els.length X.cap; rw [List.length_set]))
theorem L_close {X : TL τ} {i : Nat} {cs : List Value} (x' : τ) {r : List δ} (hc : cs = GT.cells x') (p : Pick (holeH X i cs) M M1) (q : Pick (treeH x') M1 M2) (hr : some ((GT.dat X).set i (GT.dat x')) = some r)
    (hk : ∀ X2 : TL τ, GT.dat X2 = r → X2.hdr = X.hdr → L Γ rest l (treeH X2 :: M2) K) : L Γ rest l M K :=
  L_conv (fun w h => hole_close hc p q h) (hk _ (by rw [dat_set]; exact Option.some.inj hr) (by show Value.slice X.a (X.els.set i x').length X.cap = Value.slice X.a X.els.length X.cap; rw [List.length_set]))
end
end Go.Proofs.SL
namespace Go.Proofs.SL
open Go
variable {Γ : Cx} {rest : List Oper} {d : Nat} {ty : TypeId} {pos : String} {af : Array Edge} {gd : Option (Nat × Bool)}
variable {ops : Array Oper} {Msh pool : List HP} {E : Fl} {rs : List (Option Nat × Rel)} {cs0 : List Nat} {KD : List (Option Nat × Rel) → List Nat → List HP → Prop}
theorem D_idxH {τ δ : Type} [GT τ δ] {x y : Operand} {T e sz by_ j : Nat} {z cs : List Value} {k : IntKind} {i : Int} {X : TL τ} {u : τ} {c : Prop} (hg : GC ops E { dst := some d, op := .indexAddr T x y, type := ty, pos := pos, after := af, guard := gd } c)
    (hx : OpV E x c X.hdr) (hy : OpV E y c (.int k i)) (ht : elOf Γ.P T = some (e, sz, by_, z)) (hm : holeH X j cs ∈ Msh) (hi : c → 0 ≤ i ∧ X.els[i.toNat]? = some u)
    (hk : DV Γ ops Msh pool ((d, FC c (.pointer (some ⟨X.g, X.o + i.toNat * sz, none⟩))) :: E) ((some d, FC c (.pointer (some ⟨X.g, X.o + i.toNat * sz, none⟩))) :: rs) cs0 rest KD) :
    DV Γ ops Msh pool E rs cs0 ({ dst := some d, op := .indexAddr T x y, type := ty, pos := pos, after := af, guard := gd } :: rest) KD :=
  DV_pure c _ hg (fun a w F hc hf hs => by
    have e1 := hx.eval hf (by simp [Op.operands]) hc
    have e2 := hy.eval hf (by simp [Op.operands]) hc
    obtain ⟨h0, h1⟩ := hi hc
    obtain ⟨r1, r2, r3, r4, r5, r6, r7, r8⟩ := hs.prs _ hm
    have ho : X.o = 0 := by unfold TL.o; rw [r5]; rfl
    have h2 : X.hdr = .slice (some ⟨X.g, X.o, none⟩) X.els.length X.cap := by show Value.slice X.a X.els.length X.cap = _; rw [ho, ← r5]
    rw [h2] at e1
    simp [execOp, e1, e2, run_indexAt ht X.g X.o X.els.length X.cap k i i.toNat (by omega) (List.getElem?_eq_some_iff.1 h1).1 w]) hk
end Go.Proofs.SL
namespace Go.Proofs.SL
open Go
variable {Γ : Cx} {rest : List Oper} {d : Nat} {ty : TypeId} {pos : String} {af : Array Edge} {gd : Option (Nat × Bool)}
variable {ops : Array Oper} {Msh pool : List HP} {E : Fl} {rs : List (Option Nat × Rel)} {cs0 : List Nat} {KD : List (Option Nat × Rel) → List Nat → List HP → Prop}
theorem D_idxR {τ δ : Type} [GT τ δ] {x y : Operand} {T e sz by_ : Nat} {z : List Value} {k : IntKind} {i : Int} {X : TL τ} {u : τ} {c : Prop} (hg : GC ops E { dst := some d, op := .indexAddr T x y, type := ty, pos := pos, after := af, guard := gd } c)
    (hx : OpV E x c X.hdr) (hy : OpV E y c (.int k i)) (ht : elOf Γ.P T = some (e, sz, by_, z)) (hm : rowH X ∈ Msh) (hi : c → 0 ≤ i ∧ X.els[i.toNat]? = some u)
    (hk : DV Γ ops Msh pool ((d, FC c (.pointer (some ⟨X.g, X.o + i.toNat * sz, none⟩))) :: E) ((some d, FC c (.pointer (some ⟨X.g, X.o + i.toNat * sz, none⟩))) :: rs) cs0 rest KD) :
    DV Γ ops Msh pool E rs cs0 ({ dst := some d, op := .indexAddr T x y, type := ty, pos := pos, after := af, guard := gd } :: rest) KD :=
  DV_pure c _ hg (fun a w F hc hf hs => by
    have e1 := hx.eval hf (by simp [Op.operands]) hc
    have e2 := hy.eval hf (by simp [Op.operands]) hc
    obtain ⟨h0, h1⟩ := hi hc
    rw [row_adr (hs.prs _ hm) h1] at e1
    simp [execOp, e1, e2, run_indexAt ht X.g X.o X.els.length X.cap k i i.toNat (by omega) (List.getElem?_eq_some_iff.1 h1).1 w]) hk
end Go.Proofs.SL
