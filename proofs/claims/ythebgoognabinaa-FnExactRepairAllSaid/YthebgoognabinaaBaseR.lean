/- In a drawn region: append of a slice, a struct and a row of one that own. -/
import Derived.Test.YthebgoognabinaaBaseQ
namespace Go.Proofs.SL
open Go

variable {Γ : Cx} {l : Envl} {M M' M1 M2 F : List HP} {Q : Post} {K : Kont} {w0 w : World} {S0 : List Nat}
variable {rest : List Oper} {d : Nat} {ty : TypeId} {pos : String} {af : Array Edge}
variable {ops : Array Oper} {Msh pool pool' : List HP} {E : Fl} {rs : List (Option Nat × Rel)} {cs0 : List Nat} {KD : List (Option Nat × Rel) → List Nat → List HP → Prop}

section
variable {τ δ : Type} [GT τ δ]
theorem D_appT [FlatT τ] {s x : Operand} {T e sz by_ : Nat} {z : List Value} {X Y : TL τ} {r : List δ}
    (hs : OpV E s True X.hdr) (hx : OpV E x True Y.hdr) (ht : elOf Γ.P T = some (e, sz, by_, z)) (hsz : GT.sz τ = sz) (hz : z.length = sz)
    (hp : Pick (treeH X) pool pool') (hsrc : RdT Γ Msh Y) (hr : appP (GT.dat X) (GT.dat Y) = some r) (hb : by_ ≤ 32768)
    (hk : DV Γ ops Msh pool' ((d, OwnV (τ := τ) r) :: E) ((some d, OwnV (τ := τ) r) :: rs) cs0 rest KD) :
    DV Γ ops Msh pool E rs cs0 ({ dst := some d, op := .call { callee := .builtin .append, args := #[s, x], argTypes := #[T, T] }, type := ty, pos := pos, after := af, guard := none } :: rest) KD := by
  refine ⟨OwnV (τ := τ) r, [treeH X], pool', [], hp.perm, rfl, ?_, by rw [dropE_nil]; exact hk⟩
  intro a w F Mk _ _ hw hm hfa hcf
  have hMk : Mk = [] := hcf
  subst hMk
  rw [dropE_nil] at hfa
  rw [if_pos (by simp [Region.wanted])]
  have e1 := hs.eval hfa (by simp [Op.operands, Call.operands]) trivial
  have e2 := hx.eval hfa (by simp [Op.operands, Call.operands]) trivial
  have hw1 : Holds Γ.w0 Γ.S0 (treeH X :: F) w := by simpa using hw
  obtain ⟨hl, rfl⟩ := appP_some hr
  simp only [dat_els, List.length_map] at hl
  have hrd : GT.rd w (fps Msh ++ Γ.S0) Y → True := fun _ => trivial
  have hY := hsrc w (hw1.seesSub fun h hh => List.mem_cons_of_mem _ (hm h hh))
  cases hya : Y.a with
  | some ad =>
    have hsp : Y.els ≠ [] → ad.spot = none := fun hne => (hY.2.2.2.2 ad hya).1 hne
    have hsrc2 : ∀ j v, (rowCells Y.els)[j]? = some v → w.cell? (ad.add j) = some v := fun j v hv => by
      have hne : Y.els ≠ [] := fun e => by rw [e] at hv; simp [rowCells] at hv
      obtain ⟨b, o, sp⟩ := ad
      have h3 : sp = none := hsp hne
      subst h3
      rw [addr_add]; exact ((hY.2.2.2.2 _ hya).2 j v hv).1
    obtain ⟨a', c', e', tl, w', h1, h2⟩ := append_rowE (P := Γ.P) (c := Y.cap) ht hsz hz (tree_row hw1) hsrc2 hl hb ty
    have h1' : (Builtin.append_ #[T, T] ty #[X.hdr, Y.hdr]).run Γ.P w = .ok (TL.hdr (⟨a', c', e', X.els ++ Y.els, tl⟩ : TL τ)) w' := by
      have : Y.hdr = .slice (some ad) Y.els.length Y.cap := by show Value.slice Y.a _ _ = _; rw [hya]
      rw [this]; exact h1
    have h3 : (execOp a.eval { dst := some d, op := .call { callee := .builtin .append, args := #[s, x], argTypes := #[T, T] }, type := ty, pos := pos, after := af, guard := none }).run Γ.P w = .ok (.value (TL.hdr (⟨a', c', e', X.els ++ Y.els, tl⟩ : TL τ))) w' := by
      generalize TL.hdr (⟨a', c', e', X.els ++ Y.els, tl⟩ : TL τ) = vv at *
      generalize X.hdr = uu at *
      generalize Y.hdr = yy at *
      simp [execOp, resolve, invoke, builtin, e1, e2, h1']
    rw [h3]
    refine ⟨[treeH (⟨a', c', e', X.els ++ Y.els, tl⟩ : TL τ)], ⟨_, rfl, ?_, rfl⟩, ?_⟩
    · rw [dat_els, List.map_append, dat_els, dat_els]
    · refine row_tree ?_
      have h4 : Holds Γ.w0 Γ.S0 (elsT X.els :: elsT Y.els :: rowH (⟨a', c', e', X.els ++ Y.els, tl⟩ : TL τ) :: F) w' := by
        have h5 := elsT_flat (xs := Y.els) h2 (fun x _ => FlatT.flat x)
        exact h5.perm (((List.Perm.swap _ _ _).trans ((List.Perm.swap _ _ _).cons _)).trans (List.Perm.swap _ _ _ |>.trans ((List.Perm.refl _)))) |>.perm (by
          first
          | exact List.Perm.refl _
          | exact (List.Perm.swap _ _ _)
          | exact ((List.Perm.swap _ _ _).cons _)
          | exact (List.Perm.swap _ _ _).trans ((List.Perm.swap _ _ _).cons _)
          | exact ((List.Perm.swap _ _ _).cons _).trans (List.Perm.swap _ _ _))
      exact (elsT_app h4).perm (List.Perm.swap _ _ _)
  | none =>
    have hye : Y.els = [] := hY.2.2.2.1 hya
    have hr0 : GT.ow w X := hw1.prs _ (List.mem_cons_self ..)
    have h5 : (Builtin.append_ #[T, T] ty #[X.hdr, Y.hdr]).run Γ.P w = .ok X.hdr w := by
      have : Y.hdr = .slice none 0 Y.cap := by show Value.slice Y.a _ _ = _; rw [hya, hye]; rfl
      rw [this]; exact append_none (P := Γ.P) (w := w) (a := X.a) (n := X.els.length) (c := X.cap) (c2 := Y.cap) ht hr0.1 ty
    have h3 : (execOp a.eval { dst := some d, op := .call { callee := .builtin .append, args := #[s, x], argTypes := #[T, T] }, type := ty, pos := pos, after := af, guard := none }).run Γ.P w = .ok (.value X.hdr) w := by
      generalize X.hdr = uu at *
      generalize Y.hdr = yy at *
      simp [execOp, resolve, invoke, builtin, e1, e2, h5]
    rw [h3]
    exact ⟨[treeH X], ⟨X, rfl, by rw [dat_els Y, hye]; simp, rfl⟩, hw1⟩

/-- A value that is built over a slice of one's own. -/
def AggO (f : Value → Value) (r : List δ) : Rel := fun v M => ∃ X : TL τ, v = f X.hdr ∧ GT.dat X = r ∧ M = [treeH X]
def RowO (f : Value → Value) (e : TypeId) (r : List δ) : Rel := fun v M => ∃ (X : TL τ) (b : Nat), v = .slice (some ⟨b, 0, none⟩) 1 1 ∧ GT.dat X = r ∧ M = [blk b (f X.hdr).cells.toList e, treeH X]
def OpVp (E : Fl) : List (Nat × Operand) → List (Nat × Value) → Prop
  | [], [] => True
  | x :: xs, v :: vs => (x.1 = v.1 ∧ OpV E x.2 True v.2) ∧ OpVp E xs vs
  | _, _ => False
theorem OpVp.nil : OpVp E [] [] := trivial
theorem OpVp.cons {i : Nat} {x : Operand} {v : Value} {xs : List (Nat × Operand)} {vs : List (Nat × Value)} (h : OpV E x True v) (hs : OpVp E xs vs) : OpVp E ((i, x) :: xs) ((i, v) :: vs) := ⟨⟨rfl, h⟩, hs⟩
theorem OpVp.evals {a : Act} {F : List HP} {o : Oper} (hf : Facts E (o.looksAt ops) F a) : ∀ (xs : List (Nat × Operand)) (vs : List (Nat × Value)), OpVp E xs vs → (∀ x, x ∈ xs → x.2 ∈ o.op.operands.toList) → xs.map (fun p => (p.1, a.eval p.2)) = vs
  | [], [], _, _ => rfl
  | x :: xs, v :: vs, h, hm => by
    rw [List.map_cons, h.1.2.eval hf (hm x (by simp)) trivial, OpVp.evals hf xs vs h.2 (fun y hy => hm y (List.mem_cons_of_mem _ hy)), h.1.1]
  | [], _ :: _, h, _ => h.elim
  | _ :: _, [], h, _ => h.elim
theorem D_build {T : TypeId} {xs : List (Nat × Operand)} {ps : List (Nat × Value)} {pl : List (Nat × Nat)} {z cs : List Value} (hx : OpVp E xs ps) (ht : bldOf Γ.P T = some (pl, z)) (hf : fillL (pl[·]?) z ps = some cs)
    (hk : DV Γ ops Msh pool ((d, FC True (.agg cs.toArray)) :: E) ((some d, FC True (.agg cs.toArray)) :: rs) cs0 rest KD) :
    DV Γ ops Msh pool E rs cs0 ({ dst := some d, op := .build T xs.toArray, type := ty, pos := pos, after := af, guard := none } :: rest) KD :=
  DV_pure True _ GC.none (fun a w F _ hfa _ => by
    have h1 : xs.toArray.map (fun (i, x) => (i, a.eval x)) = ps.toArray := by
      have := OpVp.evals (o := { dst := some d, op := .build T xs.toArray, type := ty, pos := pos, after := af, guard := none }) hfa xs ps hx (fun x hx => by simp [Op.operands]; exact ⟨_, hx⟩)
      rw [← this]; simp
    simp only [execOp, h1]
    simp [run_build ht hf]) hk
theorem D_buildO {T : TypeId} {t : Nat} {xs : List (Nat × Operand)} {ps : Value → List (Nat × Value)} {pl : List (Nat × Nat)} {z : List Value} {cs : Value → List Value} {r : List δ}
    (hR : E.lookup t = some (OwnV (τ := τ) r)) (hx : ∀ u, OpVp ((t, FC True u) :: dropE [t] E) xs (ps u)) (ht : bldOf Γ.P T = some (pl, z)) (hf : ∀ X : TL τ, fillL (pl[·]?) z (ps X.hdr) = some (cs X.hdr))
    (hlin : linB ops { dst := some d, op := .build T xs.toArray, type := ty, pos := pos, after := af, guard := none } [t] = true)
    (hk : DV Γ ops Msh pool ((d, AggO (τ := τ) (fun u => .agg (cs u).toArray) r) :: dropE [t] E) ((some d, AggO (τ := τ) (fun u => .agg (cs u).toArray) r) :: rs) ([t] ++ cs0) rest KD) :
    DV Γ ops Msh pool E rs cs0 ({ dst := some d, op := .build T xs.toArray, type := ty, pos := pos, after := af, guard := none } :: rest) KD := by
  refine ⟨AggO (τ := τ) (fun u => .agg (cs u).toArray) r, [], pool, [t], by simp, hlin, ?_, hk⟩
  intro a w F Mk _ _ hw hm hfa hcf
  obtain ⟨Mx, Mk', rfl, hRR, hnil⟩ := hcf
  have hnil : Mk' = [] := hnil
  subst hnil
  obtain ⟨X, hv, hd, rfl⟩ := hRR _ hR
  rw [if_pos (by simp [Region.wanted])]
  have hf2 : Facts ((t, FC True X.hdr) :: dropE [t] E) (Oper.looksAt ops { dst := some d, op := .build T xs.toArray, type := ty, pos := pos, after := af, guard := none }) F a := by
    intro t' R' h1 h2
    rw [List.lookup_cons] at h2
    cases hb : t' == t with
    | true =>
      rw [hb] at h2
      cases h2
      have : t' = t := by simpa using hb
      subst this
      exact ⟨[], ⟨rfl, fun _ => hv, fun hn => (hn trivial).elim⟩, fun _ h => by cases h⟩
    | false => rw [hb] at h2; exact hfa t' R' h1 h2
  have h1 : xs.toArray.map (fun (i, x) => (i, a.eval x)) = (ps X.hdr).toArray := by
    have := OpVp.evals (o := { dst := some d, op := .build T xs.toArray, type := ty, pos := pos, after := af, guard := none }) hf2 xs (ps X.hdr) (hx X.hdr) (fun x hx => by simp [Op.operands]; exact ⟨_, hx⟩)
    rw [← this]; simp
  have h3 : (execOp a.eval { dst := some d, op := .build T xs.toArray, type := ty, pos := pos, after := af, guard := none }).run Γ.P w = .ok (.value (.agg (cs X.hdr).toArray)) w := by
    simp only [execOp, h1]
    simp [run_build ht (hf X)]
  rw [h3]
  exact ⟨[treeH X], ⟨X, rfl, hd, rfl⟩, by simpa using hw⟩
theorem D_bs1O {t T e sz by_ : Nat} {z : List Value} {f : Value → Value} {r : List δ} (hR : E.lookup t = some (AggO (τ := τ) f r)) (ht : elOf Γ.P T = some (e, sz, by_, z)) (hz : z.length = sz) (hsz : 0 < sz) (hns : sz ≤ 65536)
    (hv : ∀ X : TL τ, (f X.hdr).cells.toList.length = sz)
    (hlin : linB ops { dst := some d, op := .buildSlice T 1 #[(0, .tmp t)], type := ty, pos := pos, after := af, guard := none } [t] = true)
    (hk : DV Γ ops Msh pool ((d, RowO (τ := τ) f e r) :: dropE [t] E) ((some d, RowO (τ := τ) f e r) :: rs) ([t] ++ cs0) rest KD) :
    DV Γ ops Msh pool E rs cs0 ({ dst := some d, op := .buildSlice T 1 #[(0, .tmp t)], type := ty, pos := pos, after := af, guard := none } :: rest) KD := by
  refine ⟨RowO (τ := τ) f e r, [], pool, [t], by simp, hlin, ?_, hk⟩
  intro a w F Mk _ _ hw hm hfa hcf
  obtain ⟨Mx, Mk', rfl, hRR, hnil⟩ := hcf
  have hnil : Mk' = [] := hnil
  subst hnil
  obtain ⟨X, hx, hd, rfl⟩ := hRR _ hR
  rw [if_pos (by simp [Region.wanted])]
  have e1 : a.eval (.tmp t) = f X.hdr := hx
  have h1 : (execOp a.eval { dst := some d, op := .buildSlice T 1 #[(0, .tmp t)], type := ty, pos := pos, after := af, guard := none }).run Γ.P w = .ok (.value (.slice (some ⟨w.heap.size, 0, none⟩) 1 1)) (w.alloc (.cells (f X.hdr).cells.toList.toArray e (0, 0))) := by
    simp only [execOp]
    have : (#[(0, Operand.tmp t)] : Array (Nat × Operand)).map (fun (i, x) => (i, a.eval x)) = #[(0, f X.hdr)] := by simp [e1]
    rw [this]
    simp [run_bs1 ht hz hsz hns (hv X)]
  rw [h1]
  exact ⟨[blk w.heap.size (f X.hdr).cells.toList e, treeH X], ⟨X, _, rfl, hd, rfl⟩, Holds.new (show Holds Γ.w0 Γ.S0 (treeH X :: F) w by simpa using hw) rfl⟩
end
end Go.Proofs.SL
