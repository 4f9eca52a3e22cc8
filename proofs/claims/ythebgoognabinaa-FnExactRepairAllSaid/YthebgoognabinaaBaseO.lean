/- A row of one's own as bare cells: slicing, appending in place, copying, clearing; and back to a tree. -/
import Derived.Test.YthebgoognabinaaBaseN
namespace Go.Proofs.SL
open Go

variable {Γ : Cx} {l : Envl} {M M' M1 M2 F : List HP} {Q : Post} {K : Kont} {w0 w : World} {S0 : List Nat} {P : Program}
variable {rest : List Oper} {d : Nat} {ty : TypeId} {pos : String} {af : Array Edge}
variable {ops : Array Oper} {Msh pool : List HP} {E : Fl} {rs : List (Option Nat × Rel)} {cs0 : List Nat} {KD : List (Option Nat × Rel) → List Nat → List HP → Prop} {gd : Option (Nat × Bool)}
section
variable {τ δ : Type} [GT τ δ]
theorem els_sub {xs ys zs : List τ} (hp : List.Perm xs (ys ++ zs)) (p : Pick (elsT xs) M M1) (h : Holds w0 S0 M w) : Holds w0 S0 (elsT ys :: M1) w := by
  have h1 := h.perm p.perm
  have h2 : Holds w0 S0 (elsT ys :: elsT zs :: M1) w := by
    refine h1.reFp ?_ fun x hx => ?_
    · simp only [fps_cons]
      show List.Perm (xs.flatMap GT.fp ++ fps M1) (ys.flatMap GT.fp ++ (zs.flatMap GT.fp ++ fps M1))
      rw [← List.append_assoc, ← List.flatMap_append]
      exact (hp.flatMap_right _).append_right _
    · have h3 := h1.prs (elsT xs) (List.mem_cons_self ..)
      rcases List.mem_cons.1 hx with rfl | hx
      · exact fun y hy => h3 y (hp.mem_iff.2 (List.mem_append_left _ hy))
      rcases List.mem_cons.1 hx with rfl | hx
      · exact fun y hy => h3 y (hp.mem_iff.2 (List.mem_append_right _ hy))
      · exact h1.prs _ (List.mem_cons_of_mem _ hx)
  exact h2.sub ⟨[elsT zs], (List.perm_append_comm (l₁ := [elsT zs]) (l₂ := M1)).cons _⟩
theorem raw_facts {X : TL τ} (h : GT.ow w X) (hx : X.els ≠ []) : X.a = some ⟨X.g, 0, none⟩ ∧ X.els.length ≤ X.cap ∧ X.cap ≤ maxLen ∧ X.els.length * GT.sz τ + X.tail.length = X.cap * GT.sz τ ∧ w.heap[X.g]? = some (.cells (rowCells X.els ++ X.tail).toArray X.e (0, 0)) := by
  obtain ⟨r1, r2, r3, r4, r5⟩ := h
  cases ha : X.a with
  | none => exact (hx (r4 ha).1).elim
  | some a =>
    obtain ⟨h1, h2, h3, h4⟩ := r5 a ha
    have hg : X.g = a.block := by unfold TL.g; rw [ha]; rfl
    obtain ⟨b, o, s⟩ := a
    have h1 : s = none := h1
    have h2 : o = 0 := h2
    subst h1; subst h2
    refine ⟨by rw [hg], r1, r2, h4, by rw [hg]; exact h3⟩
theorem raw_open {X : TL τ} (hx : X.els ≠ []) (p : Pick (treeH X) M M1) (h : Holds w0 S0 M w) : Holds w0 S0 (blk X.g (rowCells X.els ++ X.tail) X.e :: elsT X.els :: M1) w := by
  have h1 := h.perm p.perm
  have ht : GT.ow w X := h1.prs _ (List.mem_cons_self ..)
  obtain ⟨f1, _, _, _, f5⟩ := raw_facts ht hx
  refine h1.reFp (List.Perm.of_eq ?_) fun x hx => ?_
  · simp only [fps_cons]
    show ((match X.a with | none => [] | some a => [a.block]) ++ X.els.flatMap GT.fp) ++ fps M1 = [X.g] ++ (X.els.flatMap GT.fp ++ fps M1)
    rw [f1, List.append_assoc]
  · rcases List.mem_cons.1 hx with rfl | hx
    · exact f5
    rcases List.mem_cons.1 hx with rfl | hx
    · exact ht.2.2.1
    · exact h1.prs _ (List.mem_cons_of_mem _ hx)
theorem W_raw {c : Code} {X : TL τ} (hx : X.els ≠ []) (p : Pick (treeH X) M M1)
    (hk : X.a = some ⟨X.g, 0, none⟩ → X.els.length ≤ X.cap → X.cap ≤ maxLen → X.els.length * GT.sz τ + X.tail.length = X.cap * GT.sz τ → W Γ c l (blk X.g (rowCells X.els ++ X.tail) X.e :: elsT X.els :: M1) Q) : W Γ c l M Q :=
  W_fact (φ := X.a = some ⟨X.g, 0, none⟩ ∧ X.els.length ≤ X.cap ∧ X.cap ≤ maxLen ∧ X.els.length * GT.sz τ + X.tail.length = X.cap * GT.sz τ)
    (fun w h => by obtain ⟨f1, f2, f3, f4, _⟩ := raw_facts ((h.perm p.perm).prs (treeH X) (List.mem_cons_self ..)) hx; exact ⟨f1, f2, f3, f4⟩)
    (fun ⟨f1, f2, f3, f4⟩ => W_conv (fun w h => raw_open hx p h) (hk f1 f2 f3 f4))
theorem raw_close {g cap : Nat} {e : TypeId} {els : List τ} {tail cs : List Value} (hc : cs = rowCells els ++ tail) (h1 : els.length ≤ cap) (h2 : cap ≤ maxLen) (h3 : els.length * GT.sz τ + tail.length = cap * GT.sz τ)
    (p : Pick (blk g cs e) M M1) (q : Pick (elsT els) M1 M2) (h : Holds w0 S0 M w) : Holds w0 S0 (treeH (⟨some ⟨g, 0, none⟩, cap, e, els, tail⟩ : TL τ) :: M2) w := by
  subst hc
  have h4 := h.perm (p.perm.trans (q.perm.cons _))
  refine h4.reFp (List.Perm.of_eq ?_) fun x hx => ?_
  · simp only [fps_cons]
    show [g] ++ (els.flatMap GT.fp ++ fps M2) = ([g] ++ els.flatMap GT.fp) ++ fps M2
    rw [List.append_assoc]
  · rcases List.mem_cons.1 hx with rfl | hx
    · refine ⟨h1, h2, h4.prs (elsT els) (List.mem_cons_of_mem _ (List.mem_cons_self ..)), fun h => (by cases h), fun a ha => ?_⟩
      cases ha
      exact ⟨rfl, rfl, h4.prs (blk g _ e) (List.mem_cons_self ..), h3⟩
    · exact h4.prs _ (List.mem_cons_of_mem _ (List.mem_cons_of_mem _ hx))
end

/-! Headers -/
def slA (o c lo sz : Nat) : Nat := if c = lo then o else o + lo * sz
theorem run_slV {T e sz by_ : Nat} {z : List Value} {g o n c : Nat} {vlo vhi : Option Value} {a b : Int} (ht : elOf P T = some (e, sz, by_, z)) (hlo : (vlo = none ∧ a = 0) ∨ ∃ k, vlo = some (.int k a)) (hhi : (vhi = none ∧ b = (n : Int)) ∨ ∃ k, vhi = some (.int k b))
    (h0 : 0 ≤ a) (h1 : a ≤ b) (h2 : b ≤ (c : Int)) (w : World) : (Instr.sliceAt T (.slice (some ⟨g, o, none⟩) n c) vlo vhi none).run P w = .ok (.slice (some ⟨g, slA o c a.toNat sz, none⟩) (b.toNat - a.toNat) (c - a.toNat)) w := by
  unfold elOf at ht
  split at ht <;> (try cases ht)
  rename_i e' het
  split at ht <;> (try cases ht)
  rename_i i' hi'
  split at ht <;> cases ht
  have e1 := fun k w => run_sliceBound (P := P) (k := k) (code := .sliceAcap) (show 0 ≤ b by omega) (show b ≤ ((c : Nat) : Int) by omega) w
  have e2 := fun k w => run_sliceBound (P := P) (k := k) (code := .sliceB) h0 (show a ≤ ((b.toNat : Nat) : Int) by omega) w
  have hv : (if c = a.toNat then (⟨g, o, none⟩ : Addr) else (⟨g, o, none⟩ : Addr).add (a.toNat * i'.size)) = ⟨g, slA o c a.toNat i'.size, none⟩ := by
    unfold slA; split
    · rfl
    · rw [addr_add]
  rw [← hv]
  rcases hlo with ⟨rfl, rfl⟩ | ⟨k1, rfl⟩ <;> rcases hhi with ⟨rfl, rfl⟩ | ⟨k2, rfl⟩
  · simp [Instr.sliceAt, Instr.slice, underlying, het, Instr.sliceBounds, sizeOf, typeInfo, hi']
    split <;> rfl
  · simp [Instr.sliceAt, Instr.slice, underlying, het, Instr.sliceBounds, sizeOf, typeInfo, hi', e1]
    split <;> rfl
  · have e3 := fun k w => run_sliceBound (P := P) (k := k) (code := .sliceB) h0 (show a ≤ ((n : Nat) : Int) by omega) w
    simp [Instr.sliceAt, Instr.slice, underlying, het, Instr.sliceBounds, sizeOf, typeInfo, hi', e3]
    split <;> rfl
  · simp [Instr.sliceAt, Instr.slice, underlying, het, Instr.sliceBounds, sizeOf, typeInfo, hi', e1, e2]
    split <;> rfl
theorem L_slV {x : Operand} {lo hi : Option Operand} {T e sz by_ : Nat} {z : List Value} {g o n c : Nat} {a b : Int} (hn : Nat.blt d Γ.n = true) (hx : ev l x = some (.slice (some ⟨g, o, none⟩) n c)) (hlo : optI l lo 0 = some a) (hhi : optI l hi (n : Int) = some b)
    (ht : elOf Γ.P T = some (e, sz, by_, z)) (h0 : 0 ≤ a) (h1 : a ≤ b) (h2 : b ≤ (c : Int)) (hk : L Γ rest ((d, .slice (some ⟨g, slA o c a.toNat sz, none⟩) (b.toNat - a.toNat) (c - a.toNat)) :: l) M K) :
    L Γ ({ dst := some d, op := .slice T x lo hi none, type := ty, pos := pos, after := af, guard := none } :: rest) l M K :=
  L_pure hn (fun a' w ha hw => by
    have h3 := run_slV (P := Γ.P) (T := T) (g := g) (o := o) (n := n) (c := c) (vlo := lo.map a'.eval) (vhi := hi.map a'.eval) (a := a) (b := b) ht (by
      cases lo with
      | none => cases hlo; exact .inl ⟨rfl, rfl⟩
      | some q => obtain ⟨k, h⟩ := optI_some hlo; exact .inr ⟨k, by simp [ha.eval h]⟩) (by
      cases hi with
      | none => cases hhi; exact .inl ⟨rfl, rfl⟩
      | some q => obtain ⟨k, h⟩ := optI_some hhi; exact .inr ⟨k, by simp [ha.eval h]⟩) h0 h1 h2 w
    simp [execOp, ha.eval hx, h3]) hk
theorem D_slV {x : Operand} {lo hi : Option Operand} {T e sz by_ : Nat} {z : List Value} {g o n c : Nat} {a b : Int} {cc : Prop} (hg : GC ops E { dst := some d, op := .slice T x lo hi none, type := ty, pos := pos, after := af, guard := gd } cc)
    (hx : OpV E x cc (.slice (some ⟨g, o, none⟩) n c)) (hlo : optD E lo cc 0 a) (hhi : optD E hi cc (n : Int) b) (ht : elOf Γ.P T = some (e, sz, by_, z)) (h0 : 0 ≤ a) (h1 : a ≤ b) (h2 : b ≤ (c : Int))
    (hk : DV Γ ops Msh pool ((d, FC cc (.slice (some ⟨g, slA o c a.toNat sz, none⟩) (b.toNat - a.toNat) (c - a.toNat))) :: E) ((some d, FC cc (.slice (some ⟨g, slA o c a.toNat sz, none⟩) (b.toNat - a.toNat) (c - a.toNat))) :: rs) cs0 rest KD) :
    DV Γ ops Msh pool E rs cs0 ({ dst := some d, op := .slice T x lo hi none, type := ty, pos := pos, after := af, guard := gd } :: rest) KD :=
  DV_pure cc _ hg (fun a' w F hc hf hs => by
    have e0 := hx.eval hf (by simp [Op.operands]) hc
    have h3 := run_slV (P := Γ.P) (T := T) (g := g) (o := o) (n := n) (c := c) (vlo := lo.map a'.eval) (vhi := hi.map a'.eval) (a := a) (b := b) ht (by
      cases lo with
      | none => cases hlo; exact .inl ⟨rfl, rfl⟩
      | some q => obtain ⟨k, h⟩ := hlo; exact .inr ⟨k, by simp [OpV.eval h hf (by simp [Op.operands]) hc]⟩) (by
      cases hi with
      | none => cases hhi; exact .inl ⟨rfl, rfl⟩
      | some q => obtain ⟨k, h⟩ := hhi; exact .inr ⟨k, by simp [OpV.eval h hf (by simp [Op.operands]) hc]⟩) h0 h1 h2 w
    simp [execOp, e0, h3]) hk
/-- A slice with three bounds, of which only the check counts. -/
theorem L_sl3 {x lo hi mx : Operand} {T e sz by_ : Nat} {z : List Value} {g o n c : Nat} {a b m : Int} {k1 k2 k3 : IntKind} (hn : Nat.blt d Γ.n = true) (hx : ev l x = some (.slice (some ⟨g, o, none⟩) n c)) (hlo : ev l lo = some (.int k1 a)) (hhi : ev l hi = some (.int k2 b)) (hmx : ev l mx = some (.int k3 m))
    (ht : elOf Γ.P T = some (e, sz, by_, z)) (h0 : 0 ≤ a) (h1 : a ≤ b) (h2 : b ≤ m) (h3 : m ≤ (c : Int)) (hk : ∀ v, L Γ rest ((d, v) :: l) M K) :
    L Γ ({ dst := some d, op := .slice T x (some lo) (some hi) (some mx), type := ty, pos := pos, after := af, guard := none } :: rest) l M K := by
  unfold elOf at ht
  split at ht <;> (try cases ht)
  rename_i e' het
  split at ht <;> (try cases ht)
  rename_i i' hi'
  split at ht <;> cases ht
  refine L_pure hn (v := .slice (if m.toNat = a.toNat then some ⟨g, o, none⟩ else some ((⟨g, o, none⟩ : Addr).add (a.toNat * i'.size))) (b.toNat - a.toNat) (m.toNat - a.toNat)) (fun a' w ha hw => ?_) (hk _)
  have e1 := fun w => run_sliceBound (P := Γ.P) (k := k3) (code := .slice3Acap) (show 0 ≤ m by omega) (show m ≤ ((c : Nat) : Int) by omega) w
  have e2 := fun w => run_sliceBound (P := Γ.P) (k := k2) (code := .slice3B) (show 0 ≤ b by omega) (show b ≤ ((m.toNat : Nat) : Int) by omega) w
  have e3 := fun w => run_sliceBound (P := Γ.P) (k := k1) (code := .slice3C) h0 (show a ≤ ((b.toNat : Nat) : Int) by omega) w
  simp [execOp, ha.eval hx, ha.eval hlo, ha.eval hhi, ha.eval hmx, Instr.sliceAt, Instr.slice, underlying, het, Instr.sliceBounds, sizeOf, typeInfo, hi', e1, e2, e3]

/-! Cells -/
theorem cells_at {b : Nat} {cs : List Value} {T : TypeId} (hp : w.heap[b]? = some (.cells cs.toArray T (0, 0))) (o n : Nat) : ∀ j v, ((cs.drop o).take n)[j]? = some v → w.cell? ⟨b, o + j, none⟩ = some v := fun j v hv => by
  rw [cell_of_row _ _ _ _ _ _ hp]
  simp only [List.getElem?_toArray]
  rw [List.getElem?_take] at hv
  split at hv
  · rw [List.getElem?_drop] at hv; exact hv
  · cases hv
/-- append in place, out of the same block. -/
theorem L_appRaw {s x : Operand} {T e sz by_ g n m c c2 o : Nat} {z cs : List Value} {e2 : TypeId} (hn : Nat.blt d Γ.n = true) (hs : ev l s = some (.slice (some ⟨g, 0, none⟩) n c)) (hx : ev l x = some (.slice (some ⟨g, o, none⟩) m c2))
    (ht : elOf Γ.P T = some (e, sz, by_, z)) (hp : Pick (blk g cs e2) M M1) (hroom : n + m ≤ c) (h1 : o + m * sz ≤ cs.length) (h2 : n * sz + m * sz ≤ cs.length) (hone : ∀ u, u ∈ (cs.drop o).take (m * sz) → u.oneCell' = true)
    (hk : L Γ rest ((d, .slice (some ⟨g, 0, none⟩) (n + m) c) :: l) (blk g (cs.take (n * sz) ++ (cs.drop o).take (m * sz) ++ cs.drop (n * sz + m * sz)) e2 :: M1) K) :
    L Γ ({ dst := some d, op := .call { callee := .builtin .append, args := #[s, x], argTypes := #[T, T] }, type := ty, pos, after := af, guard := none } :: rest) l M K := by
  refine L_step rfl rfl (Nat.le_of_ble_eq_true hn) (fun a w ha hw => ?_) hk
  unfold elOf at ht
  split at ht <;> (try cases ht)
  rename_i e' het
  split at ht <;> (try cases ht)
  rename_i i' hi'
  split at ht <;> cases ht
  have hw1 := hw.perm hp.perm
  have hh : w.heap[g]? = some (.cells cs.toArray e2 (0, 0)) := hw1.prs (blk g cs e2) (List.mem_cons_self ..)
  have hl : ((cs.drop o).take (m * i'.size)).length = m * i'.size := by rw [List.length_take, List.length_drop]; omega
  have hr := run_append_roomE (P := Γ.P) w T ty e e2 i' het hi' g n c cs.toArray hh ⟨g, o, none⟩ m c2 ((cs.drop o).take (m * i'.size)) hl
    (fun j u hu => by rw [addr_add]; exact cells_at hh o (m * i'.size) j u hu) hone hroom (by rw [hl]; simpa using h2)
  rw [hl] at hr
  exact ⟨_, by simp [execOp, resolve, invoke, builtin, ha.eval hs, ha.eval hx, hr], setRow_blk hw1⟩
theorem flatten_rep (z : List Value) (n : Nat) : ((Array.range (n * z.length)).map (fun i => (z.toArray)[i % z.length]!)).toList = (List.replicate n z).flatten := by
  refine List.ext_getElem? fun i => ?_
  by_cases hz : z.length = 0
  · have : z = [] := List.eq_nil_of_length_eq_zero hz
    subst this; simp
  · have hpos : 0 < z.length := by omega
    by_cases hi : i < n * z.length
    · have h1 : i / z.length < n := Nat.div_lt_of_lt_mul (by rw [Nat.mul_comm]; exact hi)
      have h2 : i % z.length < z.length := Nat.mod_lt _ hpos
      simp only [Array.toList_map, Array.toList_range, List.getElem?_map, List.getElem?_range hi, Option.map_some]
      have key : ∀ (n i : Nat), i < n * z.length → ((List.replicate n z).flatten)[i]? = z[i % z.length]? := by
        intro n
        induction n with
        | zero => intro i h; simp at h
        | succ n ih =>
          intro i h
          rw [List.replicate_succ, List.flatten_cons]
          by_cases hlt : i < z.length
          · rw [List.getElem?_append_left hlt, Nat.mod_eq_of_lt hlt]
          · rw [List.getElem?_append_right (by omega), ih (i - z.length) (by rw [Nat.add_mul] at h; omega)]
            rw [← Nat.mod_eq_sub_mod (by omega)]
      rw [key n i hi, getElem!_pos z.toArray (i % z.length) (by simpa using h2)]
      simp [h2]
    · rw [List.getElem?_eq_none (by simpa using hi), List.getElem?_eq_none (by simp; omega)]
/-- An operation whose value is not kept. -/
theorem L_val0 {o : Oper} {v : Value} (hg : o.guard = none) (hd : o.dst = none)
    (he : ∀ a w, Env a Γ.n l → Holds Γ.w0 Γ.S0 M w → ∃ w', (execOp a.eval o).run Γ.P w = .ok (.value v) w' ∧ Holds Γ.w0 Γ.S0 M' w')
    (hk : L Γ rest l M' K) : L Γ (o :: rest) l M K := fun ops a w Q ha hw hq =>
  wpList_plain hg fun K' hK' => by
    obtain ⟨w', h1, h2⟩ := he a w ha hw
    unfold Oper.wp
    rw [h1, Oper.upon_value, hd]
    exact hK' _ _ (hk ops _ w' Q (by simpa [Act.put] using ha) h2 hq)
theorem run_clr {T e sz by_ g o n c : Nat} {z cs : List Value} {e2 : TypeId} (ht : elOf P T = some (e, sz, by_, z)) (hz : z.length = sz) (hone : ∀ u, u ∈ z → u.oneCell' = true)
    (hh : w.heap[g]? = some (.cells cs.toArray e2 (0, 0))) (h1 : o + n * sz ≤ cs.length) (hn : n ≠ 0) (ty : TypeId) :
    (Builtin.clear_ #[T] ty #[.slice (some ⟨g, o, none⟩) n c]).run P w = .ok (.tuple #[]) (w.setRow g (cs.take o ++ (List.replicate n z).flatten ++ cs.drop (o + n * sz)).toArray) := by
  unfold elOf at ht
  split at ht <;> (try cases ht)
  rename_i e' het
  split at ht <;> (try cases ht)
  rename_i i' hi'
  split at ht <;> cases ht
  rename_i z' hz'
  have hfl : ((List.replicate n z'.cells.toList).flatten).length = n * i'.size := by simp [hz]
  have hs := run_store_blk (P := P) (fo := o) (vs := (List.replicate n z'.cells.toList).flatten) (ty := 0) hh (by rw [hfl]; exact h1) (fun u hu => by
    obtain ⟨q, hq, hu⟩ := List.mem_flatten.1 hu
    rw [List.eq_of_mem_replicate hq] at hu
    exact hone u hu)
  rw [hfl] at hs
  have hzc : (Builtin.zeroCells z'.cells n).toList = (List.replicate n z'.cells.toList).flatten := flatten_rep z'.cells.toList n
  obtain ⟨k, rfl⟩ := Nat.exists_eq_succ_of_ne_zero hn
  simp only [Builtin.clear_]
  simp [underlying, het, zeroValue, typeInfo, hi', hz', hzc, hs]
/-- clear. -/
theorem L_clrRaw {x : Operand} {T e sz by_ g o n c : Nat} {z cs : List Value} {e2 : TypeId} (hx : ev l x = some (.slice (some ⟨g, o, none⟩) n c)) (ht : elOf Γ.P T = some (e, sz, by_, z)) (hz : z.length = sz) (hone : ∀ u, u ∈ z → u.oneCell' = true)
    (hp : Pick (blk g cs e2) M M1) (h1 : o + n * sz ≤ cs.length) (hn : n ≠ 0)
    (hk : L Γ rest l (blk g (cs.take o ++ (List.replicate n z).flatten ++ cs.drop (o + n * sz)) e2 :: M1) K) :
    L Γ ({ dst := none, op := .call { callee := .builtin .clear, args := #[x], argTypes := #[T] }, type := ty, pos, after := af, guard := none } :: rest) l M K :=
  L_val0 (v := .tuple #[]) rfl rfl (fun a w ha hw => by
    have hw1 := hw.perm hp.perm
    have hh : w.heap[g]? = some (.cells cs.toArray e2 (0, 0)) := hw1.prs (blk g cs e2) (List.mem_cons_self ..)
    have hr := run_clr (P := Γ.P) (c := c) ht hz hone hh h1 hn ty
    exact ⟨_, by simp [execOp, resolve, invoke, builtin, ha.eval hx, hr], setRow_blk hw1⟩) hk

/-! slices.Delete -/
def delP {δ : Type} (xs : List δ) (i j : Int) : Option (List δ) := if 0 ≤ i ∧ i < j ∧ j ≤ xs.length then some (xs.take i.toNat ++ xs.drop j.toNat) else none
section
variable {τ δ : Type} [GT τ δ]
theorem perm_del (xs : List τ) (i j : Nat) (h : i ≤ j) : List.Perm xs ((xs.take i ++ xs.drop j) ++ (xs.drop i).take (j - i)) := by
  have h1 : xs = xs.take i ++ ((xs.drop i).take (j - i) ++ xs.drop j) := by
    have h2 : (xs.drop i).drop (j - i) = xs.drop j := by rw [List.drop_drop]; congr 1; omega
    rw [← h2, List.take_append_drop, List.take_append_drop]
  conv => lhs; rw [h1]
  rw [List.append_assoc]
  exact (List.perm_append_comm).append_left _
theorem sl0 (c sz : Nat) : slA 0 c 0 sz = 0 := by unfold slA; split <;> simp
theorem slLt {c lo sz : Nat} (h : lo < c) : slA 0 c lo sz = lo * sz := by unfold slA; rw [if_neg (by omega)]; simp
theorem seg_drop {X : TL τ} {j sz : Nat} (hsz : GT.sz τ = sz) (hj : j ≤ X.els.length) (hc : X.els.length ≤ X.cap) : ((rowCells X.els ++ X.tail).drop (slA 0 X.cap j sz)).take ((X.els.length - j) * sz) = rowCells (X.els.drop j) := by
  subst hsz
  rcases Nat.lt_or_ge j X.cap with h | h
  · rw [slLt h]
    have h1 : rowCells X.els = rowCells (X.els.take j) ++ rowCells (X.els.drop j) := by rw [← rowCells_append, List.take_append_drop]
    have h2 : (rowCells (X.els.take j)).length = j * GT.sz τ := by rw [length_rowCells, List.length_take, Nat.min_eq_left hj]
    have h3 : (rowCells (X.els.drop j)).length = (X.els.length - j) * GT.sz τ := by rw [length_rowCells, List.length_drop]
    rw [h1, List.append_assoc, ← h2, List.drop_left, ← h3, List.take_left]
  · have : X.els.length - j = 0 := by omega
    rw [this, Nat.zero_mul, List.take_zero, List.drop_of_length_le (by omega)]; rfl
theorem del_cells {xs : List τ} {t : List Value} {i j n sz : Nat} (z : List Value) (hsz : GT.sz τ = sz) (hn : n = xs.length) (hij : i < j) (hj : j ≤ n) (cs : List Value) (hcs : cs = (rowCells xs ++ t).take (i * sz) ++ rowCells (xs.drop j) ++ (rowCells xs ++ t).drop (i * sz + (n - j) * sz)) :
    cs.take ((i + (n - j)) * sz) ++ z ++ cs.drop ((i + (n - j)) * sz + (n - (i + (n - j))) * sz) = rowCells (xs.take i ++ xs.drop j) ++ (z ++ t) := by
  subst hsz; subst hn; subst hcs
  have h1 : (rowCells xs ++ t).take (i * GT.sz τ) = rowCells (xs.take i) := by
    have h1 : rowCells xs = rowCells (xs.take i) ++ rowCells (xs.drop i) := by rw [← rowCells_append, List.take_append_drop]
    have h2 : (rowCells (xs.take i)).length = i * GT.sz τ := by rw [length_rowCells, List.length_take, Nat.min_eq_left (by omega)]
    rw [h1, List.append_assoc, ← h2, List.take_left]
  have h2 : (rowCells (xs.take i) ++ rowCells (xs.drop j)).length = (i + (xs.length - j)) * GT.sz τ := by
    rw [← rowCells_append, length_rowCells, List.length_append, List.length_take, List.length_drop, Nat.min_eq_left (by omega)]
  rw [h1, ← h2, List.take_left, rowCells_append]
  have h3 : (xs.length - (i + (xs.length - j))) * GT.sz τ + (i * GT.sz τ + (xs.length - j) * GT.sz τ) = xs.length * GT.sz τ := by
    rw [← Nat.add_mul, ← Nat.add_mul]; congr 1; omega
  rw [List.drop_append, List.drop_of_length_le (Nat.le_add_right _ _), List.nil_append, Nat.add_sub_cancel_left, List.drop_drop]
  rw [show i * GT.sz τ + (xs.length - j) * GT.sz τ + (xs.length - (i + (xs.length - j))) * GT.sz τ = xs.length * GT.sz τ by omega]
  have h4 : (rowCells xs).length = xs.length * GT.sz τ := length_rowCells _
  rw [← h4, List.drop_left]
  simp only [List.append_assoc]
theorem row_take (xs : List τ) (i : Nat) (t : List Value) (hi : i ≤ xs.length) : (rowCells xs ++ t).take (i * GT.sz τ) = rowCells (xs.take i) := by
  have h1 : rowCells xs = rowCells (xs.take i) ++ rowCells (xs.drop i) := by rw [← rowCells_append, List.take_append_drop]
  have h2 : (rowCells (xs.take i)).length = i * GT.sz τ := by rw [length_rowCells, List.length_take, Nat.min_eq_left hi]
  rw [h1, List.append_assoc, ← h2, List.take_left]
theorem row_drop (xs : List τ) (i : Nat) (t : List Value) (hi : i ≤ xs.length) : (rowCells xs ++ t).drop (i * GT.sz τ) = rowCells (xs.drop i) ++ t := by
  have h1 : rowCells xs = rowCells (xs.take i) ++ rowCells (xs.drop i) := by rw [← rowCells_append, List.take_append_drop]
  have h2 : (rowCells (xs.take i)).length = i * GT.sz τ := by rw [length_rowCells, List.length_take, Nat.min_eq_left hi]
  rw [h1, List.append_assoc, ← h2, List.drop_left]
end
end Go.Proofs.SL
namespace Go.Proofs.SL
open Go
theorem RdT.w0 {Γ : Cx} {τ δ : Type} [GT τ δ] {t : τ} (h : RdT Γ [] t) : GT.rd Γ.w0 [] t := h Γ.w0 ⟨fun _ _ _ => rfl, fun _ h => by cases h⟩
end Go.Proofs.SL
