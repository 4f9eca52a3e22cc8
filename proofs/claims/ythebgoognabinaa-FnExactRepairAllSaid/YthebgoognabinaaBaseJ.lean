/- append, slices of slices and of strings by data; parts taken apart and put together. -/
import Derived.Test.YthebgoognabinaaBaseI
namespace Go.Proofs.SL
open Go

variable {Γ : Cx} {l : Envl} {M M' M1 M2 F : List HP} {Q : Post} {K : Kont} {w0 w : World} {S0 : List Nat}
variable {rest : List Oper} {d : Nat} {ty : TypeId} {pos : String} {af : Array Edge}

def appP {δ : Type} (a b : List δ) : Option (List δ) := if a.length + b.length ≤ 4294967296 then some (a ++ b) else none
theorem appP_some {δ : Type} {a b r : List δ} (h : appP a b = some r) : a.length + b.length ≤ 4294967296 ∧ r = a ++ b := by
  unfold appP at h
  split at h
  · cases h; exact ⟨by assumption, rfl⟩
  · cases h
def catP (a b : ByteArray) : Option ByteArray := if a.size + b.size ≤ 9223372036854775807 then some (a ++ b) else none
theorem catP_some {a b r : ByteArray} (h : catP a b = some r) : a.size + b.size ≤ 9223372036854775807 ∧ a ++ b = r := by
  unfold catP at h
  split at h
  · cases h; exact ⟨by assumption, rfl⟩
  · cases h
theorem bv_saddP {P : Program} {T : TypeId} {x y : Operand} {s t r : ByteArray} (h : catP s t = some r) : BinV P .add T x y (.string s) (.string t) (.string r) := by
  obtain ⟨h1, rfl⟩ := catP_some h
  exact bv_sadd h1
def quoP (k : IntKind) (a b : Int) : Option Int := if b = 0 then none else some (k.wrap (a.tdiv b))
def remP (a b : Int) : Option Int := if b = 0 then none else some (a.tmod b)
theorem bv_quoP {P : Program} {T : TypeId} {x y : Operand} {k : IntKind} {a b r : Int} (h : quoP k a b = some r) : BinV P .quo T x y (.int k a) (.int k b) (.int k r) := by
  unfold quoP at h
  split at h
  · cases h
  · cases h; exact bv_quo (by assumption)
theorem bv_remP {P : Program} {T : TypeId} {x y : Operand} {k : IntKind} {a b r : Int} (h : remP a b = some r) : BinV P .rem T x y (.int k a) (.int k b) (.int k r) := by
  unfold remP at h
  split at h
  · cases h
  · cases h; exact bv_rem (by assumption)
def shlP (k : IntKind) (a b : Int) : Option Int := if 0 ≤ b ∧ b ≤ k.bits then some (k.wrap (a * 2 ^ b.toNat)) else none
def shrP (k : IntKind) (a b : Int) : Option Int := if 0 ≤ b ∧ b ≤ k.bits then some (a / 2 ^ b.toNat) else none
theorem bv_shlP {P : Program} {T : TypeId} {x y : Operand} {k yk : IntKind} {a b r : Int} (h : shlP k a b = some r) : BinV P .shl T x y (.int k a) (.int yk b) (.int k r) := by
  unfold shlP at h
  split at h
  · rename_i hh; cases h; exact bv_shl hh.1 hh.2
  · cases h
theorem bv_shrP {P : Program} {T : TypeId} {x y : Operand} {k yk : IntKind} {a b r : Int} (h : shrP k a b = some r) : BinV P .shr T x y (.int k a) (.int yk b) (.int k r) := by
  unfold shrP at h
  split at h
  · rename_i hh; cases h; exact bv_shr hh.1 hh.2
  · cases h
theorem bv_sgtr {P : Program} {T : TypeId} {x y : Operand} {s t : ByteArray} : BinV P .gtr T x y (.string s) (.string t) (.bool (!sLt s t && !decide (s = t))) := fun w => by simp [eqGuard, binOp, Op.stringOp, sLt, str_eq]
theorem bv_sleq {P : Program} {T : TypeId} {x y : Operand} {s t : ByteArray} : BinV P .leq T x y (.string s) (.string t) (.bool (sLt s t || decide (s = t))) := fun w => by simp [eqGuard, binOp, Op.stringOp, sLt, str_eq]

/-- What owns no block. -/
class FlatT (τ : Type) {δ : outParam Type} [GT τ δ] : Prop where
  flat : ∀ t : τ, Flat t
instance : FlatT Int := ⟨fun _ => flat_int trivial⟩
instance : FlatT Bool := ⟨fun b => flat_bool b⟩
instance : FlatT UInt8 := ⟨fun b => flat_u8 b⟩
instance : FlatT ByteArray := ⟨fun _ => flat_str trivial⟩
instance {α β δ ε : Type} [GT α δ] [GT β ε] [FlatT α] [FlatT β] : FlatT (α × β) := ⟨fun t => flat_pair (FlatT.flat t.1) (FlatT.flat t.2)⟩

section
variable {τ δ : Type} [GT τ δ]
/-- append of one value that owns something, out of a new row. -/
theorem L_app1 {s x : Operand} {T e sz by_ c b : Nat} {z : List Value} {X : TL τ} {T' : TypeId} (y : τ) {r : List δ} (hn : Nat.blt d Γ.n = true)
    (hs : ev l s = some X.hdr) (hx : ev l x = some (.slice (some ⟨b, 0, none⟩) 1 c)) (ht : elOf Γ.P T = some (e, sz, by_, z)) (hsz : GT.sz τ = sz) (hz : z.length = sz)
    (hp : Pick (treeH X) M M1) (hsrc : blk b (GT.cells y) T' ∈ M) (hy : Pick (treeH y) M1 M2)
    (hr : appP (GT.dat X) [GT.dat y] = some r) (hb : by_ ≤ 32768)
    (hk : ∀ X' : TL τ, GT.dat X' = r → L Γ rest ((d, X'.hdr) :: l) (treeH X' :: M2) K) :
    L Γ ({ dst := some d, op := .call { callee := .builtin .append, args := #[s, x], argTypes := #[T, T] }, type := ty, pos, after := af, guard := none } :: rest) l M K := by
  obtain ⟨h1, rfl⟩ := appP_some hr
  refine L_appA (ys := [y]) hn hs hx ht hsz hz hp rfl (fun w hw j v hv => ?_) (fun w R h => elsT_one (h.perm (hy.perm.append_right R))) (by simpa [dat_els] using h1) hb
    (fun X' h => hk X' (by rw [dat_els, h, List.map_append, dat_els]; rfl))
  rw [addr_add]
  exact RdC.blk (Γ := Γ) hsrc w hw j v (by simpa [rowCells] using hv)
theorem L_app1F [FlatT τ] {s x : Operand} {T e sz by_ c b : Nat} {z : List Value} {X : TL τ} {T' : TypeId} (y : τ) {r : List δ} (hn : Nat.blt d Γ.n = true)
    (hs : ev l s = some X.hdr) (hx : ev l x = some (.slice (some ⟨b, 0, none⟩) 1 c)) (ht : elOf Γ.P T = some (e, sz, by_, z)) (hsz : GT.sz τ = sz) (hz : z.length = sz)
    (hp : Pick (treeH X) M M1) (hsrc : blk b (GT.cells y) T' ∈ M)
    (hr : appP (GT.dat X) [GT.dat y] = some r) (hb : by_ ≤ 32768)
    (hk : ∀ X' : TL τ, GT.dat X' = r → L Γ rest ((d, X'.hdr) :: l) (treeH X' :: M1) K) :
    L Γ ({ dst := some d, op := .call { callee := .builtin .append, args := #[s, x], argTypes := #[T, T] }, type := ty, pos, after := af, guard := none } :: rest) l M K := by
  obtain ⟨h1, rfl⟩ := appP_some hr
  refine L_appA (ys := [y]) hn hs hx ht hsz hz hp rfl (fun w hw j v hv => ?_) (fun w R h => elsT_flat h fun x _ => FlatT.flat x) (by simpa [dat_els] using h1) hb
    (fun X' h => hk X' (by rw [dat_els, h, List.map_append, dat_els]; rfl))
  rw [addr_add]
  exact RdC.blk (Γ := Γ) hsrc w hw j v (by simpa [rowCells] using hv)
/-- append of a whole slice whose elements own nothing. -/
theorem L_appT [FlatT τ] {s x : Operand} {T e sz by_ : Nat} {z : List Value} {X Y : TL τ} {r : List δ} (hn : Nat.blt d Γ.n = true)
    (hs : ev l s = some X.hdr) (hx : ev l x = some Y.hdr) (ht : elOf Γ.P T = some (e, sz, by_, z)) (hsz : GT.sz τ = sz) (hz : z.length = sz)
    (hp : Pick (treeH X) M M1) (hsrc : RdT Γ M Y) (hr : appP (GT.dat X) (GT.dat Y) = some r) (hb : by_ ≤ 32768)
    (hk : ∀ X' : TL τ, GT.dat X' = r → L Γ rest ((d, X'.hdr) :: l) (treeH X' :: M1) K) :
    L Γ ({ dst := some d, op := .call { callee := .builtin .append, args := #[s, x], argTypes := #[T, T] }, type := ty, pos, after := af, guard := none } :: rest) l M K := by
  obtain ⟨h1, rfl⟩ := appP_some hr
  simp only [dat_els, List.length_map] at h1
  obtain ⟨a2, c2, e2, x2, tl2⟩ := Y
  cases a2 with
  | some a2 =>
    obtain ⟨b, o, sp⟩ := a2
    refine L_appA (ys := x2) hn hs hx ht hsz hz hp rfl (fun w hw j v hv => ?_) (fun w R h => elsT_flat h fun x _ => FlatT.flat x) h1 hb
      (fun X' h => hk X' (by rw [dat_els, h, List.map_append]; rfl))
    have h2 := (hsrc w hw).2.2.2.2 _ rfl
    have hne : x2 ≠ [] := fun e => by subst e; simp [rowCells] at hv
    have h3 : sp = none := h2.1 hne
    subst h3
    rw [addr_add]; exact (h2.2 j v hv).1
  | none =>
    intro ops a w Q ha hw
    have h2 : x2 = [] := (hsrc w hw.sees).2.2.2.1 rfl
    subst h2
    have hk' := hk X (by rw [dat_els]; show _ = _ ++ [].map GT.dat; simp)
    have hr : GT.ow w X := (hw.perm hp.perm).prs _ (List.mem_cons_self ..)
    refine L_step rfl rfl (Nat.le_of_ble_eq_true hn) (fun a w ha hw => ⟨w, ?_, hw.perm hp.perm⟩) hk' ops a w Q ha hw
    have := append_none (P := Γ.P) (w := w) (a := X.a) (n := X.els.length) (c := X.cap) (c2 := c2) ht hr.1 ty
    have h5 : (Builtin.append_ #[T, T] ty #[X.hdr, .slice none 0 c2]).run Γ.P w = .ok X.hdr w := this
    have h6 := ha.eval hx
    simp only [TL.hdr, List.length_nil] at h6
    generalize X.hdr = uu at *
    simp [execOp, resolve, invoke, builtin, ha.eval hs, h6, h5]

/-! Parts taken apart and put together -/
theorem ex2 {α β δ ε : Type} [GT α δ] [GT β ε] {a : α} {b : β} (p : Pick (treeH (a, b)) M M1) (h : Holds w0 S0 M w) : Holds w0 S0 (treeH a :: treeH b :: M1) w := tree_pair (h.perm p.perm)
theorem exL {α β δ ε : Type} [GT α δ] [GT β ε] {a : α} {b : β} (p : Pick (treeH (a, b)) M M1) (h : Holds w0 S0 M w) : Holds w0 S0 (treeH a :: M1) w := (ex2 p h).sub ⟨[treeH b], (List.Perm.swap _ _ _).trans (List.perm_append_comm (l₁ := [treeH b]))⟩
theorem exR {α β δ ε : Type} [GT α δ] [GT β ε] {a : α} {b : β} (p : Pick (treeH (a, b)) M M1) (h : Holds w0 S0 M w) : Holds w0 S0 (treeH b :: M1) w := (ex2 p h).sub ⟨[treeH a], List.perm_append_comm (l₁ := [treeH a])⟩
theorem jn2 {α β δ ε : Type} [GT α δ] [GT β ε] {a : α} {b : β} (pa : Pick (treeH a) M M1) (pb : Pick (treeH b) M1 M2) (h : Holds w0 S0 M w) : Holds w0 S0 (treeH (a, b) :: M2) w := pair_tree (h.perm (pa.perm.trans (pb.perm.cons _)))
theorem jnL {α β δ ε : Type} [GT α δ] [GT β ε] [FlatT β] {a : α} {b : β} (pa : Pick (treeH a) M M1) (h : Holds w0 S0 M w) : Holds w0 S0 (treeH (a, b) :: M1) w :=
  pair_tree (((h.perm pa.perm).addFlat (FlatT.flat b)).perm (List.Perm.swap _ _ _))
theorem jnR {α β δ ε : Type} [GT α δ] [GT β ε] [FlatT α] {a : α} {b : β} (pb : Pick (treeH b) M M1) (h : Holds w0 S0 M w) : Holds w0 S0 (treeH (a, b) :: M1) w :=
  pair_tree ((h.perm pb.perm).addFlat (FlatT.flat a))
theorem addF [FlatT τ] (t : τ) (h : Holds w0 S0 M w) : Holds w0 S0 (treeH t :: M) w := h.addFlat (FlatT.flat t)

/-! Slices of slices -/
def slc (X : TL τ) (lo hi : Nat) : TL τ := ⟨if X.cap = lo then X.a else X.a.map (·.add (lo * GT.sz τ)), X.cap - lo, X.e, (X.els.drop lo).take (hi - lo), []⟩
theorem slc_rd {X : TL τ} {lo hi : Nat} (h : GT.rd w0 S0 X) (h1 : lo ≤ hi) (h2 : hi ≤ X.els.length) : GT.rd w0 S0 (slc X lo hi) := by
  obtain ⟨r1, r2, r3, r4, r5⟩ := h
  have hsub : ∀ x, x ∈ (X.els.drop lo).take (hi - lo) → x ∈ X.els := fun x hx => List.mem_of_mem_drop (List.mem_of_mem_take hx)
  refine ⟨?_, ?_, fun x hx => r3 x (hsub x hx), fun ha => ?_, fun a ha => ?_⟩
  · show ((X.els.drop lo).take (hi - lo)).length ≤ X.cap - lo
    simp; omega
  · show X.cap - lo ≤ maxLen
    omega
  · have ha' : (if X.cap = lo then X.a else X.a.map (·.add (lo * GT.sz τ))) = none := ha
    have : X.a = none := by split at ha' <;> simpa using ha'
    show (X.els.drop lo).take (hi - lo) = []
    rw [r4 this]; simp
  · have ha' : (if X.cap = lo then X.a else X.a.map (·.add (lo * GT.sz τ))) = some a := ha
    by_cases hcl : X.cap = lo
    · have he : (X.els.drop lo).take (hi - lo) = [] := by rw [List.drop_of_length_le (by omega)]; simp
      refine ⟨fun hne => (hne he).elim, fun j v hv => ?_⟩
      have hv' : (rowCells ((X.els.drop lo).take (hi - lo)))[j]? = some v := hv
      rw [he] at hv'
      simp [rowCells] at hv'
    · rw [if_neg hcl] at ha'
      obtain ⟨a0, h3, h4⟩ := Option.map_eq_some_iff.1 ha'
      obtain ⟨r6, r7⟩ := r5 a0 h3
      have hspot : (X.els.drop lo).take (hi - lo) ≠ [] → a0.spot = none := fun hne => r6 (fun e => hne (by rw [e]; simp))
      have hadd : a0.spot = none → a0.add (lo * GT.sz τ) = ⟨a0.block, a0.off + lo * GT.sz τ, none⟩ := fun hs => by
        obtain ⟨b, o, s⟩ := a0
        have hs' : s = none := hs
        subst hs'
        rw [addr_add]
      refine ⟨fun hne => ?_, fun j v hv => ?_⟩
      · rw [← h4, hadd (hspot hne)]
      · have hv' : (rowCells ((X.els.drop lo).take (hi - lo)))[j]? = some v := hv
        have hne : (X.els.drop lo).take (hi - lo) ≠ [] := fun e => by rw [e] at hv'; simp [rowCells] at hv'
        rw [← h4, hadd (hspot hne)]
        have hrow : rowCells X.els = rowCells (X.els.take lo) ++ (rowCells ((X.els.drop lo).take (hi - lo)) ++ rowCells ((X.els.drop lo).drop (hi - lo))) := by
          rw [← rowCells_append, ← rowCells_append, List.take_append_drop, List.take_append_drop]
        have hl : (rowCells (X.els.take lo)).length = lo * GT.sz τ := by rw [length_rowCells, List.length_take, Nat.min_eq_left (by omega)]
        have := r7 (lo * GT.sz τ + j) v (by
          rw [hrow, List.getElem?_append_right (by omega), hl, Nat.add_sub_cancel_left, List.getElem?_append_left (List.getElem?_eq_some_iff.1 hv').1]; exact hv')
        rw [show a0.off + lo * GT.sz τ + j = a0.off + (lo * GT.sz τ + j) by omega]; exact this
theorem RdT.slc {X : TL τ} {lo hi : Nat} (h : RdT Γ M X) (h1 : lo ≤ hi) (h2 : hi ≤ X.els.length) : RdT Γ M (slc X lo hi) := fun w hw => slc_rd (h w hw) h1 h2
def slcP {δ : Type} (l : List δ) (a b : Int) : Option (List δ) := if 0 ≤ a ∧ a ≤ b ∧ b ≤ l.length then some ((l.drop a.toNat).take (b.toNat - a.toNat)) else none
def optI (l : Envl) (x : Option Operand) (n : Int) : Option Int := match x with
  | none => some n
  | some o => match ev l o with | some (.int _ i) => some i | _ => none
theorem optI_some {o : Operand} {n i : Int} (h : optI l (some o) n = some i) : ∃ k, ev l o = some (.int k i) := by
  unfold optI at h
  dsimp only at h
  split at h
  · cases h; exact ⟨_, by assumption⟩
  · cases h
theorem run_sliceBound {P : Program} {k : IntKind} {i : Int} {y : Nat} {code : BoundsCode} (h0 : 0 ≤ i) (h1 : i ≤ (y : Int)) (w : World) : (Instr.sliceBound (.int k i) y code).run P w = .ok i.toNat w := by
  simp [Instr.sliceBound, asIntOf, h0, h1]
theorem L_slc {x : Operand} {lo hi : Option Operand} {T e sz by_ : Nat} {z : List Value} {X : TL τ} {a b : Int} {r : List δ} (hn : Nat.blt d Γ.n = true) (hx : ev l x = some X.hdr) (hlo : optI l lo 0 = some a) (hhi : optI l hi ((GT.dat X).length : Int) = some b)
    (ht : elOf Γ.P T = some (e, sz, by_, z)) (hsz : GT.sz τ = sz) (hR : RdT Γ M X) (hr : slcP (GT.dat X) a b = some r)
    (hk : ∀ X' : TL τ, GT.dat X' = r → (∀ w S, GT.rd w S X → GT.rd w S X') → L Γ rest ((d, X'.hdr) :: l) M K) :
    L Γ ({ dst := some d, op := .slice T x lo hi none, type := ty, pos := pos, after := af, guard := none } :: rest) l M K := by
  unfold slcP at hr
  split at hr
  · rename_i hb
    cases hr
    rw [dat_els, List.length_map] at hb hhi
    obtain ⟨h0, h1, h2⟩ := hb
    have h1' : a.toNat ≤ b.toNat := by omega
    have h2' : b.toNat ≤ X.els.length := by omega
    refine L_pure hn (v := (slc X a.toNat b.toNat).hdr) (fun a' w ha hw => ?_) (hk (slc X a.toNat b.toNat) (by rw [dat_els, dat_els]; simp [slc, List.map_take, List.map_drop]) (fun w S h => slc_rd h h1' h2'))
    have hcap : X.els.length ≤ X.cap := (hR w hw.sees).1
    unfold elOf at ht
    split at ht <;> (try cases ht)
    rename_i e' het
    split at ht <;> (try cases ht)
    rename_i i' hi'
    split at ht <;> cases ht
    have hlen : ((X.els.drop a.toNat).take (b.toNat - a.toNat)).length = b.toNat - a.toNat := by simp; omega
    have hv : (slc X a.toNat b.toNat).hdr = .slice (if X.cap = a.toNat then X.a else X.a.map (·.add (a.toNat * i'.size))) (b.toNat - a.toNat) (X.cap - a.toNat) := by
      show Value.slice _ ((X.els.drop a.toNat).take (b.toNat - a.toNat)).length _ = _
      rw [hlen]; simp only [slc, hsz]
    rw [hv]
    have e1 : a'.eval x = .slice X.a X.els.length X.cap := ha.eval hx
    cases lo with
    | none =>
      cases hlo
      cases hi with
      | none =>
        cases hhi
        simp only [execOp, Option.map_none, e1, Instr.sliceAt, Instr.slice, underlying, Sem.run_bind, run_program, Result.andThen_ok, het, Instr.sliceBounds, Sem.run_pure, sizeOf, typeInfo, hi']
        simp
      | some o =>
        obtain ⟨k, h5⟩ := optI_some hhi
        have e2 := ha.eval h5
        have e4 := fun w => run_sliceBound (P := Γ.P) (k := k) (code := .sliceAcap) (show 0 ≤ b by omega) (show b ≤ ((X.cap : Nat) : Int) by omega) w
        simp [execOp, e1, e2, Instr.sliceAt, Instr.slice, underlying, het, Instr.sliceBounds, sizeOf, typeInfo, hi', e4]
    | some o1 =>
      obtain ⟨k1, h6⟩ := optI_some hlo
      have e3 := ha.eval h6
      cases hi with
      | none =>
        cases hhi
        have e4 := fun w => run_sliceBound (P := Γ.P) (k := k1) (code := .sliceB) h0 (show a ≤ ((X.els.length : Nat) : Int) by omega) w
        simp [execOp, e1, e3, Instr.sliceAt, Instr.slice, underlying, het, Instr.sliceBounds, sizeOf, typeInfo, hi', e4]
      | some o =>
        obtain ⟨k, h5⟩ := optI_some hhi
        have e2 := ha.eval h5
        have e4 := fun w => run_sliceBound (P := Γ.P) (k := k) (code := .sliceAcap) (show 0 ≤ b by omega) (show b ≤ ((X.cap : Nat) : Int) by omega) w
        have e5 := fun w => run_sliceBound (P := Γ.P) (k := k1) (code := .sliceB) h0 (show a ≤ ((b.toNat : Nat) : Int) by omega) w
        simp [execOp, e1, e2, e3, Instr.sliceAt, Instr.slice, underlying, het, Instr.sliceBounds, sizeOf, typeInfo, hi', e4, e5]
  · cases hr
end
/-! Slices of strings -/
def sslP (s : ByteArray) (a b : Int) : Option ByteArray := if 0 ≤ a ∧ a ≤ b ∧ b ≤ s.size then some (s.extract a.toNat b.toNat) else none
theorem run_sslP {P : Program} {T : TypeId} {s r : ByteArray} {k k' : IntKind} {a b : Int} (ht : isStr P T = true) (hr : sslP s a b = some r) (w : World) :
    (Instr.slice T (.string s) (some (.int k a)) (some (.int k' b)) none).run P w = .ok (.string r) w := by
  have h2 : P.underlying T = some .string := by unfold isStr at ht; split at ht <;> simp_all
  unfold sslP at hr
  split at hr
  · rename_i hb
    cases hr
    have e1 := fun w => run_sliceBound (P := P) (k := k') (code := .sliceAlen) (show 0 ≤ b by omega) (show b ≤ ((s.size : Nat) : Int) by omega) w
    have e2 := fun w => run_sliceBound (P := P) (k := k) (code := .sliceB) hb.1 (show a ≤ ((b.toNat : Nat) : Int) by omega) w
    simp [Instr.slice, underlying, h2, Instr.sliceBounds, e1, e2]
  · cases hr
end Go.Proofs.SL
