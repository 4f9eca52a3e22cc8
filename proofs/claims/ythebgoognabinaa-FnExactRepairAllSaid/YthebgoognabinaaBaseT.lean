/- Parts of a slice of one's own: cut short, cleared. -/
import Derived.Test.YthebgoognabinaaBaseS
namespace Go.Proofs.SL
open Go

variable {Γ : Cx} {l : Envl} {M M' M1 M2 F : List HP} {Q : Post} {K : Kont} {w0 w : World} {S0 : List Nat} {P : Program}
variable {rest : List Oper} {d : Nat} {ty : TypeId} {pos : String} {af : Array Edge}
section
variable {τ δ : Type} [GT τ δ]
theorem L_slcE {x : Operand} {lo hi : Option Operand} {T e sz by_ : Nat} {z : List Value} {X : TL τ} {a b : Int} {r : List δ} (hn : Nat.blt d Γ.n = true) (hx : ev l x = some X.hdr) (hlo : optI l lo 0 = some a) (hhi : optI l hi ((GT.dat X).length : Int) = some b)
    (ht : elOf Γ.P T = some (e, sz, by_, z)) (hsz : GT.sz τ = sz) (hR : RdT Γ M X) (hr : slcP (GT.dat X) a b = some r)
    (hk : ∀ X' : TL τ, GT.dat X' = r → X' = slc X a.toNat b.toNat → L Γ rest ((d, X'.hdr) :: l) M K) :
    L Γ ({ dst := some d, op := .slice T x lo hi none, type := ty, pos := pos, after := af, guard := none } :: rest) l M K := by
  unfold slcP at hr
  split at hr
  · rename_i hb
    cases hr
    rw [dat_els, List.length_map] at hb hhi
    obtain ⟨h0, h1, h2⟩ := hb
    have h1' : a.toNat ≤ b.toNat := by omega
    have h2' : b.toNat ≤ X.els.length := by omega
    refine L_pure hn (v := (slc X a.toNat b.toNat).hdr) (fun a' w ha hw => ?_) (hk (slc X a.toNat b.toNat) (by rw [dat_els, dat_els]; simp [slc, List.map_take, List.map_drop]) rfl)
    have hcap : X.els.length ≤ X.cap := (hR w hw.sees).1
    unfold elOf at ht
    split at ht <;> (try cases ht)
    rename_i e' het
    split at ht <;> (try cases ht)
    rename_i i' hi'
    split at ht <;> cases ht
    have hlen : ((X.els.drop a.toNat).take (b.toNat - a.toNat)).length = b.toNat - a.toNat := by simp; omega
    have hv : (slc X a.toNat b.toNat).hdr = .slice (if X.cap = a.toNat then X.a else X.a.map (·.add (a.toNat * i'.size))) (b.toNat - a.toNat) (X.cap - a.toNat) := by
      show Value.slice _ ((X.els.drop a.toNat).take (b.toNat - a.toNat)).length _ = _
      rw [hlen]; simp only [slc, hsz]
    rw [hv]
    have e1 : a'.eval x = .slice X.a X.els.length X.cap := ha.eval hx
    cases lo with
    | none =>
      cases hlo
      cases hi with
      | none =>
        cases hhi
        simp only [execOp, Option.map_none, e1, Instr.sliceAt, Instr.slice, underlying, Sem.run_bind, run_program, Result.andThen_ok, het, Instr.sliceBounds, Sem.run_pure, sizeOf, typeInfo, hi']
        simp
      | some o =>
        obtain ⟨k, h5⟩ := optI_some hhi
        have e2 := ha.eval h5
        have e4 := fun w => run_sliceBound (P := Γ.P) (k := k) (code := .sliceAcap) (show 0 ≤ b by omega) (show b ≤ ((X.cap : Nat) : Int) by omega) w
        simp [execOp, e1, e2, Instr.sliceAt, Instr.slice, underlying, het, Instr.sliceBounds, sizeOf, typeInfo, hi', e4]
    | some o1 =>
      obtain ⟨k1, h6⟩ := optI_some hlo
      have e3 := ha.eval h6
      cases hi with
      | none =>
        cases hhi
        have e4 := fun w => run_sliceBound (P := Γ.P) (k := k1) (code := .sliceB) h0 (show a ≤ ((X.els.length : Nat) : Int) by omega) w
        simp [execOp, e1, e3, Instr.sliceAt, Instr.slice, underlying, het, Instr.sliceBounds, sizeOf, typeInfo, hi', e4]
      | some o =>
        obtain ⟨k, h5⟩ := optI_some hhi
        have e2 := ha.eval h5
        have e4 := fun w => run_sliceBound (P := Γ.P) (k := k) (code := .sliceAcap) (show 0 ≤ b by omega) (show b ≤ ((X.cap : Nat) : Int) by omega) w
        have e5 := fun w => run_sliceBound (P := Γ.P) (k := k1) (code := .sliceB) h0 (show a ≤ ((b.toNat : Nat) : Int) by omega) w
        simp [execOp, e1, e2, e3, Instr.sliceAt, Instr.slice, underlying, het, Instr.sliceBounds, sizeOf, typeInfo, hi', e4, e5]
  · cases hr

theorem slcE_rd {X Y : TL τ} {a b : Int} {r : List δ} (he : Y = slc X a.toNat b.toNat) (hs : slcP (GT.dat X) a b = some r) : ∀ w S, GT.rd w S X → GT.rd w S Y := by
  intro w S h
  obtain ⟨s0, s1, s2, -⟩ := slcP_some hs
  rw [dat_els, List.length_map] at s2
  subst he
  exact slc_rd h (by omega) (by omega)
def trunc (X : TL τ) (b : Nat) : TL τ := ⟨X.a, X.cap, X.e, X.els.take b, rowCells (X.els.drop b) ++ X.tail⟩
theorem trunc_own {X : TL τ} {b : Nat} (hb : b ≤ X.els.length) (p : Pick (treeH X) M M1) (h : Holds w0 S0 M w) : Holds w0 S0 (treeH (trunc X b) :: M1) w := by
  have h1 := tree_row (h.perm p.perm)
  have h2 : Holds w0 S0 (elsT (X.els.take b) :: rowH X :: M1) w := els_sub (zs := X.els.drop b) (List.Perm.of_eq (List.take_append_drop b X.els).symm) (by apply Pick.there; exact Pick.here _) h1
  have h3 := h2.perm (List.Perm.swap _ _ _)
  refine row_tree ?_
  show Holds w0 S0 (rowH (trunc X b) :: elsT (X.els.take b) :: M1) w
  refine h3.reFp (List.Perm.of_eq rfl) fun x hx => ?_
  rcases List.mem_cons.1 hx with rfl | hx
  · obtain ⟨r1, r2, r3, r4⟩ := h3.prs (rowH X) (List.mem_cons_self ..)
    have hl : (X.els.take b).length = b := by rw [List.length_take, Nat.min_eq_left hb]
    refine ⟨by show (X.els.take b).length ≤ X.cap; omega, r2, fun ha => ⟨by show X.els.take b = []; rw [(r3 ha).1]; simp, (r3 ha).2⟩, fun a ha => ?_⟩
    obtain ⟨g1, g2, g3, g4⟩ := r4 a ha
    refine ⟨g1, g2, ?_, ?_⟩
    · show w.heap[a.block]? = some (.cells (rowCells (X.els.take b) ++ (rowCells (X.els.drop b) ++ X.tail)).toArray X.e (0, 0))
      rw [← List.append_assoc, ← rowCells_append, List.take_append_drop]; exact g3
    · show (X.els.take b).length * GT.sz τ + (rowCells (X.els.drop b) ++ X.tail).length = X.cap * GT.sz τ
      rw [List.length_append, length_rowCells, List.length_drop, hl, ← g4, ← Nat.add_assoc, ← Nat.add_mul]
      congr 2; omega
  · exact h3.prs _ (List.mem_cons_of_mem _ hx)
theorem trunc_hdr {X Y : TL τ} {a b : Nat} (he : Y = slc X a b) (ha : a = 0) (hb : b ≤ X.els.length) : (trunc X b).hdr = Y.hdr := by
  subst ha; subst he
  show Value.slice X.a (X.els.take b).length X.cap = Value.slice (if X.cap = 0 then X.a else X.a.map (·.add (0 * GT.sz τ))) ((X.els.drop 0).take (b - 0)).length (X.cap - 0)
  have h2 : X.a.map (fun q : Addr => q.add (0 * GT.sz τ)) = X.a := by
    cases X.a with
    | none => rfl
    | some q => simp [Addr.add]
  rw [h2]; simp
theorem L_trunc {X Y : TL τ} {a b : Int} {r' : List δ} {u : Unit} (he : Y = slc X a.toNat b.toNat) (hsl : slcP (GT.dat X) a b = some r') (h0 : chkP (decide (a = 0)) = some u) (p : Pick (treeH X) M M1)
    (hk : ∀ Z : TL τ, GT.dat Z = GT.dat Y → Z.hdr = Y.hdr → L Γ rest l (treeH Z :: M1) K) : L Γ rest l M K := by
  obtain ⟨s0, s1, s2, -⟩ := slcP_some hsl
  rw [dat_els, List.length_map] at s2
  have h0 : a = 0 := of_decide_eq_true (chkP_some h0)
  refine L_conv (fun w h => trunc_own (b := b.toNat) (by omega) p h) (hk _ ?_ (trunc_hdr he (by omega) (by omega)))
  rw [he, h0, dat_els, dat_els]
  simp [trunc, slc]
theorem W_trunc {c : Code} {X Y : TL τ} {a b : Int} {r' : List δ} {u : Unit} (he : Y = slc X a.toNat b.toNat) (hsl : slcP (GT.dat X) a b = some r') (h0 : chkP (decide (a = 0)) = some u) (p : Pick (treeH X) M M1)
    (hk : ∀ Z : TL τ, GT.dat Z = GT.dat Y → Z.hdr = Y.hdr → W Γ c l (treeH Z :: M1) Q) : W Γ c l M Q := by
  obtain ⟨s0, s1, s2, -⟩ := slcP_some hsl
  rw [dat_els, List.length_map] at s2
  have h0 : a = 0 := of_decide_eq_true (chkP_some h0)
  refine W_conv (fun w h => trunc_own (b := b.toNat) (by omega) p h) (hk _ ?_ (trunc_hdr he (by omega) (by omega)))
  rw [he, h0, dat_els, dat_els]
  simp [trunc, slc]
def clrD {δ : Type} (l : List δ) (a b : Int) (z : δ) : List δ := l.take a.toNat ++ (List.replicate (b.toNat - a.toNat) z ++ l.drop b.toNat)
theorem rowCells_rep (n : Nat) (z0 : τ) : rowCells (List.replicate n z0) = (List.replicate n (GT.cells z0)).flatten := by
  induction n with
  | zero => rfl
  | succ n ih => rw [List.replicate_succ, rowCells_cons, ih, List.replicate_succ, List.flatten_cons]
theorem L_clrV [FlatT τ] {x : Operand} {T e sz by_ : Nat} {z : List Value} {X Y : TL τ} {a b : Int} {r' r : List δ} {u : Unit} (z0 : τ) (hx : ev l x = some Y.hdr) (ht : elOf Γ.P T = some (e, sz, by_, z)) (hz : z.length = sz) (hsz : GT.sz τ = sz) (hz0 : GT.cells z0 = z)
    (p : Pick (treeH X) M M1) (he : Y = slc X a.toNat b.toNat) (hsl : slcP (GT.dat X) a b = some r') (hc : chkP (decide (a < b)) = some u) (hr : some (clrD (GT.dat X) a b (GT.dat z0)) = some r)
    (hk : ∀ X' : TL τ, GT.dat X' = r → X'.hdr = X.hdr → L Γ rest l (treeH X' :: M1) K) :
    L Γ ({ dst := none, op := .call { callee := .builtin .clear, args := #[x], argTypes := #[T] }, type := ty, pos, after := af, guard := none } :: rest) l M K := by
  have hab : a < b := of_decide_eq_true (chkP_some hc)
  obtain ⟨s0, s1, s2, -⟩ := slcP_some hsl
  rw [dat_els, List.length_map] at s2
  have hne : X.els ≠ [] := fun h => by rw [h] at s2; simp at s2; omega
  subst hsz
  refine L_fact (φ := X.a = some ⟨X.g, 0, none⟩ ∧ X.els.length ≤ X.cap ∧ X.cap ≤ maxLen ∧ X.els.length * GT.sz τ + X.tail.length = X.cap * GT.sz τ)
    (fun w h => by obtain ⟨f1, f2, f3, f4, _⟩ := raw_facts ((h.perm p.perm).prs (treeH X) (List.mem_cons_self ..)) hne; exact ⟨f1, f2, f3, f4⟩) (fun ⟨f1, f2, f3, f4⟩ => ?_)
  refine L_conv (fun w h => raw_open hne p h) ?_
  have hyh : Y.hdr = .slice (some ⟨X.g, a.toNat * GT.sz τ, none⟩) (b.toNat - a.toNat) (X.cap - a.toNat) := by
    subst he
    show Value.slice (if X.cap = a.toNat then X.a else X.a.map (·.add (a.toNat * GT.sz τ))) ((X.els.drop a.toNat).take (b.toNat - a.toNat)).length (X.cap - a.toNat) = _
    rw [if_neg (by omega), f1, List.length_take, List.length_drop, Nat.min_eq_left (by omega)]
    simp [addr_add]
  rw [hyh] at hx
  have hcl : (rowCells X.els ++ X.tail).length = X.cap * GT.sz τ := by rw [List.length_append, length_rowCells]; exact f4
  have hseg : a.toNat * GT.sz τ + (b.toNat - a.toNat) * GT.sz τ = b.toNat * GT.sz τ := by rw [← Nat.add_mul]; congr 1; omega
  refine L_clrRaw hx ht hz (fun u hu => by rw [← hz0] at hu; exact GT.one z0 u hu) (.here _) (by rw [hcl, hseg]; exact Nat.mul_le_mul_right _ (by omega)) (by omega) ?_
  generalize hels : X.els.take a.toNat ++ (List.replicate (b.toNat - a.toNat) z0 ++ X.els.drop b.toNat) = els'
  have hlen : els'.length = X.els.length := by
    rw [← hels]; simp only [List.length_append, List.length_take, List.length_replicate, List.length_drop]; omega
  have hcs : (rowCells X.els ++ X.tail).take (a.toNat * GT.sz τ) ++ (List.replicate (b.toNat - a.toNat) z).flatten ++ (rowCells X.els ++ X.tail).drop (a.toNat * GT.sz τ + (b.toNat - a.toNat) * GT.sz τ) = rowCells els' ++ X.tail := by
    rw [hseg, row_take _ _ _ (by omega), row_drop _ _ _ (by omega), ← hels, rowCells_append, rowCells_append, rowCells_rep, hz0]
    simp only [List.append_assoc]
  rw [hcs]
  refine L_conv (M' := treeH (⟨some ⟨X.g, 0, none⟩, X.cap, X.e, els', X.tail⟩ : TL τ) :: M1) (fun w h => ?_) (hk _ ?_ ?_)
  · have h2 : Holds Γ.w0 Γ.S0 (blk X.g (rowCells els' ++ X.tail) X.e :: M1) w := h.sub ⟨[elsT X.els], (List.perm_append_comm (l₁ := [elsT X.els]) (l₂ := M1)).cons _⟩
    have h3 := elsT_flat (xs := els') h2 (fun x _ => FlatT.flat x)
    exact raw_close rfl (by omega) f3 (by rw [hlen]; exact f4) (by apply Pick.there; exact Pick.here _) (.here _) h3
  · have := Option.some.inj hr
    rw [← this, dat_els, dat_els, ← hels]
    simp [clrD, List.map_take, List.map_drop]
  · show Value.slice (some ⟨X.g, 0, none⟩) els'.length X.cap = Value.slice X.a X.els.length X.cap
    rw [hlen, f1]
end
end Go.Proofs.SL
