/- Elements that own, handed on by append. -/
import Derived.Test.YthebgoognabinaaBaseP
namespace Go.Proofs.SL
open Go

variable {Γ : Cx} {l : Envl} {M M' M1 M2 F : List HP} {Q : Post} {K : Kont} {w0 w : World} {S0 : List Nat} {P : Program}
variable {rest : List Oper} {d : Nat} {ty : TypeId} {pos : String} {af : Array Edge}
section
variable {τ δ : Type} [GT τ δ]
theorem L_slM {x : Operand} {lo hi : Option Operand} {T e sz by_ : Nat} {z : List Value} {X : TL τ} {a b : Int} {r : List δ} (hn : Nat.blt d Γ.n = true) (hx : ev l x = some X.hdr) (hlo : optI l lo 0 = some a) (hhi : optI l hi ((GT.dat X).length : Int) = some b)
    (ht : elOf Γ.P T = some (e, sz, by_, z)) (hsz : GT.sz τ = sz) (hm : rowH X ∈ M) (hr : slcP (GT.dat X) a b = some r)
    (hk : ∀ X' : TL τ, GT.dat X' = r → X' = slc X a.toNat b.toNat → L Γ rest ((d, X'.hdr) :: l) M K) :
    L Γ ({ dst := some d, op := .slice T x lo hi none, type := ty, pos := pos, after := af, guard := none } :: rest) l M K := by
  unfold slcP at hr
  split at hr
  · rename_i hb
    cases hr
    rw [dat_els, List.length_map] at hb hhi
    obtain ⟨h0, h1, h2⟩ := hb
    have h1' : a.toNat ≤ b.toNat := by omega
    have h2' : b.toNat ≤ X.els.length := by omega
    refine L_pure hn (v := (slc X a.toNat b.toNat).hdr) (fun a' w ha hw => ?_) (hk (slc X a.toNat b.toNat) (by rw [dat_els, dat_els]; simp [slc, List.map_take, List.map_drop]) rfl)
    have hcap : X.els.length ≤ X.cap := (hw.prs _ hm).1
    unfold elOf at ht
    split at ht <;> (try cases ht)
    rename_i e' het
    split at ht <;> (try cases ht)
    rename_i i' hi'
    split at ht <;> cases ht
    have hlen : ((X.els.drop a.toNat).take (b.toNat - a.toNat)).length = b.toNat - a.toNat := by simp; omega
    have hv : (slc X a.toNat b.toNat).hdr = .slice (if X.cap = a.toNat then X.a else X.a.map (·.add (a.toNat * i'.size))) (b.toNat - a.toNat) (X.cap - a.toNat) := by
      show Value.slice _ ((X.els.drop a.toNat).take (b.toNat - a.toNat)).length _ = _
      rw [hlen]; simp only [slc, hsz]
    rw [hv]
    have e1 : a'.eval x = .slice X.a X.els.length X.cap := ha.eval hx
    cases lo with
    | none =>
      cases hlo
      cases hi with
      | none =>
        cases hhi
        simp only [execOp, Option.map_none, e1, Instr.sliceAt, Instr.slice, underlying, Sem.run_bind, run_program, Result.andThen_ok, het, Instr.sliceBounds, Sem.run_pure, sizeOf, typeInfo, hi']
        simp
      | some o =>
        obtain ⟨k, h5⟩ := optI_some hhi
        have e2 := ha.eval h5
        have e4 := fun w => run_sliceBound (P := Γ.P) (k := k) (code := .sliceAcap) (show 0 ≤ b by omega) (show b ≤ ((X.cap : Nat) : Int) by omega) w
        simp [execOp, e1, e2, Instr.sliceAt, Instr.slice, underlying, het, Instr.sliceBounds, sizeOf, typeInfo, hi', e4]
    | some o1 =>
      obtain ⟨k1, h6⟩ := optI_some hlo
      have e3 := ha.eval h6
      cases hi with
      | none =>
        cases hhi
        have e4 := fun w => run_sliceBound (P := Γ.P) (k := k1) (code := .sliceB) h0 (show a ≤ ((X.els.length : Nat) : Int) by omega) w
        simp [execOp, e1, e3, Instr.sliceAt, Instr.slice, underlying, het, Instr.sliceBounds, sizeOf, typeInfo, hi', e4]
      | some o =>
        obtain ⟨k, h5⟩ := optI_some hhi
        have e2 := ha.eval h5
        have e4 := fun w => run_sliceBound (P := Γ.P) (k := k) (code := .sliceAcap) (show 0 ≤ b by omega) (show b ≤ ((X.cap : Nat) : Int) by omega) w
        have e5 := fun w => run_sliceBound (P := Γ.P) (k := k1) (code := .sliceB) h0 (show a ≤ ((b.toNat : Nat) : Int) by omega) w
        simp [execOp, e1, e2, e3, Instr.sliceAt, Instr.slice, underlying, het, Instr.sliceBounds, sizeOf, typeInfo, hi', e4, e5]
  · cases hr

def chkP (b : Bool) : Option Unit := if b then some () else none
theorem chkP_some {b : Bool} {u : Unit} (h : chkP b = some u) : b = true := by
  unfold chkP at h; split at h
  · assumption
  · cases h
theorem slcP_some {α : Type} {l r : List α} {a b : Int} (h : slcP l a b = some r) : 0 ≤ a ∧ a ≤ b ∧ b ≤ l.length ∧ r = (l.drop a.toNat).take (b.toNat - a.toNat) := by
  unfold slcP at h; split at h
  · rename_i hb; cases h; exact ⟨hb.1, hb.2.1, hb.2.2, rfl⟩
  · cases h
theorem els_split2 {xs ys zs us : List τ} (hp : List.Perm xs (us ++ (ys ++ zs))) (h : Holds w0 S0 (elsT xs :: M) w) : Holds w0 S0 (elsT ys :: elsT zs :: M) w := by
  have h2 : Holds w0 S0 (elsT ys :: elsT zs :: elsT us :: M) w := by
    refine h.reFp ?_ fun x hx => ?_
    · simp only [fps_cons]
      show List.Perm (xs.flatMap GT.fp ++ fps M) (ys.flatMap GT.fp ++ (zs.flatMap GT.fp ++ (us.flatMap GT.fp ++ fps M)))
      rw [← List.append_assoc, ← List.append_assoc, ← List.flatMap_append, ← List.flatMap_append]
      exact ((hp.trans List.perm_append_comm).flatMap_right _).append_right _
    · have h3 := h.prs (elsT xs) (List.mem_cons_self ..)
      rcases List.mem_cons.1 hx with rfl | hx
      · exact fun y hy => h3 y (hp.mem_iff.2 (List.mem_append_right _ (List.mem_append_left _ hy)))
      rcases List.mem_cons.1 hx with rfl | hx
      · exact fun y hy => h3 y (hp.mem_iff.2 (List.mem_append_right _ (List.mem_append_right _ hy)))
      rcases List.mem_cons.1 hx with rfl | hx
      · exact fun y hy => h3 y (hp.mem_iff.2 (List.mem_append_left _ hy))
      · exact h.prs _ (List.mem_cons_of_mem _ hx)
  exact h2.sub ⟨[elsT us], by
    refine ((List.perm_append_comm (l₁ := [elsT us]) (l₂ := M)).cons _).cons _⟩
theorem drop_cut (xs : List τ) {k a b : Nat} (h1 : k ≤ a) (h2 : a ≤ b) : xs.drop k = (xs.drop k).take (a - k) ++ ((xs.drop a).take (b - a) ++ xs.drop b) := by
  have e1 : xs.drop a = (xs.drop k).drop (a - k) := by rw [List.drop_drop]; congr 1; omega
  have e2 : xs.drop b = (xs.drop a).drop (b - a) := by rw [List.drop_drop]; congr 1; omega
  rw [e2, List.take_append_drop, e1, List.take_append_drop]
theorem L_appM {s x : Operand} {T e sz by_ k : Nat} {z : List Value} {X V Y : TL τ} {a b : Int} {r r' : List δ} {u : Unit} (hn : Nat.blt d Γ.n = true)
    (hs : ev l s = some X.hdr) (hx : ev l x = some Y.hdr) (ht : elOf Γ.P T = some (e, sz, by_, z)) (hsz : GT.sz τ = sz) (hz : z.length = sz)
    (hp : Pick (treeH X) M M1) (he : Y = slc V a.toNat b.toNat) (hsl : slcP (GT.dat V) a b = some r') (hm : rowH V ∈ M1) (hq : Pick (elsT (V.els.drop k)) M1 M2)
    (hka : chkP (decide (k ≤ a.toNat)) = some u) (hr : appP (GT.dat X) (GT.dat Y) = some r) (hb : by_ ≤ 32768)
    (hk : ∀ X' : TL τ, GT.dat X' = r → L Γ rest ((d, X'.hdr) :: l) (treeH X' :: elsT (V.els.drop b.toNat) :: M2) K) :
    L Γ ({ dst := some d, op := .call { callee := .builtin .append, args := #[s, x], argTypes := #[T, T] }, type := ty, pos, after := af, guard := none } :: rest) l M K := by
  have hka := of_decide_eq_true (chkP_some hka)
  obtain ⟨h1, rfl⟩ := appP_some hr
  obtain ⟨s0, s1, s2, -⟩ := slcP_some hsl
  rw [dat_els, List.length_map] at s2
  have hab : a.toNat ≤ b.toNat := by omega
  have hbl : b.toNat ≤ V.els.length := by omega
  have hye : Y.els = (V.els.drop a.toNat).take (b.toNat - a.toNat) := by rw [he]; rfl
  have hcut := drop_cut V.els hka hab
  rw [← hye] at hcut
  simp only [dat_els, List.length_map] at h1
  cases hya : Y.a with
  | some ad =>
    refine L_appA (ys := Y.els) (M2 := elsT (V.els.drop b.toNat) :: M2) hn hs (by rw [hx]; show some (Value.slice Y.a _ _) = _; rw [hya]) ht hsz hz hp rfl (fun w hw j v hv => ?_) (fun w R h => ?_) h1 hb
      (fun X' h => hk X' (by rw [dat_els, h, List.map_append]; rfl))
    · have hmm : rowH V ∈ M := by
        have := hp.perm.mem_iff (a := rowH V)
        exact this.2 (List.mem_cons_of_mem _ hm)
      obtain ⟨r1, r2, r3, r4⟩ := hw.prs _ hmm
      have hlt : a.toNat < V.els.length := by
        rcases Nat.lt_or_ge a.toNat V.els.length with h | h
        · exact h
        · rw [hye, List.drop_of_length_le h] at hv; simp [rowCells] at hv
      cases hva : V.a with
      | none => have := (r3 hva).1; rw [this] at hlt; simp at hlt
      | some va =>
        obtain ⟨g1, g2, g3, g4⟩ := r4 va hva
        have had : ad = va.add (a.toNat * GT.sz τ) := by
          have : Y.a = some (va.add (a.toNat * GT.sz τ)) := by
            rw [he]; unfold slc
            have hne : ¬ V.cap = a.toNat := by omega
            simp only [if_neg hne, hva]; rfl
          rw [hya] at this; exact Option.some.inj this
        obtain ⟨vb, vo, vs⟩ := va
        have g1 : vs = none := g1
        have g2 : vo = 0 := g2
        subst g1; subst g2
        rw [had]
        have e3 : (Addr.add (Addr.add ⟨vb, 0, none⟩ (a.toNat * GT.sz τ)) j) = ⟨vb, a.toNat * GT.sz τ + j, none⟩ := by rw [addr_add, addr_add, Nat.zero_add]
        rw [e3, cell_of_row _ _ _ _ _ _ g3]
        simp only [List.getElem?_toArray]
        have e4 : (rowCells V.els ++ V.tail)[a.toNat * GT.sz τ + j]? = ((rowCells V.els ++ V.tail).drop (a.toNat * GT.sz τ))[j]? := by rw [List.getElem?_drop]
        rw [e4, row_drop _ _ _ (by omega)]
        have e5 : V.els.drop a.toNat = Y.els ++ V.els.drop b.toNat := by
          have := drop_cut V.els (Nat.le_refl a.toNat) hab
          rw [← hye] at this; simpa using this
        rw [e5, rowCells_append, List.append_assoc, List.getElem?_append_left (List.getElem?_eq_some_iff.1 hv).1]
        exact hv
    · have h2 := h.perm (List.Perm.append_right R hq.perm)
      exact els_split2 (List.Perm.of_eq hcut) h2
  | none =>
    intro ops a' w Q ha hw
    have hm' : rowH V ∈ treeH X :: M1 := List.mem_cons_of_mem _ hm
    have hw1 := hw.perm hp.perm
    obtain ⟨r1, r2, r3, r4⟩ := hw1.prs _ hm'
    have hye0 : Y.els = [] := by
      rcases Nat.lt_or_ge a.toNat V.cap with h | h
      · have hne : ¬ V.cap = a.toNat := by omega
        have : Y.a = V.a.map (·.add (a.toNat * GT.sz τ)) := by rw [he]; unfold slc; simp only [if_neg hne]
        rw [hya] at this
        cases hva : V.a with
        | none => rw [hye, (r3 hva).1]; simp
        | some va => rw [hva] at this; cases this
      · rw [hye, List.drop_of_length_le (by omega)]; simp
    have hk' := hk X (by rw [dat_els Y, hye0]; simp)
    have hr : GT.ow w X := hw1.prs _ (List.mem_cons_self ..)
    refine L_step rfl rfl (Nat.le_of_ble_eq_true hn) (fun a' w ha hw => ⟨w, ?_, ?_⟩) hk' ops a' w Q ha hw
    · have hr : GT.ow w X := (hw.perm hp.perm).prs _ (List.mem_cons_self ..)
      have h3 := append_none (P := Γ.P) (w := w) (a := X.a) (n := X.els.length) (c := X.cap) (c2 := Y.cap) ht hr.1 ty
      have h5 : (Builtin.append_ #[T, T] ty #[X.hdr, .slice none 0 Y.cap]).run Γ.P w = .ok X.hdr w := h3
      have h6 := ha.eval hx
      have h7 : Y.hdr = .slice none 0 Y.cap := by show Value.slice Y.a _ _ = _; rw [hya, hye0]; rfl
      rw [h7] at h6
      generalize X.hdr = uu at *
      simp [execOp, resolve, invoke, builtin, ha.eval hs, h6, h5]
    · have h2 := (hw.perm hp.perm).perm (hq.perm.cons _)
      have h4 := h2.perm (List.Perm.swap _ _ _)
      have h5 := els_split2 (List.Perm.of_eq hcut) h4
      have h6 : Holds Γ.w0 Γ.S0 (elsT Y.els :: treeH X :: elsT (V.els.drop b.toNat) :: M2) w := h5.perm (((List.Perm.swap _ _ _)).cons _)
      exact h6.sub ⟨[elsT Y.els], (List.perm_append_comm (l₁ := [elsT Y.els]) (l₂ := treeH X :: elsT (V.els.drop b.toNat) :: M2))⟩
end
end Go.Proofs.SL
