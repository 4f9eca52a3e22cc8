/- What can be read, across a call that is given parts of memory. -/
import Derived.Test.YthebgoognabinaaBaseO
namespace Go.Proofs.SL
open Go

variable {Γ : Cx} {l : Envl} {M M' M1 M2 F : List HP} {Q : Post} {K : Kont} {w0 w : World} {S0 : List Nat} {P : Program}
variable {rest : List Oper} {d : Nat} {ty : TypeId} {pos : String} {af : Array Edge}

/-- What can be read by a callee that is given M1, while M2 stays behind. -/
def RdX {τ δ : Type} [GT τ δ] (Γ : Cx) (M1 M2 : List HP) (t : τ) : Prop := ∀ w, Holds Γ.w0 Γ.S0 (M1 ++ M2) w → GT.rd w (fps M1) t
section
variable {τ δ : Type} [GT τ δ] {t : τ}
theorem RdX.old (h : GT.rd Γ.w0 Γ.S0 t) : RdX Γ M1 M2 t := fun _ hw => GT.rd_mono h fun _ _ ho => ho.carry hw
theorem RdX.tree (h : treeH t ∈ M2) : RdX Γ M1 M2 t := fun w hw => by
  have ho : GT.ow w t := hw.prs (treeH t) (List.mem_append_right _ h)
  refine GT.ow_rd ho fun k hk hk1 => ?_
  have hnd := hw.nodup
  rw [fps_append] at hnd
  exact (List.nodup_append.1 hnd).2.2 k hk1 k (List.mem_flatMap.2 ⟨_, h, hk⟩) rfl
theorem RdX.fst {α β δ ε : Type} [GT α δ] [GT β ε] {t : α × β} (h : RdX Γ M1 M2 t) : RdX Γ M1 M2 t.1 := fun w hw => (h w hw).1
theorem RdX.snd {α β δ ε : Type} [GT α δ] [GT β ε] {t : α × β} (h : RdX Γ M1 M2 t) : RdX Γ M1 M2 t.2 := fun w hw => (h w hw).2
theorem RdX.of {X : TL τ} {j : Nat} {x : τ} (h : RdX Γ M1 M2 X) (hi : X.els[j]? = some x) : RdX Γ M1 M2 x := fun w hw => (h w hw).2.2.1 x (List.mem_of_getElem? hi)
theorem RdX.pair {α β δ ε : Type} [GT α δ] [GT β ε] {a : α} {b : β} (h1 : RdX Γ M1 M2 a) (h2 : RdX Γ M1 M2 b) : RdX Γ M1 M2 (a, b) := fun w hw => ⟨h1 w hw, h2 w hw⟩
theorem RdX.int {n : Int} : RdX Γ M1 M2 n := fun _ _ => trivial
theorem RdX.bool {n : Bool} : RdX Γ M1 M2 n := fun _ _ => trivial
theorem RdX.str {n : ByteArray} : RdX Γ M1 M2 n := fun _ _ => trivial
theorem RdX.u8 {n : UInt8} : RdX Γ M1 M2 n := fun _ _ => trivial
theorem nil_rd {w : World} {S : List Nat} (e : TypeId) : GT.rd w S (TL.nil τ e) := ⟨Nat.le_refl _, by simp [TL.nil, maxLen], fun x hx => by simp [TL.nil] at hx, fun _ => rfl, fun a ha => by simp [TL.nil] at ha⟩
theorem RdX.nil (e : TypeId) : RdX Γ M1 M2 (TL.nil τ e) := fun _ _ => nil_rd e
theorem RdX.map {α δ' : Type} [GT α δ'] {a : α} (f : ∀ w S, GT.rd w S a → GT.rd w S t) (h : RdX Γ M1 M2 a) : RdX Γ M1 M2 t := fun w hw => f w _ (h w hw)
theorem RdX.map2 {α β δ' ε : Type} [GT α δ'] [GT β ε] {a : α} {b : β} (f : ∀ w S, GT.rd w S a → GT.rd w S b → GT.rd w S t) (h : RdX Γ M1 M2 a) (h2 : RdX Γ M1 M2 b) : RdX Γ M1 M2 t := fun w hw => f w _ (h w hw) (h2 w hw)
theorem RdT.map {α δ' : Type} [GT α δ'] {a : α} (f : ∀ w S, GT.rd w S a → GT.rd w S t) (h : RdT Γ M a) : RdT Γ M t := fun w hw => f w _ (h w hw)
theorem RdT.map2 {α β δ' ε : Type} [GT α δ'] [GT β ε] {a : α} {b : β} (f : ∀ w S, GT.rd w S a → GT.rd w S b → GT.rd w S t) (h : RdT Γ M a) (h2 : RdT Γ M b) : RdT Γ M t := fun w hw => f w _ (h w hw) (h2 w hw)
end
/-- The same, of one world. -/
def RdO {τ δ : Type} [GT τ δ] (w : World) (S : List Nat) (t : τ) : Prop := GT.rd w S t
section
variable {τ δ : Type} [GT τ δ] {t : τ} {S : List Nat}
theorem RdO.old (h : GT.rd w S t) : RdO w S t := h
theorem RdO.fst {α β δ ε : Type} [GT α δ] [GT β ε] {t : α × β} (h : RdO w S t) : RdO w S t.1 := h.1
theorem RdO.snd {α β δ ε : Type} [GT α δ] [GT β ε] {t : α × β} (h : RdO w S t) : RdO w S t.2 := h.2
theorem RdO.of {X : TL τ} {j : Nat} {x : τ} (h : RdO w S X) (hi : X.els[j]? = some x) : RdO w S x := h.2.2.1 x (List.mem_of_getElem? hi)
theorem RdO.pair {α β δ ε : Type} [GT α δ] [GT β ε] {a : α} {b : β} (h1 : RdO w S a) (h2 : RdO w S b) : RdO w S (a, b) := ⟨h1, h2⟩
theorem RdO.int {n : Int} : RdO w S n := trivial
theorem RdO.bool {n : Bool} : RdO w S n := trivial
theorem RdO.str {n : ByteArray} : RdO w S n := trivial
theorem RdO.u8 {n : UInt8} : RdO w S n := trivial
theorem RdO.nil (e : TypeId) : RdO w S (TL.nil τ e) := nil_rd e
theorem RdO.map {α δ' : Type} [GT α δ'] {a : α} (f : ∀ w S, GT.rd w S a → GT.rd w S t) (h : RdO w S a) : RdO w S t := f w _ h
theorem RdO.map2 {α β δ' ε : Type} [GT α δ'] [GT β ε] {a : α} {b : β} (f : ∀ w S, GT.rd w S a → GT.rd w S b → GT.rd w S t) (h : RdO w S a) (h2 : RdO w S b) : RdO w S t := f w _ h h2
end
/-- A call that is given some parts. -/
theorem L_callM {f : Nat} {xs : List Operand} {ats : Array TypeId} {vs : List Value} {R : Value → List HP → Prop} (M1 M2 : List HP)
    (hn : Nat.blt d Γ.n = true) (hf : IsFn Γ.P f) (hx : evs l xs = some vs) (hp : List.Perm M (M1 ++ M2)) (hc : ∀ w, Holds Γ.w0 Γ.S0 (M1 ++ M2) w → Spec Γ.P f vs.toArray w M1 R)
    (hk : ∀ v M', R v M' → L Γ rest ((d, v) :: l) (M' ++ M2) K) : L Γ ({ dst := some d, op := .call { callee := .value (.func f), args := xs.toArray, argTypes := ats }, type := ty, pos := pos, after := af, guard := none } :: rest) l M K :=
  L_call (M1 := M1) (M2 := M2) (R := R) rfl rfl rfl (Nat.le_of_ble_eq_true hn) hf hx hp hc hk
theorem L_callM0 {f : Nat} {xs : List Operand} {ats : Array TypeId} {vs : List Value} {R : Value → List HP → Prop} (M1 M2 : List HP)
    (hf : IsFn Γ.P f) (hx : evs l xs = some vs) (hp : List.Perm M (M1 ++ M2)) (hc : ∀ w, Holds Γ.w0 Γ.S0 (M1 ++ M2) w → Spec Γ.P f vs.toArray w M1 R)
    (hk : ∀ v M', R v M' → L Γ rest l (M' ++ M2) K) : L Γ ({ dst := none, op := .call { callee := .value (.func f), args := xs.toArray, argTypes := ats }, type := ty, pos := pos, after := af, guard := none } :: rest) l M K := fun ops a w Q ha hw hq =>
  wpList_plain rfl fun K' hK' => by
    have hw' := hw.perm hp
    have he : (execOp a.eval { dst := none, op := .call { callee := .value (.func f), args := xs.toArray, argTypes := ats }, type := ty, pos := pos, after := af, guard := none }).run Γ.P w = .ok (.enter f vs.toArray) w := by
      have h1 : execOp a.eval { dst := none, op := .call { callee := .value (.func f), args := xs.toArray, argTypes := ats }, type := ty, pos := pos, after := af, guard := none } = callFunc f (#[] ++ xs.toArray.map a.eval ++ #[]) := by unfold execOp; rfl
      have h2 : (#[] ++ xs.toArray.map a.eval ++ #[] : Array Value) = vs.toArray := by simp [ha.evals xs vs hx]
      rw [h1, h2, hf.run]
    unfold Oper.wp
    rw [he, Oper.upon_enter]
    refine (hc w hw' hw'.split).mono fun e w'' ⟨v, M', h1, h2, h3⟩ => ?_
    subst h1
    exact hK' _ _ (hk v M' h2 ops _ w'' Q (by simpa [Act.put] using ha) (hw'.frame h3) hq)
theorem res0 {P : Program} {fn : Func} {R : Value → List HP → Prop} {M' : List HP} (hr : fn.results = #[]) (hR : R (.tuple #[]) M') (hm : MSub M' M) : retQ P fn w0 S0 R .ret l M :=
  ⟨.tuple #[], M', fun a w ha hw => by
    rw [results_eq, hr]
    simp, hR, hm⟩
theorem res0n {P : Program} {fn : Func} {R : Value → List HP → Prop} {M' : List HP} (hr : fn.results = #[]) (hR : R (.tuple #[]) M') (hm : MSub M' M) : retQ P fn w0 S0 R .normal l M :=
  ⟨.tuple #[], M', fun a w ha hw => by
    rw [results_eq, hr]
    simp, hR, hm⟩
end Go.Proofs.SL
