/- Small steps that printed walks lean on. -/
import Derived.Test.YthebgoognabinaaBaseK
namespace Go.Proofs.SL
open Go
theorem cells_int (n : Int) : GT.cells n = [.int .i64 n] := rfl
theorem cells_bool (b : Bool) : GT.cells b = [.bool b] := rfl
theorem cells_str (s : ByteArray) : GT.cells s = [.string s] := rfl
theorem cells_TL {τ δ : Type} [GT τ δ] (X : TL τ) : GT.cells X = [X.hdr] := rfl
theorem gnot {b : Bool} (h : b = false) : (!b) = true := by rw [h]; rfl
theorem gand {a b : Bool} (h : a = true) (h2 : b = true) : (a && b) = true := by rw [h, h2]; rfl
theorem allOne {cs : List Value} (h : cs.all Value.oneCell' = true) : ∀ v, v ∈ cs → v.oneCell' = true := List.all_eq_true.1 h
variable {Γ : Cx} {l : Envl} {M M' M1 M2 F : List HP} {Q : Post} {K : Kont} {w0 w : World} {S0 : List Nat}
variable {rest : List Oper} {d : Nat} {ty : TypeId} {pos : String} {af : Array Edge}
theorem RdT.now {τ δ : Type} [GT τ δ] {t : τ} (h : RdT Γ M t) (hw : Holds Γ.w0 Γ.S0 M w) : GT.rd w [] t := h w hw.sees
theorem RdT.nowS {τ δ : Type} [GT τ δ] {t : τ} (h : RdT Γ M t) (hw : Holds Γ.w0 Γ.S0 F w) (hs : ∀ x, x ∈ M → x ∈ F) : GT.rd w [] t := h w (hw.seesSub hs)
theorem addNilT {τ δ : Type} [GT τ δ] (e : TypeId) (h : Holds w0 S0 M w) : Holds w0 S0 (treeH (TL.nil τ e) :: M) w := h.addFlat (flat_nil e)
theorem L_mk0 (τ : Type) {δ : Type} [GT τ δ] {T e sz by_ : Nat} {z : List Value} (hn : Nat.blt d Γ.n = true) (ht : elOf Γ.P T = some (e, sz, by_, z))
    (hk : ∀ X : TL τ, GT.dat X = [] → L Γ rest ((d, X.hdr) :: l) (treeH X :: M) K) :
    L Γ ({ dst := some d, op := .buildSlice T 0 #[], type := ty, pos, after := af, guard := none } :: rest) l M K :=
  L_buildSlice0 τ hn ht (fun b => hk ⟨some ⟨b, 0, none⟩, 0, e, [], []⟩ rfl)
end Go.Proofs.SL
