/- THE STATEMENT Rows.FnExactSessEndSaid: the law FnExactSessEnd answers true at every input and leaves its arguments as they were. -/
import Derived.Test.YtkfdcccpphhofaaLSessEnd
import Derived.Test.YtkfdcccpphhofaaRows
import Derived.ProofKit
import Derived.OpenShut
import Derived.ShutString
import Derived.ChangeOld
import Derived.Carry
import Derived.Below
namespace Go.Proofs.Ytkfdcccpphhofaa
open Go.ChangeShapes Go.WideShapes Go.ChangeAt Go.RowKit Go.Proofs.SL
set_option linter.unusedVariables false
theorem opn3 : Opn Try.prog 3 Int := Opn.int und3
theorem und22 : Try.prog.underlying 22 = some (.slice 159) := by kernel_rfl
theorem und38 : Try.prog.underlying 38 = some (.slice 9) := by kernel_rfl
theorem opn9 : Opn Try.prog 9 ByteArray := Opn.str und9
theorem opn38 : Opn Try.prog 38 (TL ByteArray) := Opn.slice und38 (by kernel_rfl) opn9
theorem opn159 : Opn Try.prog 159 T_Sess := Opn.struct Try.underlying159 (by kernel_rfl) (OpnFs.cons rfl (by kernel_rfl) opn3 (OpnFs.cons rfl (by kernel_rfl) opn3 (OpnFs.cons rfl (by kernel_rfl) opn3 (OpnFs.one rfl (by kernel_rfl) opn38))))
theorem opn22 : Opn Try.prog 22 (TL T_Sess) := Opn.slice und22 (by kernel_rfl) opn159
theorem opn24 : Opn Try.prog 24 T_Desks := Opn.struct Try.underlying24 (by kernel_rfl) (OpnFs.cons rfl (by kernel_rfl) opn3 (OpnFs.cons rfl (by kernel_rfl) opn3 (OpnFs.one rfl (by kernel_rfl) opn22)))
theorem own : ownKnob Try.prog.godebug = none := by kernel_rfl
theorem laidOut : laidOutB Try.prog = true := by kernel_rfl
set_option maxRecDepth 100000 in
theorem lifted (os : Os) (started : os.Started) (H : Type) (enc : TypeId × Value → H) :
    ReturnsInHanded {} Try.checked os 6 .any (Rows.fnExactSessEndSpec.pre6 enc Try.prog Try.f6 Rows.fnExactSessEndRow.domain false) (Rows.fnExactSessEndSpec.post enc Try.prog Try.f6 false true false false) := by
  refine returnsInHanded_of_change (C := Try.checked) own started (by kernel_rfl) Try.func6
    (ChangeSpec.witness6 (enc := enc) (C := Try.checked) false ⟨#[], #[.agg #[.int .i64 0, .int .i64 0, .slice none 0 0], .int .i64 0], []⟩ 8 (by kernel_rfl) (by kernel_rfl) (by kernel_rfl) (by kernel_rfl)) ?_
  intro W base args ds gs before hval0 hW hcnd _
  have hval : ∀ (j : Nat) t v, Try.f6.params[j]? = some t → args[j]? = some v → Value.okWide Try.prog W .any base t v := hval0
  have hW' := hW
  obtain ⟨p, q, hA0, hV, rfl, hfz, hnd⟩ := hW
  have hA : DataW.TrodAll enc Try.prog W 0 (fun _ => true) true Try.f6.params.toList args.toList ds p := hA0
  rw [Try.params6] at hA hval
  obtain ⟨v0, vs0, d0, ds0, p0, q0, hargs, rfl, rfl, h0, r0⟩ := trodAll_cons hA
  obtain ⟨v1, vs1, d1, ds1, p1, q1, rfl, rfl, rfl, h1, r1⟩ := trodAll_cons r0
  obtain ⟨rfl, rfl, rfl⟩ := trodAll_nil r1
  obtain rfl : args = #[v0, v1] := by cases args; simp_all
  obtain ⟨rfl, rfl⟩ := trodVars_none hV
  have k0 := h0
  have lt0 : ∀ x ∈ p0, x.block < W.heap.size := by obtain ⟨m, hm⟩ := k0; exact DataW.trod_lt m _ _ _ hm
  obtain ⟨t0, hc0, g0, o0⟩ : ∃ t : T_Desks, v0.cells.toList = GT.cells t ∧ GT.rd W [] t ∧ Ok.ok (GT.dat t) := by obtain ⟨m, hm⟩ := h0; exact opn24 enc W _ _ m _ _ hm
  obtain ⟨xs0, rfl, _⟩ := okWide_struct Try.underlying24 (hval 0 24 v0 rfl rfl)
  obtain rfl : xs0 = (GT.cells t0).toArray := by rw [← hc0]; simp [Value.cells]
  have k1 := h1
  have lt1 : ∀ x ∈ p1, x.block < W.heap.size := by obtain ⟨m, hm⟩ := k1; exact DataW.trod_lt m _ _ _ hm
  obtain ⟨t1, hc1, g1, o1⟩ : ∃ t : Int, v1.cells.toList = GT.cells t ∧ GT.rd W [] t ∧ Ok.ok (GT.dat t) := by obtain ⟨m, hm⟩ := h1; exact opn3 enc W _ _ m _ _ hm
  obtain ⟨sn1, hv1⟩ := okWide_int Try.underlying3 (hval 1 3 v1 rfl rfl)
  obtain rfl : v1 = .int .i64 t1 := by subst hv1; exact List.head_eq_of_cons_eq hc1
  clear hA0 hval0
  refine (Spec.top (lawFnExactSessEnd W t0 t1 g0 g1 o0 o1)).mono fun e W' ⟨v, M', he, ⟨hv, _⟩, bel⟩ => ?_
  subst he; subst hv
  exact ⟨_, rfl, _, _, _, [], _, [], hW', trodAll_mk1 (shut_bool Try.underlying4 _), (trodAll_cons_mk (Below.trod laidOut (by kernel_rfl) (of_decide_eq_true (by kernel_rfl)) k0 bel lt0) (trodAll_cons_mk (Below.trod laidOut (by kernel_rfl) (of_decide_eq_true (by kernel_rfl)) k1 bel lt1) trodAll_mk0)), rfl, bel.frame _, fun h => by cases h⟩

theorem over : Rows.fnExactSessEndRow.holds Try.pinned (OpenSpec.ofChange Rows.fnExactSessEndSpec) :=
  OpenClaim.holds_of_wide 6 Try.f6 rfl rfl rfl rfl rfl rfl rfl ⟨rfl, rfl, rfl, rfl, rfl⟩ rfl rfl rfl rfl rfl (by kernel_rfl) Try.func6 (by kernel_rfl)
    (of_decide_eq_true (by kernel_rfl)) (by unfold Func.isWrapper; first | (rw [if_pos (by decide +kernel)]; kernel_rfl) | (rw [if_neg (by decide +kernel)]; exact ⟨rfl, rfl⟩))
    (fun os started H enc _ => lifted os started H enc)

theorem fnExactSessEnd_holds : Rows.FnExactSessEndSaid := over
end Go.Proofs.Ytkfdcccpphhofaa
