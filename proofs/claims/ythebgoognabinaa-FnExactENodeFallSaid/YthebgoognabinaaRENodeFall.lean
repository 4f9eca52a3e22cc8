/- THE STATEMENT Rows.FnExactENodeFallSaid: the law FnExactENodeFall answers true at every input and leaves its arguments as they were. -/
import Derived.Test.YthebgoognabinaaLENodeFall
import Derived.Test.YthebgoognabinaaRows
import Derived.ProofKit
import Derived.OpenShut
import Derived.ShutString
import Derived.ChangeOld
import Derived.Carry
import Derived.Below
namespace Go.Proofs.Ythebgoognabinaa
open Go.ChangeShapes Go.WideShapes Go.ChangeAt Go.RowKit Go.Proofs.SL
set_option linter.unusedVariables false
theorem opn3 : Opn Try.prog 3 Int := Opn.int und3
theorem und109 : Try.prog.underlying 109 = some (.slice 259) := by kernel_rfl
theorem opn255 : Opn Try.prog 255 T_Id := Opn.struct Try.underlying255 (by kernel_rfl) (OpnFs.cons rfl (by kernel_rfl) opn3 (OpnFs.one rfl (by kernel_rfl) opn3))
theorem opn9 : Opn Try.prog 9 ByteArray := Opn.str und9
theorem und48 : Try.prog.underlying 48 = some (.slice 9) := by kernel_rfl
theorem opn48 : Opn Try.prog 48 (TL ByteArray) := Opn.slice und48 (by kernel_rfl) opn9
theorem opn256 : Opn Try.prog 256 T_Cmd := Opn.struct Try.underlying256 (by kernel_rfl) (OpnFs.cons rfl (by kernel_rfl) opn3 (OpnFs.cons rfl (by kernel_rfl) opn3 (OpnFs.cons rfl (by kernel_rfl) opn3 (OpnFs.cons rfl (by kernel_rfl) opn9 (OpnFs.cons rfl (by kernel_rfl) opn9 (OpnFs.cons rfl (by kernel_rfl) opn9 (OpnFs.cons rfl (by kernel_rfl) opn3 (OpnFs.one rfl (by kernel_rfl) opn48))))))))
theorem und257 : Try.prog.underlying 257 = some (.slice 255) := by kernel_rfl
theorem opn257 : Opn Try.prog 257 (TL T_Id) := Opn.slice und257 (by kernel_rfl) opn255
theorem opn4 : Opn Try.prog 4 Bool := Opn.bool und4
theorem opn259 : Opn Try.prog 259 T_Inst := Opn.struct Try.underlying259 (by kernel_rfl) (OpnFs.cons rfl (by kernel_rfl) opn255 (OpnFs.cons rfl (by kernel_rfl) opn3 (OpnFs.cons rfl (by kernel_rfl) opn3 (OpnFs.cons rfl (by kernel_rfl) opn3 (OpnFs.cons rfl (by kernel_rfl) opn256 (OpnFs.cons rfl (by kernel_rfl) opn3 (OpnFs.cons rfl (by kernel_rfl) opn257 (OpnFs.one rfl (by kernel_rfl) opn4))))))))
theorem opn109 : Opn Try.prog 109 (TL T_Inst) := Opn.slice und109 (by kernel_rfl) opn259
theorem und110 : Try.prog.underlying 110 = some (.slice 262) := by kernel_rfl
theorem und49 : Try.prog.underlying 49 = some (.slice 3) := by kernel_rfl
theorem opn49 : Opn Try.prog 49 (TL Int) := Opn.slice und49 (by kernel_rfl) opn3
theorem opn262 : Opn Try.prog 262 T_Lead := Opn.struct Try.underlying262 (by kernel_rfl) (OpnFs.cons rfl (by kernel_rfl) opn255 (OpnFs.cons rfl (by kernel_rfl) opn3 (OpnFs.cons rfl (by kernel_rfl) opn3 (OpnFs.cons rfl (by kernel_rfl) opn3 (OpnFs.cons rfl (by kernel_rfl) opn257 (OpnFs.cons rfl (by kernel_rfl) opn49 (OpnFs.one rfl (by kernel_rfl) opn4)))))))
theorem opn110 : Opn Try.prog 110 (TL T_Lead) := Opn.slice und110 (by kernel_rfl) opn262
theorem opn112 : Opn Try.prog 112 T_ENode := Opn.struct Try.underlying112 (by kernel_rfl) (OpnFs.cons rfl (by kernel_rfl) opn3 (OpnFs.cons rfl (by kernel_rfl) opn3 (OpnFs.cons rfl (by kernel_rfl) opn109 (OpnFs.one rfl (by kernel_rfl) opn110))))
theorem own : ownKnob Try.prog.godebug = none := by kernel_rfl
theorem laidOut : laidOutB Try.prog = true := by kernel_rfl
set_option maxRecDepth 100000 in
theorem lifted (os : Os) (started : os.Started) (H : Type) (enc : TypeId × Value → H) :
    ReturnsInHanded {} Try.checked os 12 .any (Rows.fnExactENodeFallSpec.pre6 enc Try.prog Try.f12 Rows.fnExactENodeFallRow.domain false) (Rows.fnExactENodeFallSpec.post enc Try.prog Try.f12 false true false false) := by
  refine returnsInHanded_of_change (C := Try.checked) own started (by kernel_rfl) Try.func12
    (ChangeSpec.witness6 (enc := enc) (C := Try.checked) false ⟨#[], #[.agg #[.int .i64 0, .int .i64 0, .slice none 0 0, .slice none 0 0]], []⟩ 8 (by kernel_rfl) (by kernel_rfl) (by kernel_rfl) (by kernel_rfl)) ?_
  intro W base args ds gs before hval0 hW hcnd _
  have hval : ∀ (j : Nat) t v, Try.f12.params[j]? = some t → args[j]? = some v → Value.okWide Try.prog W .any base t v := hval0
  have hW' := hW
  obtain ⟨p, q, hA0, hV, rfl, hfz, hnd⟩ := hW
  have hA : DataW.TrodAll enc Try.prog W 0 (fun _ => true) true Try.f12.params.toList args.toList ds p := hA0
  rw [Try.params12] at hA hval
  obtain ⟨v0, vs0, d0, ds0, p0, q0, hargs, rfl, rfl, h0, r0⟩ := trodAll_cons hA
  obtain ⟨rfl, rfl, rfl⟩ := trodAll_nil r0
  obtain rfl : args = #[v0] := by cases args; simp_all
  obtain ⟨rfl, rfl⟩ := trodVars_none hV
  have k0 := h0
  have lt0 : ∀ x ∈ p0, x.block < W.heap.size := by obtain ⟨m, hm⟩ := k0; exact DataW.trod_lt m _ _ _ hm
  obtain ⟨t0, hc0, g0, o0⟩ : ∃ t : T_ENode, v0.cells.toList = GT.cells t ∧ GT.rd W [] t ∧ Ok.ok (GT.dat t) := by obtain ⟨m, hm⟩ := h0; exact opn112 enc W _ _ m _ _ hm
  obtain ⟨xs0, rfl, _⟩ := okWide_struct Try.underlying112 (hval 0 112 v0 rfl rfl)
  obtain rfl : xs0 = (GT.cells t0).toArray := by rw [← hc0]; simp [Value.cells]
  clear hA0 hval0
  refine (Spec.top (lawFnExactENodeFall W t0 g0 o0)).mono fun e W' ⟨v, M', he, ⟨hv, _⟩, bel⟩ => ?_
  subst he; subst hv
  exact ⟨_, rfl, _, _, _, [], _, [], hW', trodAll_mk1 (shut_bool Try.underlying4 _), (trodAll_cons_mk (Below.trod laidOut (by kernel_rfl) (of_decide_eq_true (by kernel_rfl)) k0 bel lt0) trodAll_mk0), rfl, bel.frame _, fun h => by cases h⟩

theorem gMaps : mapsRowed Try.prog = true := by kernel_rfl
theorem gIn : (Rows.fnExactENodeFallRow.inPlace == Try.prog.inPlace 12) = true := by kernel_rfl
theorem gUn : (Rows.fnExactENodeFallRow.unfollowed == Try.prog.unfollowed 12) = true := by kernel_rfl
theorem gRec : (Rows.fnExactENodeFallRow.recurses == Try.prog.recurses 12) = true := by kernel_rfl
theorem gNam : (Rows.fnExactENodeFallRow.named == Try.prog.varsNamed 12) = true := by kernel_rfl
theorem gHeard : Try.prog.stopsHeard = true := by kernel_rfl
theorem gEnter : Try.prog.mayEnter = true := by kernel_rfl
theorem gLift : (Rows.fnExactENodeFallRow.lifted == Try.prog.liftsFinal) = true := by kernel_rfl
theorem gKeys : (Rows.fnExactENodeFallRow.plainKeys == Try.prog.plainKeys) = true := by kernel_rfl
theorem gName : Try.prog.funcNamed Rows.fnExactENodeFallRow.func = some 12 := by kernel_rfl
theorem closed : joinedFacts Try.prog 12 Try.f12 Rows.fnExactENodeFallSpec Rows.fnExactENodeFallRow = true := by
  unfold joinedFacts
  rw [laidOut, gMaps, gIn, gUn, gRec, gNam, gHeard, gEnter, gLift, gKeys]
  kernel_rfl
theorem over : Rows.fnExactENodeFallRow.holds Try.pinned (OpenSpec.ofChange Rows.fnExactENodeFallSpec) :=
  OpenClaim.holds_of_wide 12 Try.f12 rfl rfl rfl rfl rfl rfl rfl ⟨rfl, rfl, rfl, rfl, rfl⟩ rfl rfl rfl rfl rfl gName Try.func12 closed
    (of_decide_eq_true (by kernel_rfl)) (by unfold Func.isWrapper; first | (rw [if_pos (by decide +kernel)]; kernel_rfl) | (rw [if_neg (by decide +kernel)]; exact ⟨rfl, rfl⟩))
    (fun os started H enc _ => lifted os started H enc)

theorem fnExactENodeFall_holds : Rows.FnExactENodeFallSaid := over
end Go.Proofs.Ythebgoognabinaa
