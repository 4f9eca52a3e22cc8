/- THE STATEMENT Rows.FnExactENodeRecoverSaid: the law FnExactENodeRecover answers true at every input and leaves its arguments as they were. -/
import Derived.Test.YtkfgjljahhgooaaGreatRows
import Derived.ProofKit
import Derived.OpenShut
import Derived.ShutString
import Derived.ChangeOld
import Derived.Carry
import Derived.Below
import Derived.Test.YtkfgjljahhgooaaGreatT18
namespace Go.Proofs.YtkfgjljahhgooaaGreat
open Go.ChangeShapes Go.WideShapes Go.ChangeAt Go.RowKit Go.Proofs.SL
set_option linter.unusedVariables false
theorem und3 : Tryz.prog.underlying 3 = some (.int .i64) := by kernel_rfl
theorem opn3 : Opn Tryz.prog 3 Int := Opn.int und3
theorem und53 : Tryz.prog.underlying 53 = some (.slice 142) := by kernel_rfl
theorem opn57 : Opn Tryz.prog 57 T_Id := Opn.struct Tryz.underlying57 (by kernel_rfl) (OpnFs.cons rfl (by kernel_rfl) opn3 (OpnFs.one rfl (by kernel_rfl) opn3))
theorem und9 : Tryz.prog.underlying 9 = some (.string) := by kernel_rfl
theorem opn9 : Opn Tryz.prog 9 ByteArray := Opn.str und9
theorem und30 : Tryz.prog.underlying 30 = some (.slice 9) := by kernel_rfl
theorem opn30 : Opn Tryz.prog 30 (TL ByteArray) := Opn.slice und30 (by kernel_rfl) opn9
theorem opn65 : Opn Tryz.prog 65 T_Cmd := Opn.struct Tryz.underlying65 (by kernel_rfl) (OpnFs.cons rfl (by kernel_rfl) opn3 (OpnFs.cons rfl (by kernel_rfl) opn3 (OpnFs.cons rfl (by kernel_rfl) opn3 (OpnFs.cons rfl (by kernel_rfl) opn9 (OpnFs.cons rfl (by kernel_rfl) opn9 (OpnFs.cons rfl (by kernel_rfl) opn9 (OpnFs.cons rfl (by kernel_rfl) opn3 (OpnFs.one rfl (by kernel_rfl) opn30))))))))
theorem und140 : Tryz.prog.underlying 140 = some (.slice 57) := by kernel_rfl
theorem opn140 : Opn Tryz.prog 140 (TL T_Id) := Opn.slice und140 (by kernel_rfl) opn57
theorem und4 : Tryz.prog.underlying 4 = some (.bool) := by kernel_rfl
theorem opn4 : Opn Tryz.prog 4 Bool := Opn.bool und4
theorem opn142 : Opn Tryz.prog 142 T_Inst := Opn.struct Tryz.underlying142 (by kernel_rfl) (OpnFs.cons rfl (by kernel_rfl) opn57 (OpnFs.cons rfl (by kernel_rfl) opn3 (OpnFs.cons rfl (by kernel_rfl) opn3 (OpnFs.cons rfl (by kernel_rfl) opn3 (OpnFs.cons rfl (by kernel_rfl) opn65 (OpnFs.cons rfl (by kernel_rfl) opn3 (OpnFs.cons rfl (by kernel_rfl) opn140 (OpnFs.one rfl (by kernel_rfl) opn4))))))))
theorem opn53 : Opn Tryz.prog 53 (TL T_Inst) := Opn.slice und53 (by kernel_rfl) opn142
theorem und54 : Tryz.prog.underlying 54 = some (.slice 145) := by kernel_rfl
theorem und87 : Tryz.prog.underlying 87 = some (.slice 3) := by kernel_rfl
theorem opn87 : Opn Tryz.prog 87 (TL Int) := Opn.slice und87 (by kernel_rfl) opn3
theorem opn145 : Opn Tryz.prog 145 T_Lead := Opn.struct Tryz.underlying145 (by kernel_rfl) (OpnFs.cons rfl (by kernel_rfl) opn57 (OpnFs.cons rfl (by kernel_rfl) opn3 (OpnFs.cons rfl (by kernel_rfl) opn3 (OpnFs.cons rfl (by kernel_rfl) opn3 (OpnFs.cons rfl (by kernel_rfl) opn140 (OpnFs.cons rfl (by kernel_rfl) opn87 (OpnFs.one rfl (by kernel_rfl) opn4)))))))
theorem opn54 : Opn Tryz.prog 54 (TL T_Lead) := Opn.slice und54 (by kernel_rfl) opn145
theorem opn56 : Opn Tryz.prog 56 T_ENode := Opn.struct Tryz.underlying56 (by kernel_rfl) (OpnFs.cons rfl (by kernel_rfl) opn3 (OpnFs.cons rfl (by kernel_rfl) opn3 (OpnFs.cons rfl (by kernel_rfl) opn53 (OpnFs.one rfl (by kernel_rfl) opn54))))
theorem own : ownKnob Tryz.prog.godebug = none := by kernel_rfl
theorem laidOut : laidOutB Tryz.prog = true := by kernel_rfl
set_option maxRecDepth 100000 in
theorem lifted (os : Os) (started : os.Started) (H : Type) (enc : TypeId × Value → H) :
    ReturnsInHanded {} Tryz.checked os 4 .any (Rows.fnExactENodeRecoverSpec.pre6 enc Tryz.prog Tryz.f4 Rows.fnExactENodeRecoverRow.domain false) (Rows.fnExactENodeRecoverSpec.post enc Tryz.prog Tryz.f4 false true false false) := by
  refine returnsInHanded_of_change (C := Tryz.checked) own started (by kernel_rfl) Tryz.func4
    (ChangeSpec.witness6 (enc := enc) (C := Tryz.checked) false ⟨#[], #[.agg #[.int .i64 0, .int .i64 0, .slice none 0 0, .slice none 0 0], .agg #[.int .i64 0, .int .i64 0]], []⟩ 8 (by kernel_rfl) (by kernel_rfl) (by kernel_rfl) (by kernel_rfl)) ?_
  intro W base args ds gs before hval0 hW hcnd _
  have hval : ∀ (j : Nat) t v, Tryz.f4.params[j]? = some t → args[j]? = some v → Value.okWide Tryz.prog W .any base t v := hval0
  have hW' := hW
  obtain ⟨p, q, hA0, hV, rfl, hfz, hnd⟩ := hW
  have hA : DataW.TrodAll enc Tryz.prog W 0 (fun _ => true) true Tryz.f4.params.toList args.toList ds p := hA0
  rw [Tryz.params4] at hA hval
  obtain ⟨v0, vs0, d0, ds0, p0, q0, hargs, rfl, rfl, h0, r0⟩ := trodAll_cons hA
  obtain ⟨v1, vs1, d1, ds1, p1, q1, rfl, rfl, rfl, h1, r1⟩ := trodAll_cons r0
  obtain ⟨rfl, rfl, rfl⟩ := trodAll_nil r1
  obtain rfl : args = #[v0, v1] := by cases args; simp_all
  obtain ⟨rfl, rfl⟩ := trodVars_none hV
  have k0 := h0
  have lt0 : ∀ x ∈ p0, x.block < W.heap.size := by obtain ⟨m, hm⟩ := k0; exact DataW.trod_lt m _ _ _ hm
  obtain ⟨t0, hc0, g0, o0⟩ : ∃ t : T_ENode, v0.cells.toList = GT.cells t ∧ GT.rd W [] t ∧ Ok.ok (GT.dat t) := by obtain ⟨m, hm⟩ := h0; exact opn56 enc W _ _ m _ _ hm
  obtain ⟨xs0, rfl, _⟩ := okWide_struct Tryz.underlying56 (hval 0 56 v0 rfl rfl)
  obtain rfl : xs0 = (GT.cells t0).toArray := by rw [← hc0]; simp [Value.cells]
  have k1 := h1
  have lt1 : ∀ x ∈ p1, x.block < W.heap.size := by obtain ⟨m, hm⟩ := k1; exact DataW.trod_lt m _ _ _ hm
  obtain ⟨t1, hc1, g1, o1⟩ : ∃ t : T_Id, v1.cells.toList = GT.cells t ∧ GT.rd W [] t ∧ Ok.ok (GT.dat t) := by obtain ⟨m, hm⟩ := h1; exact opn57 enc W _ _ m _ _ hm
  obtain ⟨xs1, rfl, _⟩ := okWide_struct Tryz.underlying57 (hval 1 57 v1 rfl rfl)
  obtain rfl : xs1 = (GT.cells t1).toArray := by rw [← hc1]; simp [Value.cells]
  clear hA0 hval0
  refine (Spec.top (lawFnExactENodeRecover W t0 t1 g0 g1 o0 o1)).mono fun e W' ⟨v, M', he, ⟨hv, _⟩, bel⟩ => ?_
  subst he; subst hv
  exact ⟨_, rfl, _, _, _, [], _, [], hW', trodAll_mk1 (shut_bool Tryz.underlying4 _), (trodAll_cons_mk (Below.trod laidOut (by kernel_rfl) (of_decide_eq_true (by kernel_rfl)) k0 bel lt0) (trodAll_cons_mk (Below.trod laidOut (by kernel_rfl) (of_decide_eq_true (by kernel_rfl)) k1 bel lt1) trodAll_mk0)), rfl, bel.frame _, fun h => by cases h⟩

theorem gMaps : mapsRowed Tryz.prog = true := by kernel_rfl
theorem gIn : (Rows.fnExactENodeRecoverRow.inPlace == Tryz.prog.inPlace 4) = true := by kernel_rfl
theorem gUn : (Rows.fnExactENodeRecoverRow.unfollowed == Tryz.prog.unfollowed 4) = true := by kernel_rfl
theorem gRec : (Rows.fnExactENodeRecoverRow.recurses == Tryz.prog.recurses 4) = true := by kernel_rfl
theorem gNam : (Rows.fnExactENodeRecoverRow.named == Tryz.prog.varsNamed 4) = true := by kernel_rfl
theorem gHeard : Tryz.prog.stopsHeard = true := by kernel_rfl
theorem gEnter : Tryz.prog.mayEnter = true := by kernel_rfl
theorem gLift : (Rows.fnExactENodeRecoverRow.lifted == Tryz.prog.liftsFinal) = true := by kernel_rfl
theorem gKeys : (Rows.fnExactENodeRecoverRow.plainKeys == Tryz.prog.plainKeys) = true := by kernel_rfl
theorem gName : Tryz.prog.funcNamed Rows.fnExactENodeRecoverRow.func = some 4 := by kernel_rfl
theorem closed : joinedFacts Tryz.prog 4 Tryz.f4 Rows.fnExactENodeRecoverSpec Rows.fnExactENodeRecoverRow = true := by
  unfold joinedFacts
  rw [laidOut, gMaps, gIn, gUn, gRec, gNam, gHeard, gEnter, gLift, gKeys]
  kernel_rfl
theorem over : Rows.fnExactENodeRecoverRow.holds Tryz.pinned (OpenSpec.ofChange Rows.fnExactENodeRecoverSpec) :=
  OpenClaim.holds_of_wide 4 Tryz.f4 rfl rfl rfl rfl rfl rfl rfl ⟨rfl, rfl, rfl, rfl, rfl⟩ rfl rfl rfl rfl rfl gName Tryz.func4 closed
    (of_decide_eq_true (by kernel_rfl)) (by unfold Func.isWrapper; first | (rw [if_pos (by decide +kernel)]; kernel_rfl) | (rw [if_neg (by decide +kernel)]; exact ⟨rfl, rfl⟩))
    (fun os started H enc _ => lifted os started H enc)

theorem fnExactENodeRecover_holds : Rows.FnExactENodeRecoverSaid := over
end Go.Proofs.YtkfgjljahhgooaaGreat
