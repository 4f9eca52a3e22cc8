/- THE STATEMENT Rows.FnExactAlikeSaid: the law FnExactAlike answers true at every input and leaves its arguments as they were. -/
import Derived.Test.YtipncebebegacaaGreatRows
import Derived.ProofKit
import Derived.OpenShut
import Derived.ShutString
import Derived.ChangeOld
import Derived.Carry
import Derived.Below
import Derived.Test.YtipncebebegacaaGreatT25
namespace Go.Proofs.YtipncebebegacaaGreat
open Go.ChangeShapes Go.WideShapes Go.ChangeAt Go.RowKit Go.Proofs.SL
set_option linter.unusedVariables false
theorem und47 : Tryz.prog.underlying 47 = some (.slice 25) := by kernel_rfl
theorem opn3 : Opn Tryz.prog 3 Int := Opn.int und3.h
theorem und22 : Tryz.prog.underlying 22 = some (.slice 102) := by kernel_rfl
theorem opn98 : Opn Tryz.prog 98 T_Id := Opn.struct Tryz.underlying98 (by kernel_rfl) (OpnFs.cons rfl (by kernel_rfl) opn3 (OpnFs.one rfl (by kernel_rfl) opn3))
theorem opn9 : Opn Tryz.prog 9 ByteArray := Opn.str und9.h
theorem und65 : Tryz.prog.underlying 65 = some (.slice 9) := by kernel_rfl
theorem opn65 : Opn Tryz.prog 65 (TL ByteArray) := Opn.slice und65 (by kernel_rfl) opn9
theorem opn99 : Opn Tryz.prog 99 T_Cmd := Opn.struct Tryz.underlying99 (by kernel_rfl) (OpnFs.cons rfl (by kernel_rfl) opn3 (OpnFs.cons rfl (by kernel_rfl) opn3 (OpnFs.cons rfl (by kernel_rfl) opn3 (OpnFs.cons rfl (by kernel_rfl) opn9 (OpnFs.cons rfl (by kernel_rfl) opn9 (OpnFs.cons rfl (by kernel_rfl) opn9 (OpnFs.cons rfl (by kernel_rfl) opn3 (OpnFs.one rfl (by kernel_rfl) opn65))))))))
theorem und100 : Tryz.prog.underlying 100 = some (.slice 98) := by kernel_rfl
theorem opn100 : Opn Tryz.prog 100 (TL T_Id) := Opn.slice und100 (by kernel_rfl) opn98
theorem opn4 : Opn Tryz.prog 4 Bool := Opn.bool und4.h
theorem opn102 : Opn Tryz.prog 102 T_Inst := Opn.struct Tryz.underlying102 (by kernel_rfl) (OpnFs.cons rfl (by kernel_rfl) opn98 (OpnFs.cons rfl (by kernel_rfl) opn3 (OpnFs.cons rfl (by kernel_rfl) opn3 (OpnFs.cons rfl (by kernel_rfl) opn3 (OpnFs.cons rfl (by kernel_rfl) opn99 (OpnFs.cons rfl (by kernel_rfl) opn3 (OpnFs.cons rfl (by kernel_rfl) opn100 (OpnFs.one rfl (by kernel_rfl) opn4))))))))
theorem opn22 : Opn Tryz.prog 22 (TL T_Inst) := Opn.slice und22 (by kernel_rfl) opn102
theorem und23 : Tryz.prog.underlying 23 = some (.slice 106) := by kernel_rfl
theorem und104 : Tryz.prog.underlying 104 = some (.slice 3) := by kernel_rfl
theorem opn104 : Opn Tryz.prog 104 (TL Int) := Opn.slice und104 (by kernel_rfl) opn3
theorem opn106 : Opn Tryz.prog 106 T_Lead := Opn.struct Tryz.underlying106 (by kernel_rfl) (OpnFs.cons rfl (by kernel_rfl) opn98 (OpnFs.cons rfl (by kernel_rfl) opn3 (OpnFs.cons rfl (by kernel_rfl) opn3 (OpnFs.cons rfl (by kernel_rfl) opn3 (OpnFs.cons rfl (by kernel_rfl) opn100 (OpnFs.cons rfl (by kernel_rfl) opn104 (OpnFs.one rfl (by kernel_rfl) opn4)))))))
theorem opn23 : Opn Tryz.prog 23 (TL T_Lead) := Opn.slice und23 (by kernel_rfl) opn106
theorem opn25 : Opn Tryz.prog 25 T_ENode := Opn.struct Tryz.underlying25 (by kernel_rfl) (OpnFs.cons rfl (by kernel_rfl) opn3 (OpnFs.cons rfl (by kernel_rfl) opn3 (OpnFs.cons rfl (by kernel_rfl) opn22 (OpnFs.one rfl (by kernel_rfl) opn23))))
theorem opn47 : Opn Tryz.prog 47 (TL T_ENode) := Opn.slice und47 (by kernel_rfl) opn25
theorem und48 : Tryz.prog.underlying 48 = some (.slice 133) := by kernel_rfl
theorem opn133 : Opn Tryz.prog 133 T_EMsg := Opn.struct Tryz.underlying133 (by kernel_rfl) (OpnFs.cons rfl (by kernel_rfl) opn3 (OpnFs.cons rfl (by kernel_rfl) opn3 (OpnFs.cons rfl (by kernel_rfl) opn3 (OpnFs.cons rfl (by kernel_rfl) opn98 (OpnFs.cons rfl (by kernel_rfl) opn3 (OpnFs.cons rfl (by kernel_rfl) opn99 (OpnFs.cons rfl (by kernel_rfl) opn3 (OpnFs.cons rfl (by kernel_rfl) opn100 (OpnFs.cons rfl (by kernel_rfl) opn3 (OpnFs.cons rfl (by kernel_rfl) opn3 (OpnFs.one rfl (by kernel_rfl) opn4)))))))))))
theorem opn48 : Opn Tryz.prog 48 (TL T_EMsg) := Opn.slice und48 (by kernel_rfl) opn133
theorem opn50 : Opn Tryz.prog 50 T_ENet := Opn.struct Tryz.underlying50 (by kernel_rfl) (OpnFs.cons rfl (by kernel_rfl) opn47 (OpnFs.one rfl (by kernel_rfl) opn48))
theorem own : ownKnob Tryz.prog.godebug = none := by kernel_rfl
theorem laidOut : laidOutB Tryz.prog = true := by kernel_rfl
set_option maxRecDepth 100000 in
theorem lifted (os : Os) (started : os.Started) (H : Type) (enc : TypeId × Value → H) :
    ReturnsInHanded {} Tryz.checked os 5 .any (Rows.fnExactAlikeSpec.pre6 enc Tryz.prog Tryz.f5 Rows.fnExactAlikeRow.domain false) (Rows.fnExactAlikeSpec.post enc Tryz.prog Tryz.f5 false true false false) := by
  refine returnsInHanded_of_change (C := Tryz.checked) own started (by kernel_rfl) Tryz.func5
    (ChangeSpec.witness6 (enc := enc) (C := Tryz.checked) false ⟨#[], #[.agg #[.slice none 0 0, .slice none 0 0]], []⟩ 8 (by kernel_rfl) (by kernel_rfl) (by kernel_rfl) (by kernel_rfl)) ?_
  intro W base args ds gs before hval0 hW hcnd _
  have hval : ∀ (j : Nat) t v, Tryz.f5.params[j]? = some t → args[j]? = some v → Value.okWide Tryz.prog W .any base t v := hval0
  have hW' := hW
  obtain ⟨p, q, hA0, hV, rfl, hfz, hnd⟩ := hW
  have hA : DataW.TrodAll enc Tryz.prog W 0 (fun _ => true) true Tryz.f5.params.toList args.toList ds p := hA0
  rw [Tryz.params5] at hA hval
  obtain ⟨v0, vs0, d0, ds0, p0, q0, hargs, rfl, rfl, h0, r0⟩ := trodAll_cons hA
  obtain ⟨rfl, rfl, rfl⟩ := trodAll_nil r0
  obtain rfl : args = #[v0] := by cases args; simp_all
  obtain ⟨rfl, rfl⟩ := trodVars_none hV
  have k0 := h0
  have lt0 : ∀ x ∈ p0, x.block < W.heap.size := by obtain ⟨m, hm⟩ := k0; exact DataW.trod_lt m _ _ _ hm
  obtain ⟨t0, hc0, g0, o0⟩ : ∃ t : T_ENet, v0.cells.toList = GT.cells t ∧ GT.rd W [] t ∧ Ok.ok (GT.dat t) := by obtain ⟨m, hm⟩ := h0; exact opn50 enc W _ _ m _ _ hm
  obtain ⟨xs0, rfl, _⟩ := okWide_struct Tryz.underlying50 (hval 0 50 v0 rfl rfl)
  obtain rfl : xs0 = (GT.cells t0).toArray := by rw [← hc0]; simp [Value.cells]
  clear hA0 hval0
  refine (Spec.top (lawFnExactAlike W t0 g0 o0)).mono fun e W' ⟨v, M', he, ⟨hv, _⟩, bel⟩ => ?_
  subst he; subst hv
  exact ⟨_, rfl, _, _, _, [], _, [], hW', trodAll_mk1 (shut_bool Tryz.underlying4 _), (trodAll_cons_mk (Below.trod laidOut (by kernel_rfl) (of_decide_eq_true (by kernel_rfl)) k0 bel lt0) trodAll_mk0), rfl, bel.frame _, fun h => by cases h⟩

theorem gMaps : mapsRowed Tryz.prog = true := by kernel_rfl
theorem gIn : (Rows.fnExactAlikeRow.inPlace == Tryz.prog.inPlace 5) = true := by kernel_rfl
theorem gUn : (Rows.fnExactAlikeRow.unfollowed == Tryz.prog.unfollowed 5) = true := by kernel_rfl
theorem gRec : (Rows.fnExactAlikeRow.recurses == Tryz.prog.recurses 5) = true := by kernel_rfl
theorem gNam : (Rows.fnExactAlikeRow.named == Tryz.prog.varsNamed 5) = true := by kernel_rfl
theorem gHeard : Tryz.prog.stopsHeard = true := by kernel_rfl
theorem gEnter : Tryz.prog.mayEnter = true := by kernel_rfl
theorem gLift : (Rows.fnExactAlikeRow.lifted == Tryz.prog.liftsFinal) = true := by kernel_rfl
theorem gKeys : (Rows.fnExactAlikeRow.plainKeys == Tryz.prog.plainKeys) = true := by kernel_rfl
theorem gName : Tryz.prog.funcNamed Rows.fnExactAlikeRow.func = some 5 := by kernel_rfl
theorem closed : joinedFacts Tryz.prog 5 Tryz.f5 Rows.fnExactAlikeSpec Rows.fnExactAlikeRow = true := by
  unfold joinedFacts
  rw [laidOut, gMaps, gIn, gUn, gRec, gNam, gHeard, gEnter, gLift, gKeys]
  kernel_rfl
theorem over : Rows.fnExactAlikeRow.holds Tryz.pinned (OpenSpec.ofChange Rows.fnExactAlikeSpec) :=
  OpenClaim.holds_of_wide 5 Tryz.f5 rfl rfl rfl rfl rfl rfl rfl ⟨rfl, rfl, rfl, rfl, rfl⟩ rfl rfl rfl rfl rfl gName Tryz.func5 closed
    (of_decide_eq_true (by kernel_rfl)) (by unfold Func.isWrapper; first | (rw [if_pos (by decide +kernel)]; kernel_rfl) | (rw [if_neg (by decide +kernel)]; exact ⟨rfl, rfl⟩))
    (fun os started H enc _ => lifted os started H enc)

theorem fnExactAlike_holds : Rows.FnExactAlikeSaid := over
end Go.Proofs.YtipncebebegacaaGreat
