/- THE STATEMENT Rows.FnUploadsSaid: the law FnUploads answers true at every input and leaves its arguments as they were. -/
import Derived.Test.YtimkhmokohidlaaRows
import Derived.ProofKit
import Derived.OpenShut
import Derived.ShutString
import Derived.ChangeOld
import Derived.Carry
import Derived.Below
import Derived.Test.YtimkhmokohidlaaT4
namespace Go.Proofs.Ytimkhmokohidlaa
open Go.ChangeShapes Go.WideShapes Go.ChangeAt Go.RowKit Go.Proofs.SL
set_option linter.unusedVariables false
theorem opn5 : Opn Try.prog 5 UInt8 := Opn.u8 und5.h
theorem opn22 : Opn Try.prog 22 (TL UInt8) := Opn.slice und22.h (by kernel_rfl) opn5
theorem own : ownKnob Try.prog.godebug = none := by kernel_rfl
theorem laidOut : laidOutB Try.prog = true := by kernel_rfl
set_option maxRecDepth 100000 in
theorem lifted (os : Os) (started : os.Started) (H : Type) (enc : TypeId × Value → H) :
    ReturnsInHanded {} Try.checked os 7 .any (Rows.fnUploadsSpec.pre6 enc Try.prog Try.f7 Rows.fnUploadsRow.domain false) (Rows.fnUploadsSpec.post enc Try.prog Try.f7 false true false false) := by
  refine returnsInHanded_of_change (C := Try.checked) own started (by kernel_rfl) Try.func7
    (ChangeSpec.witness6 (enc := enc) (C := Try.checked) false ⟨#[], #[.slice none 0 0], []⟩ 8 (by kernel_rfl) (by kernel_rfl) (by kernel_rfl) (by kernel_rfl)) ?_
  intro W base args ds gs before hval0 hW hcnd _
  have hval : ∀ (j : Nat) t v, Try.f7.params[j]? = some t → args[j]? = some v → Value.okWide Try.prog W .any base t v := hval0
  have hW' := hW
  obtain ⟨p, q, hA0, hV, rfl, hfz, hnd⟩ := hW
  have hA : DataW.TrodAll enc Try.prog W 0 (fun _ => true) true Try.f7.params.toList args.toList ds p := hA0
  rw [Try.params7] at hA hval
  obtain ⟨v0, vs0, d0, ds0, p0, q0, hargs, rfl, rfl, h0, r0⟩ := trodAll_cons hA
  obtain ⟨rfl, rfl, rfl⟩ := trodAll_nil r0
  obtain rfl : args = #[v0] := by cases args; simp_all
  obtain ⟨rfl, rfl⟩ := trodVars_none hV
  have k0 := h0
  have lt0 : ∀ x ∈ p0, x.block < W.heap.size := by obtain ⟨m, hm⟩ := k0; exact DataW.trod_lt m _ _ _ hm
  obtain ⟨t0, hc0, g0, o0⟩ : ∃ t : TL UInt8, v0.cells.toList = GT.cells t ∧ GT.rd W [] t ∧ Ok.ok (GT.dat t) := by obtain ⟨m, hm⟩ := h0; exact opn22 enc W _ _ m _ _ hm
  obtain ⟨sa0, sl0, sc0, hv0⟩ := okWide_slice Try.underlying22 (hval 0 22 v0 rfl rfl)
  obtain rfl : v0 = t0.hdr := by subst hv0; exact List.head_eq_of_cons_eq hc0
  clear hA0 hval0
  refine (Spec.top (lawFnUploads W t0 g0 o0)).mono fun e W' ⟨v, M', he, ⟨hv, _⟩, bel⟩ => ?_
  subst he; subst hv
  exact ⟨_, rfl, _, _, _, [], _, [], hW', trodAll_mk1 (shut_bool Try.underlying4 _), (trodAll_cons_mk (Below.trod laidOut (by kernel_rfl) (of_decide_eq_true (by kernel_rfl)) k0 bel lt0) trodAll_mk0), rfl, bel.frame _, fun h => by cases h⟩

theorem gMaps : mapsRowed Try.prog = true := by kernel_rfl
theorem gIn : (Rows.fnUploadsRow.inPlace == Try.prog.inPlace 7) = true := by kernel_rfl
theorem gUn : (Rows.fnUploadsRow.unfollowed == Try.prog.unfollowed 7) = true := by kernel_rfl
theorem gRec : (Rows.fnUploadsRow.recurses == Try.prog.recurses 7) = true := by kernel_rfl
theorem gNam : (Rows.fnUploadsRow.named == Try.prog.varsNamed 7) = true := by kernel_rfl
theorem gHeard : Try.prog.stopsHeard = true := by kernel_rfl
theorem gEnter : Try.prog.mayEnter = true := by kernel_rfl
theorem gLift : (Rows.fnUploadsRow.lifted == Try.prog.liftsFinal) = true := by kernel_rfl
theorem gKeys : (Rows.fnUploadsRow.plainKeys == Try.prog.plainKeys) = true := by kernel_rfl
theorem gName : Try.prog.funcNamed Rows.fnUploadsRow.func = some 7 := by kernel_rfl
theorem closed : joinedFacts Try.prog 7 Try.f7 Rows.fnUploadsSpec Rows.fnUploadsRow = true := by
  unfold joinedFacts
  rw [laidOut, gMaps, gIn, gUn, gRec, gNam, gHeard, gEnter, gLift, gKeys]
  kernel_rfl
theorem over : Rows.fnUploadsRow.holds Try.pinned (OpenSpec.ofChange Rows.fnUploadsSpec) :=
  OpenClaim.holds_of_wide 7 Try.f7 rfl rfl rfl rfl rfl rfl rfl ⟨rfl, rfl, rfl, rfl, rfl⟩ rfl rfl rfl rfl rfl gName Try.func7 closed
    (of_decide_eq_true (by kernel_rfl)) (by unfold Func.isWrapper; first | (rw [if_pos (by decide +kernel)]; kernel_rfl) | (rw [if_neg (by decide +kernel)]; exact ⟨rfl, rfl⟩))
    (fun os started H enc _ => lifted os started H enc)

theorem fnUploads_holds : Rows.FnUploadsSaid := over
end Go.Proofs.Ytimkhmokohidlaa
