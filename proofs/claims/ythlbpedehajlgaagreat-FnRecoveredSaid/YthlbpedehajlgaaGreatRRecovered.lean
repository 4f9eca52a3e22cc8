/- THE STATEMENT Rows.FnRecoveredSaid: the law FnRecovered answers true at every input and leaves its arguments as they were. -/
import Derived.Test.YthlbpedehajlgaaGreatRows
import Derived.ProofKit
import Derived.OpenShut
import Derived.ShutString
import Derived.ChangeOld
import Derived.Carry
import Derived.Below
import Derived.Test.YthlbpedehajlgaaGreatT20
namespace Go.Proofs.YthlbpedehajlgaaGreat
open Go.ChangeShapes Go.WideShapes Go.ChangeAt Go.RowKit Go.Proofs.SL
set_option linter.unusedVariables false
theorem und22 : Tryz.prog.underlying 22 = some (.slice 5) := by kernel_rfl
theorem opn5 : Opn Tryz.prog 5 UInt8 := Opn.u8 und5.h
theorem opn22 : Opn Tryz.prog 22 (TL UInt8) := Opn.slice und22 (by kernel_rfl) opn5
theorem own : ownKnob Tryz.prog.godebug = none := by kernel_rfl
theorem laidOut : laidOutB Tryz.prog = true := by kernel_rfl
set_option maxRecDepth 100000 in
theorem lifted (os : Os) (started : os.Started) (H : Type) (enc : TypeId × Value → H) :
    ReturnsInHanded {} Tryz.checked os 4 .any (Rows.fnRecoveredSpec.pre6 enc Tryz.prog Tryz.f4 Rows.fnRecoveredRow.domain false) (Rows.fnRecoveredSpec.post enc Tryz.prog Tryz.f4 false true false false) := by
  refine returnsInHanded_of_change (C := Tryz.checked) own started (by kernel_rfl) Tryz.func4
    (ChangeSpec.witness6 (enc := enc) (C := Tryz.checked) false ⟨#[], #[.slice none 0 0], []⟩ 8 (by kernel_rfl) (by kernel_rfl) (by kernel_rfl) (by kernel_rfl)) ?_
  intro W base args ds gs before hval0 hW hcnd _
  have hval : ∀ (j : Nat) t v, Tryz.f4.params[j]? = some t → args[j]? = some v → Value.okWide Tryz.prog W .any base t v := hval0
  have hW' := hW
  obtain ⟨p, q, hA0, hV, rfl, hfz, hnd⟩ := hW
  have hA : DataW.TrodAll enc Tryz.prog W 0 (fun _ => true) true Tryz.f4.params.toList args.toList ds p := hA0
  rw [Tryz.params4] at hA hval
  obtain ⟨v0, vs0, d0, ds0, p0, q0, hargs, rfl, rfl, h0, r0⟩ := trodAll_cons hA
  obtain ⟨rfl, rfl, rfl⟩ := trodAll_nil r0
  obtain rfl : args = #[v0] := by cases args; simp_all
  obtain ⟨rfl, rfl⟩ := trodVars_none hV
  have k0 := h0
  have lt0 : ∀ x ∈ p0, x.block < W.heap.size := by obtain ⟨m, hm⟩ := k0; exact DataW.trod_lt m _ _ _ hm
  obtain ⟨t0, hc0, g0, o0⟩ : ∃ t : TL UInt8, v0.cells.toList = GT.cells t ∧ GT.rd W [] t ∧ Ok.ok (GT.dat t) := by obtain ⟨m, hm⟩ := h0; exact opn22 enc W _ _ m _ _ hm
  obtain ⟨sa0, sl0, sc0, hv0⟩ := okWide_slice Tryz.underlying22 (hval 0 22 v0 rfl rfl)
  obtain rfl : v0 = t0.hdr := by subst hv0; exact List.head_eq_of_cons_eq hc0
  clear hA0 hval0
  refine (Spec.top (lawFnRecovered W t0 g0 o0)).mono fun e W' ⟨v, M', he, ⟨hv, _⟩, bel⟩ => ?_
  subst he; subst hv
  exact ⟨_, rfl, _, _, _, [], _, [], hW', trodAll_mk1 (shut_bool Tryz.underlying4 _), (trodAll_cons_mk (Below.trod laidOut (by kernel_rfl) (of_decide_eq_true (by kernel_rfl)) k0 bel lt0) trodAll_mk0), rfl, bel.frame _, fun h => by cases h⟩

theorem gMaps : mapsRowed Tryz.prog = true := by kernel_rfl
theorem gIn : (Rows.fnRecoveredRow.inPlace == Tryz.prog.inPlace 4) = true := by kernel_rfl
theorem gUn : (Rows.fnRecoveredRow.unfollowed == Tryz.prog.unfollowed 4) = true := by kernel_rfl
theorem gRec : (Rows.fnRecoveredRow.recurses == Tryz.prog.recurses 4) = true := by kernel_rfl
theorem gNam : (Rows.fnRecoveredRow.named == Tryz.prog.varsNamed 4) = true := by kernel_rfl
theorem gHeard : Tryz.prog.stopsHeard = true := by kernel_rfl
theorem gEnter : Tryz.prog.mayEnter = true := by kernel_rfl
theorem gLift : (Rows.fnRecoveredRow.lifted == Tryz.prog.liftsFinal) = true := by kernel_rfl
theorem gKeys : (Rows.fnRecoveredRow.plainKeys == Tryz.prog.plainKeys) = true := by kernel_rfl
theorem gName : Tryz.prog.funcNamed Rows.fnRecoveredRow.func = some 4 := by kernel_rfl
theorem closed : joinedFacts Tryz.prog 4 Tryz.f4 Rows.fnRecoveredSpec Rows.fnRecoveredRow = true := by
  unfold joinedFacts
  rw [laidOut, gMaps, gIn, gUn, gRec, gNam, gHeard, gEnter, gLift, gKeys]
  kernel_rfl
theorem over : Rows.fnRecoveredRow.holds Tryz.pinned (OpenSpec.ofChange Rows.fnRecoveredSpec) :=
  OpenClaim.holds_of_wide 4 Tryz.f4 rfl rfl rfl rfl rfl rfl rfl ⟨rfl, rfl, rfl, rfl, rfl⟩ rfl rfl rfl rfl rfl gName Tryz.func4 closed
    (of_decide_eq_true (by kernel_rfl)) (by unfold Func.isWrapper; first | (rw [if_pos (by decide +kernel)]; kernel_rfl) | (rw [if_neg (by decide +kernel)]; exact ⟨rfl, rfl⟩))
    (fun os started H enc _ => lifted os started H enc)

theorem fnRecovered_holds : Rows.FnRecoveredSaid := over
end Go.Proofs.YthlbpedehajlgaaGreat
