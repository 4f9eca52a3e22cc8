/- THE STATEMENT Rows.FnRestoreCardSaid: the law FnRestore answers true at every input and leaves its arguments as they were. -/
import Derived.Test.YtndhmnoehapdhaaDoorRows
import Derived.Test.YtndhmnoehapdhaaDoorCards
import Derived.Test.YtndhmnoehapdhaaDoorTie
import Derived.ProofKit
import Derived.OpenShut
import Derived.ShutString
import Derived.ChangeOld
import Derived.Carry
import Derived.Below
import Derived.Test.YtndhmnoehapdhaaDoorT5
namespace Go.Proofs.YtndhmnoehapdhaaDoor
open Go.ChangeShapes Go.WideShapes Go.ChangeAt Go.RowKit Go.Proofs.SL
set_option linter.unusedVariables false
theorem opn5 : Opn Tryd.prog 5 UInt8 := Opn.u8 und5.h
theorem opn59 : Opn Tryd.prog 59 (TL UInt8) := Opn.slice und59.h (by kernel_rfl) opn5
theorem own : ownKnob Tryd.prog.godebug = none := by kernel_rfl
theorem laidOut : laidOutB Tryd.prog = true := by kernel_rfl
set_option maxRecDepth 100000 in
theorem lifted (os : Os) (started : os.Started) (H : Type) (enc : TypeId × Value → H) :
    ReturnsInHanded {} Tryd.checked os 11 .any (fun w args => (Rows.fnRestoreSpec.pre enc Tryd.prog Tryd.f11 Rows.fnRestoreRow.domain false w args ∧ laidMetH Tryd.prog laidL w) ∧ sizedMet enc Tryd.prog Tryd.f11 (OpenSpec.ofChange Rows.fnRestoreSpec) false w args) (Rows.fnRestoreSpec.post enc Tryd.prog Tryd.f11 false true false false) := by
  refine returnsInHanded_of_change_and (C := Tryd.checked) (X := fun w _ => laidMetH Tryd.prog laidL w) (fun _ _ _ hh h => h.of_heap hh) own started (by kernel_rfl) Tryd.func11
    (ChangeSpec.witness_shaped (enc := enc) (C := Tryd.checked) (os := os) (X := fun w _ => laidMetH Tryd.prog laidL w) false (World.laidAll Tryd.prog os laidL) #[.slice none 0 0] 8 (World.laidAll_os _ _ _)
      (World.shaped_of_ZipB (by kernel_rfl) (by kernel_rfl)) (by kernel_rfl) (by kernel_rfl) (by kernel_rfl) (gmet os _)) ?_
  intro W base args ds gs before hval0 hW hcnd _ hL _
  have hval : ∀ (j : Nat) t v, Tryd.f11.params[j]? = some t → args[j]? = some v → Value.okWide Tryd.prog W .any base t v := hval0
  have hW' := hW
  obtain ⟨p, q, hA0, hV, rfl, hfz, hnd⟩ := hW
  have hA : DataW.TrodAll enc Tryd.prog W 0 (fun _ => true) true Tryd.f11.params.toList args.toList ds p := hA0
  rw [Tryd.params11] at hA hval
  obtain ⟨v0, vs0, d0, ds0, p0, q0, hargs, rfl, rfl, h0, r0⟩ := trodAll_cons hA
  obtain ⟨rfl, rfl, rfl⟩ := trodAll_nil r0
  obtain rfl : args = #[v0] := by cases args; simp_all
  have hV' := hV
  obtain ⟨vg, vt, vc, vf, vd, vp, rfl, _, _, _, _, rfl⟩ := trodVars_one hV
  have k0 := h0
  have lt0 : ∀ x ∈ p0, x.block < W.heap.size := by obtain ⟨m, hm⟩ := k0; exact DataW.trod_lt m _ _ _ hm
  obtain ⟨t0, hc0, g0, o0⟩ : ∃ t : TL UInt8, v0.cells.toList = GT.cells t ∧ GT.rd W [] t ∧ Ok.ok (GT.dat t) := by obtain ⟨m, hm⟩ := h0; exact opn59 enc W _ _ m _ _ hm
  obtain ⟨sa0, sl0, sc0, hv0⟩ := okWide_slice Tryd.underlying59 (hval 0 59 v0 rfl rfl)
  obtain rfl : v0 = t0.hdr := by subst hv0; exact List.head_eq_of_cons_eq hc0
  clear hA0 hval0
  refine (Spec.top (lawFnRestore W t0 g0 o0 (gread hL))).mono fun e W' ⟨v, M', he, ⟨hv, _⟩, bel⟩ => ?_
  subst he; subst hv
  exact ⟨_, rfl, _, _, _, [], _, _, hW', trodAll_mk1 (shut_bool Tryd.underlying4 _), (trodAll_cons_mk (Below.trod laidOut (by kernel_rfl) (of_decide_eq_true (by kernel_rfl)) k0 bel lt0) trodAll_mk0), Below.trodVars laidOut bel (by kernel_rfl) hV', bel.frame _, fun h => by cases h⟩

theorem gMaps : mapsRowed Tryd.prog = true := by kernel_rfl
theorem gIn : (Rows.fnRestoreRow.inPlace == Tryd.prog.inPlace 11) = true := by kernel_rfl
theorem gUn : (Rows.fnRestoreRow.unfollowed == Tryd.prog.unfollowed 11) = true := by kernel_rfl
theorem gRec : (Rows.fnRestoreRow.recurses == Tryd.prog.recurses 11) = true := by kernel_rfl
theorem gNam : (Rows.fnRestoreRow.named == Tryd.prog.varsNamed 11) = true := by kernel_rfl
theorem gHeard : Tryd.prog.stopsHeard = true := by kernel_rfl
theorem gEnter : Tryd.prog.mayEnter = true := by kernel_rfl
theorem gLift : (Rows.fnRestoreRow.lifted == Tryd.prog.liftsFinal) = true := by kernel_rfl
theorem gKeys : (Rows.fnRestoreRow.plainKeys == Tryd.prog.plainKeys) = true := by kernel_rfl
theorem gName : Tryd.prog.funcNamed Rows.fnRestoreRow.func = some 11 := by kernel_rfl
theorem closed : joinedFacts Tryd.prog 11 Tryd.f11 Rows.fnRestoreSpec Rows.fnRestoreRow = true := by
  unfold joinedFacts
  rw [laidOut, gMaps, gIn, gUn, gRec, gNam, gHeard, gEnter, gLift, gKeys]
  kernel_rfl
theorem over : Rows.fnRestoreRow.holds Tryd.pinned (OpenSpec.ofChange Rows.fnRestoreSpec) :=
  OpenClaim.holds_of_wide 11 Tryd.f11 rfl rfl rfl rfl rfl rfl rfl ⟨rfl, rfl, rfl, rfl, rfl⟩ rfl rfl rfl rfl rfl gName Tryd.func11 closed
    (of_decide_eq_true (by kernel_rfl)) (by unfold Func.isWrapper; first | (rw [if_pos (by decide +kernel)]; kernel_rfl) | (rw [if_neg (by decide +kernel)]; exact ⟨rfl, rfl⟩))
    (fun os started H enc _ => lifted os started H enc)

theorem fnRestore_holds : Rows.FnRestoreCardSaid :=
  Claim7.holds_tied_plain_at .later [] [.data] true (true, "d8aa2fa6288f4397fca273a299fafd16d20048636f1b016a9049a221e89798ea") false over (fun _ h => by cases h) (by kernel_rfl) (fun _ h => by cases h) fnRestore_row_tie rfl ⟨rfl, rfl⟩ (by kernel_rfl) rfl
    (fun f fn hf hfn => by
      obtain rfl : f = 11 := Option.some.inj (gName.symm.trans hf) |>.symm
      obtain rfl : fn = Tryd.f11 := (Option.some.inj (Tryd.func11.symm.trans hfn)).symm
      exact ⟨by kernel_rfl, fun j t ht => by
        rw [Tryd.params11] at ht
        have hm : t ∈ [59] := by simpa using Array.mem_of_getElem? ht
        have hall : ([59].all fun u => !Tryd.prog.wantsStandIn u) = true := by kernel_rfl
        exact (show Tryd.prog.wantsStandIn t = false by simpa using List.all_eq_true.1 hall t hm)⟩)
    (by kernel_rfl)
end Go.Proofs.YtndhmnoehapdhaaDoor
