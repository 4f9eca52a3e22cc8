/- THE STATEMENT Rows.FnExactBlobPutCardSaid: the law FnExactBlobPut answers true at every input and leaves its arguments as they were. -/
import Derived.Test.YtndhmnoehapdhaaDoorLBlobPut
import Derived.Test.YtndhmnoehapdhaaDoorRows
import Derived.Test.YtndhmnoehapdhaaDoorCards
import Derived.Test.YtndhmnoehapdhaaDoorTie
import Derived.Test.YtndhmnoehapdhaaDoorG1
import Derived.ProofKit
import Derived.OpenShut
import Derived.ShutString
import Derived.ChangeOld
import Derived.Carry
import Derived.Below
namespace Go.Proofs.YtndhmnoehapdhaaDoor
open Go.ChangeShapes Go.WideShapes Go.ChangeAt Go.RowKit Go.Proofs.SL
set_option linter.unusedVariables false
theorem opn3 : Opn Tryd.prog 3 Int := Opn.int und3
theorem und22 : Tryd.prog.underlying 22 = some (.slice 120) := by kernel_rfl
theorem opn9 : Opn Tryd.prog 9 ByteArray := Opn.str und9
theorem opn4 : Opn Tryd.prog 4 Bool := Opn.bool und4
theorem opn120 : Opn Tryd.prog 120 T_Blob := Opn.struct Tryd.underlying120 (by kernel_rfl) (OpnFs.cons rfl (by kernel_rfl) opn9 (OpnFs.cons rfl (by kernel_rfl) opn9 (OpnFs.one rfl (by kernel_rfl) opn4)))
theorem opn22 : Opn Tryd.prog 22 (TL T_Blob) := Opn.slice und22 (by kernel_rfl) opn120
theorem opn24 : Opn Tryd.prog 24 T_Blobs := Opn.struct Tryd.underlying24 (by kernel_rfl) (OpnFs.cons rfl (by kernel_rfl) opn3 (OpnFs.one rfl (by kernel_rfl) opn22))
theorem own : ownKnob Tryd.prog.godebug = none := by kernel_rfl
theorem laidOut : laidOutB Tryd.prog = true := by kernel_rfl
set_option maxRecDepth 100000 in
theorem lifted (os : Os) (started : os.Started) (H : Type) (enc : TypeId × Value → H) :
    ReturnsInHanded {} Tryd.checked os 7 .any (fun w args => (Rows.fnExactBlobPutSpec.pre enc Tryd.prog Tryd.f7 Rows.fnExactBlobPutRow.domain false w args ∧ laidMetH Tryd.prog laidL w) ∧ sizedMet enc Tryd.prog Tryd.f7 (OpenSpec.ofChange Rows.fnExactBlobPutSpec) false w args) (Rows.fnExactBlobPutSpec.post enc Tryd.prog Tryd.f7 false true false false) := by
  refine returnsInHanded_of_change_and (C := Tryd.checked) (X := fun w _ => laidMetH Tryd.prog laidL w) (fun _ _ _ hh h => h.of_heap hh) own started (by kernel_rfl) Tryd.func7
    (ChangeSpec.witness_shaped (enc := enc) (C := Tryd.checked) (os := os) (X := fun w _ => laidMetH Tryd.prog laidL w) false (World.laidAll Tryd.prog os laidL) #[.agg #[.int .i64 0, .slice none 0 0], .string ByteArray.empty] 8 (World.laidAll_os _ _ _)
      (World.shaped_of_ZipB (by kernel_rfl) (by kernel_rfl)) (by kernel_rfl) (by kernel_rfl) (by kernel_rfl) (gmet os _)) ?_
  intro W base args ds gs before hval0 hW hcnd _ hL _
  have hval : ∀ (j : Nat) t v, Tryd.f7.params[j]? = some t → args[j]? = some v → Value.okWide Tryd.prog W .any base t v := hval0
  have hW' := hW
  obtain ⟨p, q, hA0, hV, rfl, hfz, hnd⟩ := hW
  have hA : DataW.TrodAll enc Tryd.prog W 0 (fun _ => true) true Tryd.f7.params.toList args.toList ds p := hA0
  rw [Tryd.params7] at hA hval
  obtain ⟨v0, vs0, d0, ds0, p0, q0, hargs, rfl, rfl, h0, r0⟩ := trodAll_cons hA
  obtain ⟨v1, vs1, d1, ds1, p1, q1, rfl, rfl, rfl, h1, r1⟩ := trodAll_cons r0
  obtain ⟨rfl, rfl, rfl⟩ := trodAll_nil r1
  obtain rfl : args = #[v0, v1] := by cases args; simp_all
  have hV' := hV
  obtain ⟨vg, vt, vc, vf, vd, vp, rfl, _, _, _, _, rfl⟩ := trodVars_one hV
  have k0 := h0
  have lt0 : ∀ x ∈ p0, x.block < W.heap.size := by obtain ⟨m, hm⟩ := k0; exact DataW.trod_lt m _ _ _ hm
  obtain ⟨t0, hc0, g0, o0⟩ : ∃ t : T_Blobs, v0.cells.toList = GT.cells t ∧ GT.rd W [] t ∧ Ok.ok (GT.dat t) := by obtain ⟨m, hm⟩ := h0; exact opn24 enc W _ _ m _ _ hm
  obtain ⟨xs0, rfl, _⟩ := okWide_struct Tryd.underlying24 (hval 0 24 v0 rfl rfl)
  obtain rfl : xs0 = (GT.cells t0).toArray := by rw [← hc0]; simp [Value.cells]
  have k1 := h1
  have lt1 : ∀ x ∈ p1, x.block < W.heap.size := by obtain ⟨m, hm⟩ := k1; exact DataW.trod_lt m _ _ _ hm
  obtain ⟨t1, hc1, g1, o1⟩ : ∃ t : ByteArray, v1.cells.toList = GT.cells t ∧ GT.rd W [] t ∧ Ok.ok (GT.dat t) := by obtain ⟨m, hm⟩ := h1; exact opn9 enc W _ _ m _ _ hm
  obtain ⟨sn1, hv1⟩ := okWide_string Tryd.underlying9 (hval 1 9 v1 rfl rfl)
  obtain rfl : v1 = .string t1 := by subst hv1; exact List.head_eq_of_cons_eq hc1
  clear hA0 hval0
  refine (Spec.top (lawFnExactBlobPut W t0 t1 g0 g1 o0 o1 (gread hL))).mono fun e W' ⟨v, M', he, ⟨hv, _⟩, bel⟩ => ?_
  subst he; subst hv
  exact ⟨_, rfl, _, _, _, [], _, _, hW', trodAll_mk1 (shut_bool Tryd.underlying4 _), (trodAll_cons_mk (Below.trod laidOut (by kernel_rfl) (of_decide_eq_true (by kernel_rfl)) k0 bel lt0) (trodAll_cons_mk (Below.trod laidOut (by kernel_rfl) (of_decide_eq_true (by kernel_rfl)) k1 bel lt1) trodAll_mk0)), Below.trodVars laidOut bel (by kernel_rfl) hV', bel.frame _, fun h => by cases h⟩

theorem gMaps : mapsRowed Tryd.prog = true := by kernel_rfl
theorem gIn : (Rows.fnExactBlobPutRow.inPlace == Tryd.prog.inPlace 7) = true := by kernel_rfl
theorem gUn : (Rows.fnExactBlobPutRow.unfollowed == Tryd.prog.unfollowed 7) = true := by kernel_rfl
theorem gRec : (Rows.fnExactBlobPutRow.recurses == Tryd.prog.recurses 7) = true := by kernel_rfl
theorem gNam : (Rows.fnExactBlobPutRow.named == Tryd.prog.varsNamed 7) = true := by kernel_rfl
theorem gHeard : Tryd.prog.stopsHeard = true := by kernel_rfl
theorem gEnter : Tryd.prog.mayEnter = true := by kernel_rfl
theorem gLift : (Rows.fnExactBlobPutRow.lifted == Tryd.prog.liftsFinal) = true := by kernel_rfl
theorem gKeys : (Rows.fnExactBlobPutRow.plainKeys == Tryd.prog.plainKeys) = true := by kernel_rfl
theorem gName : Tryd.prog.funcNamed Rows.fnExactBlobPutRow.func = some 7 := by kernel_rfl
theorem closed : joinedFacts Tryd.prog 7 Tryd.f7 Rows.fnExactBlobPutSpec Rows.fnExactBlobPutRow = true := by
  unfold joinedFacts
  rw [laidOut, gMaps, gIn, gUn, gRec, gNam, gHeard, gEnter, gLift, gKeys]
  kernel_rfl
theorem over : Rows.fnExactBlobPutRow.holds Tryd.pinned (OpenSpec.ofChange Rows.fnExactBlobPutSpec) :=
  OpenClaim.holds_of_wide 7 Tryd.f7 rfl rfl rfl rfl rfl rfl rfl ⟨rfl, rfl, rfl, rfl, rfl⟩ rfl rfl rfl rfl rfl gName Tryd.func7 closed
    (of_decide_eq_true (by kernel_rfl)) (by unfold Func.isWrapper; first | (rw [if_pos (by decide +kernel)]; kernel_rfl) | (rw [if_neg (by decide +kernel)]; exact ⟨rfl, rfl⟩))
    (fun os started H enc _ => lifted os started H enc)

theorem fnExactBlobPut_holds : Rows.FnExactBlobPutCardSaid :=
  Claim7.holds_tied_plain_at .later [] [.data] true (true, "d8aa2fa6288f4397fca273a299fafd16d20048636f1b016a9049a221e89798ea") false over (fun _ h => by cases h) (by kernel_rfl) (fun _ h => by cases h) fnExactBlobPut_row_tie rfl ⟨rfl, rfl⟩ (by kernel_rfl) rfl
    (fun f fn hf hfn => by
      obtain rfl : f = 7 := Option.some.inj (gName.symm.trans hf) |>.symm
      obtain rfl : fn = Tryd.f7 := (Option.some.inj (Tryd.func7.symm.trans hfn)).symm
      exact ⟨by kernel_rfl, fun j t ht => by
        rw [Tryd.params7] at ht
        have hm : t ∈ [24, 9] := by simpa using Array.mem_of_getElem? ht
        have hall : ([24, 9].all fun u => !Tryd.prog.wantsStandIn u) = true := by kernel_rfl
        exact (show Tryd.prog.wantsStandIn t = false by simpa using List.all_eq_true.1 hall t hm)⟩)
    (by kernel_rfl)
end Go.Proofs.YtndhmnoehapdhaaDoor
