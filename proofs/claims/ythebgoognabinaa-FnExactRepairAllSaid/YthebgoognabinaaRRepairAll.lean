/- THE STATEMENT Rows.FnExactRepairAllSaid: the law FnExactRepairAll answers true at every input and leaves its arguments as they were. -/
import Derived.Test.YthebgoognabinaaLRepairAll
import Derived.Test.YthebgoognabinaaRows
import Derived.ProofKit
import Derived.OpenShut
import Derived.ShutString
import Derived.ChangeOld
import Derived.Carry
import Derived.Below
namespace Go.Proofs.Ythebgoognabinaa
open Go.ChangeShapes Go.WideShapes Go.ChangeAt Go.RowKit Go.Proofs.SL
set_option linter.unusedVariables false
theorem opn3 : Opn Try.prog 3 Int := Opn.int und3
theorem und22 : Try.prog.underlying 22 = some (.slice 211) := by kernel_rfl
theorem opn9 : Opn Try.prog 9 ByteArray := Opn.str und9
theorem und49 : Try.prog.underlying 49 = some (.slice 3) := by kernel_rfl
theorem opn49 : Opn Try.prog 49 (TL Int) := Opn.slice und49 (by kernel_rfl) opn3
theorem opn211 : Opn Try.prog 211 T_Up := Opn.struct Try.underlying211 (by kernel_rfl) (OpnFs.cons rfl (by kernel_rfl) opn9 (OpnFs.cons rfl (by kernel_rfl) opn49 (OpnFs.one rfl (by kernel_rfl) opn3)))
theorem opn22 : Opn Try.prog 22 (TL T_Up) := Opn.slice und22 (by kernel_rfl) opn211
theorem opn24 : Opn Try.prog 24 T_Ups := Opn.struct Try.underlying24 (by kernel_rfl) (OpnFs.cons rfl (by kernel_rfl) opn3 (OpnFs.one rfl (by kernel_rfl) opn22))
theorem und35 : Try.prog.underlying 35 = some (.slice 153) := by kernel_rfl
theorem opn153 : Opn Try.prog 153 T_Copy := Opn.struct Try.underlying153 (by kernel_rfl) (OpnFs.cons rfl (by kernel_rfl) opn9 (OpnFs.cons rfl (by kernel_rfl) opn3 (OpnFs.one rfl (by kernel_rfl) opn3)))
theorem opn35 : Opn Try.prog 35 (TL T_Copy) := Opn.slice und35 (by kernel_rfl) opn153
theorem own : ownKnob Try.prog.godebug = none := by kernel_rfl
theorem laidOut : laidOutB Try.prog = true := by kernel_rfl
set_option maxRecDepth 100000 in
theorem lifted (os : Os) (started : os.Started) (H : Type) (enc : TypeId × Value → H) :
    ReturnsInHanded {} Try.checked os 5 .any (Rows.fnExactRepairAllSpec.pre6 enc Try.prog Try.f5 Rows.fnExactRepairAllRow.domain false) (Rows.fnExactRepairAllSpec.post enc Try.prog Try.f5 false true false false) := by
  refine returnsInHanded_of_change (C := Try.checked) own started (by kernel_rfl) Try.func5
    (ChangeSpec.witness6 (enc := enc) (C := Try.checked) false ⟨#[], #[.agg #[.int .i64 0, .slice none 0 0], .slice none 0 0], []⟩ 8 (by kernel_rfl) (by kernel_rfl) (by kernel_rfl) (by kernel_rfl)) ?_
  intro W base args ds gs before hval0 hW hcnd _
  have hval : ∀ (j : Nat) t v, Try.f5.params[j]? = some t → args[j]? = some v → Value.okWide Try.prog W .any base t v := hval0
  have hW' := hW
  obtain ⟨p, q, hA0, hV, rfl, hfz, hnd⟩ := hW
  have hA : DataW.TrodAll enc Try.prog W 0 (fun _ => true) true Try.f5.params.toList args.toList ds p := hA0
  rw [Try.params5] at hA hval
  obtain ⟨v0, vs0, d0, ds0, p0, q0, hargs, rfl, rfl, h0, r0⟩ := trodAll_cons hA
  obtain ⟨v1, vs1, d1, ds1, p1, q1, rfl, rfl, rfl, h1, r1⟩ := trodAll_cons r0
  obtain ⟨rfl, rfl, rfl⟩ := trodAll_nil r1
  obtain rfl : args = #[v0, v1] := by cases args; simp_all
  obtain ⟨rfl, rfl⟩ := trodVars_none hV
  have k0 := h0
  have lt0 : ∀ x ∈ p0, x.block < W.heap.size := by obtain ⟨m, hm⟩ := k0; exact DataW.trod_lt m _ _ _ hm
  obtain ⟨t0, hc0, g0, o0⟩ : ∃ t : T_Ups, v0.cells.toList = GT.cells t ∧ GT.rd W [] t ∧ Ok.ok (GT.dat t) := by obtain ⟨m, hm⟩ := h0; exact opn24 enc W _ _ m _ _ hm
  obtain ⟨xs0, rfl, _⟩ := okWide_struct Try.underlying24 (hval 0 24 v0 rfl rfl)
  obtain rfl : xs0 = (GT.cells t0).toArray := by rw [← hc0]; simp [Value.cells]
  have k1 := h1
  have lt1 : ∀ x ∈ p1, x.block < W.heap.size := by obtain ⟨m, hm⟩ := k1; exact DataW.trod_lt m _ _ _ hm
  obtain ⟨t1, hc1, g1, o1⟩ : ∃ t : TL T_Copy, v1.cells.toList = GT.cells t ∧ GT.rd W [] t ∧ Ok.ok (GT.dat t) := by obtain ⟨m, hm⟩ := h1; exact opn35 enc W _ _ m _ _ hm
  obtain ⟨sa1, sl1, sc1, hv1⟩ := okWide_slice Try.underlying35 (hval 1 35 v1 rfl rfl)
  obtain rfl : v1 = t1.hdr := by subst hv1; exact List.head_eq_of_cons_eq hc1
  clear hA0 hval0
  refine (Spec.top (lawFnExactRepairAll W t0 t1 g0 g1 o0 o1)).mono fun e W' ⟨v, M', he, ⟨hv, _⟩, bel⟩ => ?_
  subst he; subst hv
  exact ⟨_, rfl, _, _, _, [], _, [], hW', trodAll_mk1 (shut_bool Try.underlying4 _), (trodAll_cons_mk (Below.trod laidOut (by kernel_rfl) (of_decide_eq_true (by kernel_rfl)) k0 bel lt0) (trodAll_cons_mk (Below.trod laidOut (by kernel_rfl) (of_decide_eq_true (by kernel_rfl)) k1 bel lt1) trodAll_mk0)), rfl, bel.frame _, fun h => by cases h⟩

theorem gMaps : mapsRowed Try.prog = true := by kernel_rfl
theorem gIn : (Rows.fnExactRepairAllRow.inPlace == Try.prog.inPlace 5) = true := by kernel_rfl
theorem gUn : (Rows.fnExactRepairAllRow.unfollowed == Try.prog.unfollowed 5) = true := by kernel_rfl
theorem gRec : (Rows.fnExactRepairAllRow.recurses == Try.prog.recurses 5) = true := by kernel_rfl
theorem gNam : (Rows.fnExactRepairAllRow.named == Try.prog.varsNamed 5) = true := by kernel_rfl
theorem gHeard : Try.prog.stopsHeard = true := by kernel_rfl
theorem gEnter : Try.prog.mayEnter = true := by kernel_rfl
theorem gLift : (Rows.fnExactRepairAllRow.lifted == Try.prog.liftsFinal) = true := by kernel_rfl
theorem gKeys : (Rows.fnExactRepairAllRow.plainKeys == Try.prog.plainKeys) = true := by kernel_rfl
theorem gName : Try.prog.funcNamed Rows.fnExactRepairAllRow.func = some 5 := by kernel_rfl
theorem closed : joinedFacts Try.prog 5 Try.f5 Rows.fnExactRepairAllSpec Rows.fnExactRepairAllRow = true := by
  unfold joinedFacts
  rw [laidOut, gMaps, gIn, gUn, gRec, gNam, gHeard, gEnter, gLift, gKeys]
  kernel_rfl
theorem over : Rows.fnExactRepairAllRow.holds Try.pinned (OpenSpec.ofChange Rows.fnExactRepairAllSpec) :=
  OpenClaim.holds_of_wide 5 Try.f5 rfl rfl rfl rfl rfl rfl rfl ⟨rfl, rfl, rfl, rfl, rfl⟩ rfl rfl rfl rfl rfl gName Try.func5 closed
    (of_decide_eq_true (by kernel_rfl)) (by unfold Func.isWrapper; first | (rw [if_pos (by decide +kernel)]; kernel_rfl) | (rw [if_neg (by decide +kernel)]; exact ⟨rfl, rfl⟩))
    (fun os started H enc _ => lifted os started H enc)

theorem fnExactRepairAll_holds : Rows.FnExactRepairAllSaid := over
end Go.Proofs.Ythebgoognabinaa
