/- THE STATEMENT Rows.FnExactRepairsSaid: the law FnExactRepairs answers true at every input and leaves its arguments as they were. -/
import Derived.Test.YthebgoognabinaaGreatLRepairs
import Derived.Test.YthebgoognabinaaGreatRows
import Derived.ProofKit
import Derived.OpenShut
import Derived.ShutString
import Derived.ChangeOld
import Derived.Carry
import Derived.Below
namespace Go.Proofs.YthebgoognabinaaGreat
open Go.ChangeShapes Go.WideShapes Go.ChangeAt Go.RowKit Go.Proofs.SL
set_option linter.unusedVariables false
theorem und22 : Tryz.prog.underlying 22 = some (.slice 75) := by kernel_rfl
theorem opn9 : Opn Tryz.prog 9 ByteArray := Opn.str und9
theorem und73 : Tryz.prog.underlying 73 = some (.slice 117) := by kernel_rfl
theorem und55 : Tryz.prog.underlying 55 = some (.slice 9) := by kernel_rfl
theorem opn55 : Opn Tryz.prog 55 (TL ByteArray) := Opn.slice und55 (by kernel_rfl) opn9
theorem opn117 : Opn Tryz.prog 117 T_CSnap := Opn.struct Tryz.underlying117 (by kernel_rfl) (OpnFs.cons rfl (by kernel_rfl) opn9 (OpnFs.cons rfl (by kernel_rfl) opn9 (OpnFs.one rfl (by kernel_rfl) opn55)))
theorem opn73 : Opn Tryz.prog 73 (TL T_CSnap) := Opn.slice und73 (by kernel_rfl) opn117
theorem opn75 : Opn Tryz.prog 75 T_CSet := Opn.struct Tryz.underlying75 (by kernel_rfl) (OpnFs.cons rfl (by kernel_rfl) opn9 (OpnFs.one rfl (by kernel_rfl) opn73))
theorem opn22 : Opn Tryz.prog 22 (TL T_CSet) := Opn.slice und22 (by kernel_rfl) opn75
theorem opn24 : Opn Tryz.prog 24 T_Catalog := Opn.struct Tryz.underlying24 (by kernel_rfl) (OpnFs.one rfl (by kernel_rfl) opn22)
theorem opn3 : Opn Tryz.prog 3 Int := Opn.int und3
theorem und25 : Tryz.prog.underlying 25 = some (.slice 78) := by kernel_rfl
theorem und57 : Tryz.prog.underlying 57 = some (.slice 3) := by kernel_rfl
theorem opn57 : Opn Tryz.prog 57 (TL Int) := Opn.slice und57 (by kernel_rfl) opn3
theorem opn78 : Opn Tryz.prog 78 T_Up := Opn.struct Tryz.underlying78 (by kernel_rfl) (OpnFs.cons rfl (by kernel_rfl) opn9 (OpnFs.cons rfl (by kernel_rfl) opn57 (OpnFs.one rfl (by kernel_rfl) opn3)))
theorem opn25 : Opn Tryz.prog 25 (TL T_Up) := Opn.slice und25 (by kernel_rfl) opn78
theorem opn27 : Opn Tryz.prog 27 T_Ups := Opn.struct Tryz.underlying27 (by kernel_rfl) (OpnFs.cons rfl (by kernel_rfl) opn3 (OpnFs.one rfl (by kernel_rfl) opn25))
theorem und28 : Tryz.prog.underlying 28 = some (.slice 4) := by kernel_rfl
theorem opn4 : Opn Tryz.prog 4 Bool := Opn.bool und4
theorem opn28 : Opn Tryz.prog 28 (TL Bool) := Opn.slice und28 (by kernel_rfl) opn4
theorem own : ownKnob Tryz.prog.godebug = none := by kernel_rfl
theorem laidOut : laidOutB Tryz.prog = true := by kernel_rfl
set_option maxRecDepth 100000 in
theorem lifted (os : Os) (started : os.Started) (H : Type) (enc : TypeId × Value → H) :
    ReturnsInHanded {} Tryz.checked os 3 .any (Rows.fnExactRepairsSpec.pre6 enc Tryz.prog Tryz.f3 Rows.fnExactRepairsRow.domain false) (Rows.fnExactRepairsSpec.post enc Tryz.prog Tryz.f3 false true false false) := by
  refine returnsInHanded_of_change (C := Tryz.checked) own started (by kernel_rfl) Tryz.func3
    (ChangeSpec.witness6 (enc := enc) (C := Tryz.checked) false ⟨#[], #[.agg #[.slice none 0 0], .agg #[.int .i64 0, .slice none 0 0], .slice none 0 0], []⟩ 8 (by kernel_rfl) (by kernel_rfl) (by kernel_rfl) (by kernel_rfl)) ?_
  intro W base args ds gs before hval0 hW hcnd _
  have hval : ∀ (j : Nat) t v, Tryz.f3.params[j]? = some t → args[j]? = some v → Value.okWide Tryz.prog W .any base t v := hval0
  have hW' := hW
  obtain ⟨p, q, hA0, hV, rfl, hfz, hnd⟩ := hW
  have hA : DataW.TrodAll enc Tryz.prog W 0 (fun _ => true) true Tryz.f3.params.toList args.toList ds p := hA0
  rw [Tryz.params3] at hA hval
  obtain ⟨v0, vs0, d0, ds0, p0, q0, hargs, rfl, rfl, h0, r0⟩ := trodAll_cons hA
  obtain ⟨v1, vs1, d1, ds1, p1, q1, rfl, rfl, rfl, h1, r1⟩ := trodAll_cons r0
  obtain ⟨v2, vs2, d2, ds2, p2, q2, rfl, rfl, rfl, h2, r2⟩ := trodAll_cons r1
  obtain ⟨rfl, rfl, rfl⟩ := trodAll_nil r2
  obtain rfl : args = #[v0, v1, v2] := by cases args; simp_all
  obtain ⟨rfl, rfl⟩ := trodVars_none hV
  have k0 := h0
  have lt0 : ∀ x ∈ p0, x.block < W.heap.size := by obtain ⟨m, hm⟩ := k0; exact DataW.trod_lt m _ _ _ hm
  obtain ⟨t0, hc0, g0, o0⟩ : ∃ t : T_Catalog, v0.cells.toList = GT.cells t ∧ GT.rd W [] t ∧ Ok.ok (GT.dat t) := by obtain ⟨m, hm⟩ := h0; exact opn24 enc W _ _ m _ _ hm
  obtain ⟨xs0, rfl, _⟩ := okWide_struct Tryz.underlying24 (hval 0 24 v0 rfl rfl)
  obtain rfl : xs0 = (GT.cells t0).toArray := by rw [← hc0]; simp [Value.cells]
  have k1 := h1
  have lt1 : ∀ x ∈ p1, x.block < W.heap.size := by obtain ⟨m, hm⟩ := k1; exact DataW.trod_lt m _ _ _ hm
  obtain ⟨t1, hc1, g1, o1⟩ : ∃ t : T_Ups, v1.cells.toList = GT.cells t ∧ GT.rd W [] t ∧ Ok.ok (GT.dat t) := by obtain ⟨m, hm⟩ := h1; exact opn27 enc W _ _ m _ _ hm
  obtain ⟨xs1, rfl, _⟩ := okWide_struct Tryz.underlying27 (hval 1 27 v1 rfl rfl)
  obtain rfl : xs1 = (GT.cells t1).toArray := by rw [← hc1]; simp [Value.cells]
  have k2 := h2
  have lt2 : ∀ x ∈ p2, x.block < W.heap.size := by obtain ⟨m, hm⟩ := k2; exact DataW.trod_lt m _ _ _ hm
  obtain ⟨t2, hc2, g2, o2⟩ : ∃ t : TL Bool, v2.cells.toList = GT.cells t ∧ GT.rd W [] t ∧ Ok.ok (GT.dat t) := by obtain ⟨m, hm⟩ := h2; exact opn28 enc W _ _ m _ _ hm
  obtain ⟨sa2, sl2, sc2, hv2⟩ := okWide_slice Tryz.underlying28 (hval 2 28 v2 rfl rfl)
  obtain rfl : v2 = t2.hdr := by subst hv2; exact List.head_eq_of_cons_eq hc2
  clear hA0 hval0
  refine (Spec.top (lawFnExactRepairs W t0 t1 t2 g0 g1 g2 o0 o1 o2)).mono fun e W' ⟨v, M', he, ⟨hv, _⟩, bel⟩ => ?_
  subst he; subst hv
  exact ⟨_, rfl, _, _, _, [], _, [], hW', trodAll_mk1 (shut_bool Tryz.underlying4 _), (trodAll_cons_mk (Below.trod laidOut (by kernel_rfl) (of_decide_eq_true (by kernel_rfl)) k0 bel lt0) (trodAll_cons_mk (Below.trod laidOut (by kernel_rfl) (of_decide_eq_true (by kernel_rfl)) k1 bel lt1) (trodAll_cons_mk (Below.trod laidOut (by kernel_rfl) (of_decide_eq_true (by kernel_rfl)) k2 bel lt2) trodAll_mk0))), rfl, bel.frame _, fun h => by cases h⟩

theorem gMaps : mapsRowed Tryz.prog = true := by kernel_rfl
theorem gIn : (Rows.fnExactRepairsRow.inPlace == Tryz.prog.inPlace 3) = true := by kernel_rfl
theorem gUn : (Rows.fnExactRepairsRow.unfollowed == Tryz.prog.unfollowed 3) = true := by kernel_rfl
theorem gRec : (Rows.fnExactRepairsRow.recurses == Tryz.prog.recurses 3) = true := by kernel_rfl
theorem gNam : (Rows.fnExactRepairsRow.named == Tryz.prog.varsNamed 3) = true := by kernel_rfl
theorem gHeard : Tryz.prog.stopsHeard = true := by kernel_rfl
theorem gEnter : Tryz.prog.mayEnter = true := by kernel_rfl
theorem gLift : (Rows.fnExactRepairsRow.lifted == Tryz.prog.liftsFinal) = true := by kernel_rfl
theorem gKeys : (Rows.fnExactRepairsRow.plainKeys == Tryz.prog.plainKeys) = true := by kernel_rfl
theorem gName : Tryz.prog.funcNamed Rows.fnExactRepairsRow.func = some 3 := by kernel_rfl
theorem closed : joinedFacts Tryz.prog 3 Tryz.f3 Rows.fnExactRepairsSpec Rows.fnExactRepairsRow = true := by
  unfold joinedFacts
  rw [laidOut, gMaps, gIn, gUn, gRec, gNam, gHeard, gEnter, gLift, gKeys]
  kernel_rfl
theorem over : Rows.fnExactRepairsRow.holds Tryz.pinned (OpenSpec.ofChange Rows.fnExactRepairsSpec) :=
  OpenClaim.holds_of_wide 3 Tryz.f3 rfl rfl rfl rfl rfl rfl rfl ⟨rfl, rfl, rfl, rfl, rfl⟩ rfl rfl rfl rfl rfl gName Tryz.func3 closed
    (of_decide_eq_true (by kernel_rfl)) (by unfold Func.isWrapper; first | (rw [if_pos (by decide +kernel)]; kernel_rfl) | (rw [if_neg (by decide +kernel)]; exact ⟨rfl, rfl⟩))
    (fun os started H enc _ => lifted os started H enc)

theorem fnExactRepairs_holds : Rows.FnExactRepairsSaid := over
end Go.Proofs.YthebgoognabinaaGreat
