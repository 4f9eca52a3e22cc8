/- THE STATEMENT Rows.FnExactLostSaid: the law FnExactLost answers true at every input and leaves its arguments as they were. -/
import Derived.Test.YthebgoognabinaaLLost
import Derived.Test.YthebgoognabinaaRows
import Derived.ProofKit
import Derived.OpenShut
import Derived.ShutString
import Derived.ChangeOld
import Derived.Carry
import Derived.Below
namespace Go.Proofs.Ythebgoognabinaa
open Go.ChangeShapes Go.WideShapes Go.ChangeAt Go.RowKit Go.Proofs.SL
set_option linter.unusedVariables false
theorem und90 : Try.prog.underlying 90 = some (.slice 238) := by kernel_rfl
theorem opn9 : Opn Try.prog 9 ByteArray := Opn.str und9
theorem und236 : Try.prog.underlying 236 = some (.slice 324) := by kernel_rfl
theorem und48 : Try.prog.underlying 48 = some (.slice 9) := by kernel_rfl
theorem opn48 : Opn Try.prog 48 (TL ByteArray) := Opn.slice und48 (by kernel_rfl) opn9
theorem opn324 : Opn Try.prog 324 T_CSnap := Opn.struct Try.underlying324 (by kernel_rfl) (OpnFs.cons rfl (by kernel_rfl) opn9 (OpnFs.cons rfl (by kernel_rfl) opn9 (OpnFs.one rfl (by kernel_rfl) opn48)))
theorem opn236 : Opn Try.prog 236 (TL T_CSnap) := Opn.slice und236 (by kernel_rfl) opn324
theorem opn238 : Opn Try.prog 238 T_CSet := Opn.struct Try.underlying238 (by kernel_rfl) (OpnFs.cons rfl (by kernel_rfl) opn9 (OpnFs.one rfl (by kernel_rfl) opn236))
theorem opn90 : Opn Try.prog 90 (TL T_CSet) := Opn.slice und90 (by kernel_rfl) opn238
theorem opn92 : Opn Try.prog 92 T_Catalog := Opn.struct Try.underlying92 (by kernel_rfl) (OpnFs.one rfl (by kernel_rfl) opn90)
theorem opn3 : Opn Try.prog 3 Int := Opn.int und3
theorem und22 : Try.prog.underlying 22 = some (.slice 211) := by kernel_rfl
theorem und49 : Try.prog.underlying 49 = some (.slice 3) := by kernel_rfl
theorem opn49 : Opn Try.prog 49 (TL Int) := Opn.slice und49 (by kernel_rfl) opn3
theorem opn211 : Opn Try.prog 211 T_Up := Opn.struct Try.underlying211 (by kernel_rfl) (OpnFs.cons rfl (by kernel_rfl) opn9 (OpnFs.cons rfl (by kernel_rfl) opn49 (OpnFs.one rfl (by kernel_rfl) opn3)))
theorem opn22 : Opn Try.prog 22 (TL T_Up) := Opn.slice und22 (by kernel_rfl) opn211
theorem opn24 : Opn Try.prog 24 T_Ups := Opn.struct Try.underlying24 (by kernel_rfl) (OpnFs.cons rfl (by kernel_rfl) opn3 (OpnFs.one rfl (by kernel_rfl) opn22))
theorem und101 : Try.prog.underlying 101 = some (.slice 4) := by kernel_rfl
theorem opn4 : Opn Try.prog 4 Bool := Opn.bool und4
theorem opn101 : Opn Try.prog 101 (TL Bool) := Opn.slice und101 (by kernel_rfl) opn4
theorem own : ownKnob Try.prog.godebug = none := by kernel_rfl
theorem laidOut : laidOutB Try.prog = true := by kernel_rfl
set_option maxRecDepth 100000 in
theorem lifted (os : Os) (started : os.Started) (H : Type) (enc : TypeId × Value → H) :
    ReturnsInHanded {} Try.checked os 11 .any (Rows.fnExactLostSpec.pre6 enc Try.prog Try.f11 Rows.fnExactLostRow.domain false) (Rows.fnExactLostSpec.post enc Try.prog Try.f11 false true false false) := by
  refine returnsInHanded_of_change (C := Try.checked) own started (by kernel_rfl) Try.func11
    (ChangeSpec.witness6 (enc := enc) (C := Try.checked) false ⟨#[], #[.agg #[.slice none 0 0], .agg #[.int .i64 0, .slice none 0 0], .slice none 0 0], []⟩ 8 (by kernel_rfl) (by kernel_rfl) (by kernel_rfl) (by kernel_rfl)) ?_
  intro W base args ds gs before hval0 hW hcnd _
  have hval : ∀ (j : Nat) t v, Try.f11.params[j]? = some t → args[j]? = some v → Value.okWide Try.prog W .any base t v := hval0
  have hW' := hW
  obtain ⟨p, q, hA0, hV, rfl, hfz, hnd⟩ := hW
  have hA : DataW.TrodAll enc Try.prog W 0 (fun _ => true) true Try.f11.params.toList args.toList ds p := hA0
  rw [Try.params11] at hA hval
  obtain ⟨v0, vs0, d0, ds0, p0, q0, hargs, rfl, rfl, h0, r0⟩ := trodAll_cons hA
  obtain ⟨v1, vs1, d1, ds1, p1, q1, rfl, rfl, rfl, h1, r1⟩ := trodAll_cons r0
  obtain ⟨v2, vs2, d2, ds2, p2, q2, rfl, rfl, rfl, h2, r2⟩ := trodAll_cons r1
  obtain ⟨rfl, rfl, rfl⟩ := trodAll_nil r2
  obtain rfl : args = #[v0, v1, v2] := by cases args; simp_all
  obtain ⟨rfl, rfl⟩ := trodVars_none hV
  have k0 := h0
  have lt0 : ∀ x ∈ p0, x.block < W.heap.size := by obtain ⟨m, hm⟩ := k0; exact DataW.trod_lt m _ _ _ hm
  obtain ⟨t0, hc0, g0, o0⟩ : ∃ t : T_Catalog, v0.cells.toList = GT.cells t ∧ GT.rd W [] t ∧ Ok.ok (GT.dat t) := by obtain ⟨m, hm⟩ := h0; exact opn92 enc W _ _ m _ _ hm
  obtain ⟨xs0, rfl, _⟩ := okWide_struct Try.underlying92 (hval 0 92 v0 rfl rfl)
  obtain rfl : xs0 = (GT.cells t0).toArray := by rw [← hc0]; simp [Value.cells]
  have k1 := h1
  have lt1 : ∀ x ∈ p1, x.block < W.heap.size := by obtain ⟨m, hm⟩ := k1; exact DataW.trod_lt m _ _ _ hm
  obtain ⟨t1, hc1, g1, o1⟩ : ∃ t : T_Ups, v1.cells.toList = GT.cells t ∧ GT.rd W [] t ∧ Ok.ok (GT.dat t) := by obtain ⟨m, hm⟩ := h1; exact opn24 enc W _ _ m _ _ hm
  obtain ⟨xs1, rfl, _⟩ := okWide_struct Try.underlying24 (hval 1 24 v1 rfl rfl)
  obtain rfl : xs1 = (GT.cells t1).toArray := by rw [← hc1]; simp [Value.cells]
  have k2 := h2
  have lt2 : ∀ x ∈ p2, x.block < W.heap.size := by obtain ⟨m, hm⟩ := k2; exact DataW.trod_lt m _ _ _ hm
  obtain ⟨t2, hc2, g2, o2⟩ : ∃ t : TL Bool, v2.cells.toList = GT.cells t ∧ GT.rd W [] t ∧ Ok.ok (GT.dat t) := by obtain ⟨m, hm⟩ := h2; exact opn101 enc W _ _ m _ _ hm
  obtain ⟨sa2, sl2, sc2, hv2⟩ := okWide_slice Try.underlying101 (hval 2 101 v2 rfl rfl)
  obtain rfl : v2 = t2.hdr := by subst hv2; exact List.head_eq_of_cons_eq hc2
  clear hA0 hval0
  refine (Spec.top (lawFnExactLost W t0 t1 t2 g0 g1 g2 o0 o1 o2)).mono fun e W' ⟨v, M', he, ⟨hv, _⟩, bel⟩ => ?_
  subst he; subst hv
  exact ⟨_, rfl, _, _, _, [], _, [], hW', trodAll_mk1 (shut_bool Try.underlying4 _), (trodAll_cons_mk (Below.trod laidOut (by kernel_rfl) (of_decide_eq_true (by kernel_rfl)) k0 bel lt0) (trodAll_cons_mk (Below.trod laidOut (by kernel_rfl) (of_decide_eq_true (by kernel_rfl)) k1 bel lt1) (trodAll_cons_mk (Below.trod laidOut (by kernel_rfl) (of_decide_eq_true (by kernel_rfl)) k2 bel lt2) trodAll_mk0))), rfl, bel.frame _, fun h => by cases h⟩

theorem gMaps : mapsRowed Try.prog = true := by kernel_rfl
theorem gIn : (Rows.fnExactLostRow.inPlace == Try.prog.inPlace 11) = true := by kernel_rfl
theorem gUn : (Rows.fnExactLostRow.unfollowed == Try.prog.unfollowed 11) = true := by kernel_rfl
theorem gRec : (Rows.fnExactLostRow.recurses == Try.prog.recurses 11) = true := by kernel_rfl
theorem gNam : (Rows.fnExactLostRow.named == Try.prog.varsNamed 11) = true := by kernel_rfl
theorem gHeard : Try.prog.stopsHeard = true := by kernel_rfl
theorem gEnter : Try.prog.mayEnter = true := by kernel_rfl
theorem gLift : (Rows.fnExactLostRow.lifted == Try.prog.liftsFinal) = true := by kernel_rfl
theorem gKeys : (Rows.fnExactLostRow.plainKeys == Try.prog.plainKeys) = true := by kernel_rfl
theorem gName : Try.prog.funcNamed Rows.fnExactLostRow.func = some 11 := by kernel_rfl
theorem closed : joinedFacts Try.prog 11 Try.f11 Rows.fnExactLostSpec Rows.fnExactLostRow = true := by
  unfold joinedFacts
  rw [laidOut, gMaps, gIn, gUn, gRec, gNam, gHeard, gEnter, gLift, gKeys]
  kernel_rfl
theorem over : Rows.fnExactLostRow.holds Try.pinned (OpenSpec.ofChange Rows.fnExactLostSpec) :=
  OpenClaim.holds_of_wide 11 Try.f11 rfl rfl rfl rfl rfl rfl rfl ⟨rfl, rfl, rfl, rfl, rfl⟩ rfl rfl rfl rfl rfl gName Try.func11 closed
    (of_decide_eq_true (by kernel_rfl)) (by unfold Func.isWrapper; first | (rw [if_pos (by decide +kernel)]; kernel_rfl) | (rw [if_neg (by decide +kernel)]; exact ⟨rfl, rfl⟩))
    (fun os started H enc _ => lifted os started H enc)

theorem fnExactLost_holds : Rows.FnExactLostSaid := over
end Go.Proofs.Ythebgoognabinaa
