/- THE STATEMENT Rows.FnExactUpAckSaid: the law FnExactUpAck answers true at every input and leaves its arguments as they were. -/
import Derived.Test.YtimkhmokohidlaaRows
import Derived.ProofKit
import Derived.OpenShut
import Derived.ShutString
import Derived.ChangeOld
import Derived.Carry
import Derived.Below
import Derived.Test.YtimkhmokohidlaaT3
namespace Go.Proofs.Ytimkhmokohidlaa
open Go.ChangeShapes Go.WideShapes Go.ChangeAt Go.RowKit Go.Proofs.SL
set_option linter.unusedVariables false
theorem opn3 : Opn Try.prog 3 Int := Opn.int und3.h
theorem und84 : Try.prog.underlying 84 = some (.slice 169) := by kernel_rfl
theorem opn9 : Opn Try.prog 9 ByteArray := Opn.str und9.h
theorem und34 : Try.prog.underlying 34 = some (.slice 3) := by kernel_rfl
theorem opn34 : Opn Try.prog 34 (TL Int) := Opn.slice und34 (by kernel_rfl) opn3
theorem opn169 : Opn Try.prog 169 T_Up := Opn.struct Try.underlying169 (by kernel_rfl) (OpnFs.cons rfl (by kernel_rfl) opn9 (OpnFs.cons rfl (by kernel_rfl) opn34 (OpnFs.one rfl (by kernel_rfl) opn3)))
theorem opn84 : Opn Try.prog 84 (TL T_Up) := Opn.slice und84 (by kernel_rfl) opn169
theorem opn86 : Opn Try.prog 86 T_Ups := Opn.struct Try.underlying86 (by kernel_rfl) (OpnFs.cons rfl (by kernel_rfl) opn3 (OpnFs.one rfl (by kernel_rfl) opn84))
theorem own : ownKnob Try.prog.godebug = none := by kernel_rfl
theorem laidOut : laidOutB Try.prog = true := by kernel_rfl
set_option maxRecDepth 100000 in
theorem lifted (os : Os) (started : os.Started) (H : Type) (enc : TypeId × Value → H) :
    ReturnsInHanded {} Try.checked os 8 .any (Rows.fnExactUpAckSpec.pre6 enc Try.prog Try.f8 Rows.fnExactUpAckRow.domain false) (Rows.fnExactUpAckSpec.post enc Try.prog Try.f8 false true false false) := by
  refine returnsInHanded_of_change (C := Try.checked) own started (by kernel_rfl) Try.func8
    (ChangeSpec.witness6 (enc := enc) (C := Try.checked) false ⟨#[], #[.agg #[.int .i64 0, .slice none 0 0], .string ByteArray.empty, .int .i64 0], []⟩ 8 (by kernel_rfl) (by kernel_rfl) (by kernel_rfl) (by kernel_rfl)) ?_
  intro W base args ds gs before hval0 hW hcnd _
  have hval : ∀ (j : Nat) t v, Try.f8.params[j]? = some t → args[j]? = some v → Value.okWide Try.prog W .any base t v := hval0
  have hW' := hW
  obtain ⟨p, q, hA0, hV, rfl, hfz, hnd⟩ := hW
  have hA : DataW.TrodAll enc Try.prog W 0 (fun _ => true) true Try.f8.params.toList args.toList ds p := hA0
  rw [Try.params8] at hA hval
  obtain ⟨v0, vs0, d0, ds0, p0, q0, hargs, rfl, rfl, h0, r0⟩ := trodAll_cons hA
  obtain ⟨v1, vs1, d1, ds1, p1, q1, rfl, rfl, rfl, h1, r1⟩ := trodAll_cons r0
  obtain ⟨v2, vs2, d2, ds2, p2, q2, rfl, rfl, rfl, h2, r2⟩ := trodAll_cons r1
  obtain ⟨rfl, rfl, rfl⟩ := trodAll_nil r2
  obtain rfl : args = #[v0, v1, v2] := by cases args; simp_all
  obtain ⟨rfl, rfl⟩ := trodVars_none hV
  have k0 := h0
  have lt0 : ∀ x ∈ p0, x.block < W.heap.size := by obtain ⟨m, hm⟩ := k0; exact DataW.trod_lt m _ _ _ hm
  obtain ⟨t0, hc0, g0, o0⟩ : ∃ t : T_Ups, v0.cells.toList = GT.cells t ∧ GT.rd W [] t ∧ Ok.ok (GT.dat t) := by obtain ⟨m, hm⟩ := h0; exact opn86 enc W _ _ m _ _ hm
  obtain ⟨xs0, rfl, _⟩ := okWide_struct Try.underlying86 (hval 0 86 v0 rfl rfl)
  obtain rfl : xs0 = (GT.cells t0).toArray := by rw [← hc0]; simp [Value.cells]
  have k1 := h1
  have lt1 : ∀ x ∈ p1, x.block < W.heap.size := by obtain ⟨m, hm⟩ := k1; exact DataW.trod_lt m _ _ _ hm
  obtain ⟨t1, hc1, g1, o1⟩ : ∃ t : ByteArray, v1.cells.toList = GT.cells t ∧ GT.rd W [] t ∧ Ok.ok (GT.dat t) := by obtain ⟨m, hm⟩ := h1; exact opn9 enc W _ _ m _ _ hm
  obtain ⟨sn1, hv1⟩ := okWide_string Try.underlying9 (hval 1 9 v1 rfl rfl)
  obtain rfl : v1 = .string t1 := by subst hv1; exact List.head_eq_of_cons_eq hc1
  have k2 := h2
  have lt2 : ∀ x ∈ p2, x.block < W.heap.size := by obtain ⟨m, hm⟩ := k2; exact DataW.trod_lt m _ _ _ hm
  obtain ⟨t2, hc2, g2, o2⟩ : ∃ t : Int, v2.cells.toList = GT.cells t ∧ GT.rd W [] t ∧ Ok.ok (GT.dat t) := by obtain ⟨m, hm⟩ := h2; exact opn3 enc W _ _ m _ _ hm
  obtain ⟨sn2, hv2⟩ := okWide_int Try.underlying3 (hval 2 3 v2 rfl rfl)
  obtain rfl : v2 = .int .i64 t2 := by subst hv2; exact List.head_eq_of_cons_eq hc2
  clear hA0 hval0
  refine (Spec.top (lawFnExactUpAck W t0 t1 t2 g0 g1 g2 o0 o1 o2)).mono fun e W' ⟨v, M', he, ⟨hv, _⟩, bel⟩ => ?_
  subst he; subst hv
  exact ⟨_, rfl, _, _, _, [], _, [], hW', trodAll_mk1 (shut_bool Try.underlying4 _), (trodAll_cons_mk (Below.trod laidOut (by kernel_rfl) (of_decide_eq_true (by kernel_rfl)) k0 bel lt0) (trodAll_cons_mk (Below.trod laidOut (by kernel_rfl) (of_decide_eq_true (by kernel_rfl)) k1 bel lt1) (trodAll_cons_mk (Below.trod laidOut (by kernel_rfl) (of_decide_eq_true (by kernel_rfl)) k2 bel lt2) trodAll_mk0))), rfl, bel.frame _, fun h => by cases h⟩

theorem gMaps : mapsRowed Try.prog = true := by kernel_rfl
theorem gIn : (Rows.fnExactUpAckRow.inPlace == Try.prog.inPlace 8) = true := by kernel_rfl
theorem gUn : (Rows.fnExactUpAckRow.unfollowed == Try.prog.unfollowed 8) = true := by kernel_rfl
theorem gRec : (Rows.fnExactUpAckRow.recurses == Try.prog.recurses 8) = true := by kernel_rfl
theorem gNam : (Rows.fnExactUpAckRow.named == Try.prog.varsNamed 8) = true := by kernel_rfl
theorem gHeard : Try.prog.stopsHeard = true := by kernel_rfl
theorem gEnter : Try.prog.mayEnter = true := by kernel_rfl
theorem gLift : (Rows.fnExactUpAckRow.lifted == Try.prog.liftsFinal) = true := by kernel_rfl
theorem gKeys : (Rows.fnExactUpAckRow.plainKeys == Try.prog.plainKeys) = true := by kernel_rfl
theorem gName : Try.prog.funcNamed Rows.fnExactUpAckRow.func = some 8 := by kernel_rfl
theorem closed : joinedFacts Try.prog 8 Try.f8 Rows.fnExactUpAckSpec Rows.fnExactUpAckRow = true := by
  unfold joinedFacts
  rw [laidOut, gMaps, gIn, gUn, gRec, gNam, gHeard, gEnter, gLift, gKeys]
  kernel_rfl
theorem over : Rows.fnExactUpAckRow.holds Try.pinned (OpenSpec.ofChange Rows.fnExactUpAckSpec) :=
  OpenClaim.holds_of_wide 8 Try.f8 rfl rfl rfl rfl rfl rfl rfl ⟨rfl, rfl, rfl, rfl, rfl⟩ rfl rfl rfl rfl rfl gName Try.func8 closed
    (of_decide_eq_true (by kernel_rfl)) (by unfold Func.isWrapper; first | (rw [if_pos (by decide +kernel)]; kernel_rfl) | (rw [if_neg (by decide +kernel)]; exact ⟨rfl, rfl⟩))
    (fun os started H enc _ => lifted os started H enc)

theorem fnExactUpAck_holds : Rows.FnExactUpAckSaid := over
end Go.Proofs.Ytimkhmokohidlaa
