/- The texts of the proof, part 3: the base, walks of functions, plain Lean. -/
import Derived.Test.YtimkhmokohidlaaT2
import Derived.Test.YtimkhmokohidlaaRows
namespace Go.Proofs.SL
open Go
set_option maxHeartbeats 2000000
instance fn105 : FnF Try.prog 105 := ⟨⟨_, Try.func105, by kernel_rfl, rfl⟩⟩
instance fn138 : FnF Try.prog 138 := ⟨⟨_, Try.func138, by kernel_rfl, rfl⟩⟩
instance fn101 : FnF Try.prog 101 := ⟨⟨_, Try.func101, by kernel_rfl, rfl⟩⟩
instance fn103 : FnF Try.prog 103 := ⟨⟨_, Try.func103, by kernel_rfl, rfl⟩⟩
instance fn102 : FnF Try.prog 102 := ⟨⟨_, Try.func102, by kernel_rfl, rfl⟩⟩
instance fn95 : FnF Try.prog 95 := ⟨⟨_, Try.func95, by kernel_rfl, rfl⟩⟩
instance fn96 : FnF Try.prog 96 := ⟨⟨_, Try.func96, by kernel_rfl, rfl⟩⟩
instance fn99 : FnF Try.prog 99 := ⟨⟨_, Try.func99, by kernel_rfl, rfl⟩⟩
instance fn107 : FnF Try.prog 107 := ⟨⟨_, Try.func107, by kernel_rfl, rfl⟩⟩
instance fn106 : FnF Try.prog 106 := ⟨⟨_, Try.func106, by kernel_rfl, rfl⟩⟩
instance fn108 : FnF Try.prog 108 := ⟨⟨_, Try.func108, by kernel_rfl, rfl⟩⟩
noncomputable def i_with (a0 : List Int) (a1 : Int) : Option (List Int) :=
  Option.bind (appP ([] : List Int) a0) (fun y2 => Option.bind (sl_Contains_intint y2 a1) (fun y3 => cond (!y3) (Option.bind (appP y2 [a1]) (fun y6 => Option.bind (sortIP y6) (fun y7 => some y7))) (Option.bind (sortIP y2) (fun y8 => some y8))))
theorem i_with_walk (w : World) (a0 : TL Int) (a1 : Int) (h0 : GT.rd w [] a0) (r : (List Int)) (hp : i_with (GT.dat a0) a1 = some r) : Spec Try.prog 96 [(TL.hdr a0), .int .i64 a1].toArray w [] (fun v M => ∃ (x0 : TL Int), v = (TL.hdr x0) ∧ GT.dat x0 = r ∧ M = [treeH x0]) := by
  refine Spec.intro Try.func96 rfl Try.ntmps96 rfl ?_
  unfold i_with at hp
  replace hp := dd hp
  refine s2 ?_
  refine L_assign (v := (TL.hdr (TL.nil Int 0))) rfl rfl ?_
  refine s4 ?_
  refine L_conv (M' := treeH (TL.nil Int 0) :: _) (fun w h => addNilT _ h) ?_
  replace hp := ba hp; obtain ⟨y2, hy2, hp⟩ := hp
  refine L_appT (X := (TL.nil Int 0)) (Y := a0) rfl rfl rfl el34.h rfl rfl pk (RdT.old h0) hy2 (by decide) (fun X1 hdX1 => ?_)
  subst hdX1
  refine s7 ?_
  replace hp := ba hp; obtain ⟨y3, hy3, hp⟩ := hp
  refine L_callX rfl fn105.h rfl (by exact fun w hw => sl_Contains_intint_walk w X1 a1 (RdT.now (RdT.tree mm) hw) _ hy3) ?_
  refine s2 ?_
  refine kp [1, 5, 11] ?_
  refine W_cond rfl (fun hc4 => ?_) (fun hc4 => ?_)
  · replace hp := cond_t hc4 hp
    refine s3 ?_
    refine L_buildSlice1 rfl rfl el34.h rfl (by decide) (by decide) rfl (fun bb14 => ?_)
    replace hp := ba hp; obtain ⟨y6, hy6, hp⟩ := hp
    refine L_app1F (X := X1) (a1 : Int) rfl rfl rfl el34.h rfl rfl pk mm  hy6 (by decide) (fun X5 hdX5 => ?_)
    subst hdX5
    refine s5 ?_
    replace hp := ba hp; obtain ⟨y7, hy7, hp⟩ := hp
    refine L_callM [treeH X5] _ rfl fn138.h rfl pc (by exact fun w hw => sl_Sort_intint_walk w X5  _ hy7) ?_
    rintro _ _ ⟨y7y0, rfl, rfl, rfl, hey7_0⟩
    try rw [← hey7_0]
    refine sc ?_
    replace hp := dd hp
    refine s6 ?_
    obtain rfl := Option.some.inj hp
    refine s1 ?_
    refine res1 rfl (ResOK.tmp rfl) ⟨y7y0, rfl, rfl, rfl⟩ ms
  · replace hp := cond_f hc4 hp
    refine s4 ?_
    replace hp := ba hp; obtain ⟨y8, hy8, hp⟩ := hp
    refine L_callM [treeH X1] _ rfl fn138.h rfl pc (by exact fun w hw => sl_Sort_intint_walk w X1  _ hy8) ?_
    rintro _ _ ⟨y8y0, rfl, rfl, rfl, hey8_0⟩
    try rw [← hey8_0]
    refine sc ?_
    replace hp := dd hp
    refine s6 ?_
    obtain rfl := Option.some.inj hp
    refine s1 ?_
    refine res1 rfl (ResOK.tmp rfl) ⟨y8y0, rfl, rfl, rfl⟩ ms
noncomputable def s_UpAck (a0 : D_Ups) (a1 : ByteArray) (a2 : Int) : Option (D_Ups × Bool) :=
  Option.bind (s_UpsOk (a0.1, a0.2)) (fun y1 => cond (!y1) (some ((0, ([] : List D_Up)), false)) (Option.bind (s_l18At (a0.1, a0.2) a1) (fun y3 => Option.bind (some ([] : List Int)) (fun y5 => cond (decide (0 ≤ y3)) (Option.bind (idx a0.2 y3) (fun y7 => Option.bind (s_l18With y7.2.1 a2 true) (fun y8 => Option.bind (s_l18Copy (a0.1, a0.2)) (fun y9 => Option.bind (s_l18Set (y9.1, y9.2) (a1, y8, a0.1)) (fun y10 => Option.bind (s_l9Node a2) (fun y11 => gb (!(!y11)) (s_UpsOk (y10.1, y10.2)) (fun y12 => cond ((!y11) || (!y12)) (Option.bind (s_l18Copy (a0.1, a0.2)) (fun y14 => some ((y14.1, y14.2), false))) (some ((y10.1, y10.2), true))))))))) (Option.bind (s_l18With y5 a2 true) (fun y15 => Option.bind (s_l18Copy (a0.1, a0.2)) (fun y16 => Option.bind (s_l18Set (y16.1, y16.2) (a1, y15, a0.1)) (fun y17 => Option.bind (s_l9Node a2) (fun y18 => gb (!(!y18)) (s_UpsOk (y17.1, y17.2)) (fun y19 => cond ((!y18) || (!y19)) (Option.bind (s_l18Copy (a0.1, a0.2)) (fun y21 => some ((y21.1, y21.2), false))) (some ((y17.1, y17.2), true))))))))))))
theorem s_UpAck_walk (w : World) (a0 : T_Ups) (a1 : ByteArray) (a2 : Int) (h0 : GT.rd w [] a0) (r : D_Ups × Bool) (hp : s_UpAck (GT.dat a0) a1 a2 = some r) : Spec Try.prog 43 [.agg (GT.cells a0).toArray, .string a1, .int .i64 a2].toArray w [] (fun v M => ∃ (x0 : T_Ups) (x1 : Bool), v = .tuple #[.agg (GT.cells x0).toArray, .bool x1] ∧ (GT.dat x0, GT.dat x1) = r ∧ M = [treeH x0]) := by
  obtain ⟨a0_1, a0_2⟩ := a0
  change Spec _ _ ([Value.agg #[.int .i64 a0_1, (TL.hdr a0_2)], .string a1, .int .i64 a2] : List Value).toArray w [] _
  refine Spec.intro Try.func43 rfl Try.ntmps43 rfl ?_
  unfold s_UpAck at hp
  replace hp := dd hp
  refine s2 ?_
  refine bx fun bk3 => ?_
  refine al fun bk6 => ?_
  refine s6 ?_
  replace hp := ba hp; obtain ⟨y1, hy1, hp⟩ := hp
  refine L_callX rfl fn48.h rfl (by exact fun w hw => s_UpsOk_walk w (a0_1, a0_2) (RdT.now (RdT.pair RdT.int (RdT.old h0.2)) hw) _ hy1) ?_
  refine s2 ?_
  refine kp [1, 2, 3, 6, 14] ?_
  refine W_cond rfl (fun hc2 => ?_) (fun hc2 => ?_)
  · replace hp := cond_t hc2 hp
    refine s2 ?_
    refine L_build (xs := []) (cs := [.int .i64 0, (TL.hdr (TL.nil T_Up 0))]) rfl rfl bld71.h rfl ?_
    refine s3 ?_
    obtain rfl := Option.some.inj hp
    refine W_conv (M' := treeH (TL.nil T_Up 0) :: _) (fun w h => addNilT (τ := T_Up) 0 h) ?_
    refine jW ((0, (TL.nil T_Up 0)) : T_Ups) ?_
    refine s1 ?_
    refine res2 rfl (ResOK.cell rfl mm (by exact agg71.h)) (ResOK.tmp rfl) ⟨(0, (TL.nil T_Up 0)), false, rfl, rfl, rfl⟩ ms
  · replace hp := cond_f hc2 hp
    refine s6 ?_
    refine L_build (xs := [(0, .tmp 16), (2, .tmp 18)]) (cs := [.string a1, (TL.hdr (TL.nil Int 0)), .int .i64 a0_1]) rfl rfl bld129.h rfl ?_
    refine al fun bk8 => ?_
    refine s6 ?_
    replace hp := ba hp; obtain ⟨y3, hy3, hp⟩ := hp
    refine L_callX rfl fn100.h rfl (by exact fun w hw => s_l18At_walk w (a0_1, a0_2) a1 (RdT.now (RdT.pair RdT.int (RdT.old h0.2)) hw) _ hy3) ?_
    refine s4 ?_
    replace hp := ba hp; obtain ⟨y5, hy5, hp⟩ := hp
    refine L_mk0 Int rfl el34.h (fun X4 hdX4 => ?_)
    obtain rfl : GT.dat X4 = y5 := hdX4.trans (Option.some.inj hy5)
    clear hy5 hdX4
    refine s8 ?_
    refine kp [2, 3, 6, 8, 9, 10, 25] ?_
    refine W_cond rfl (fun hc6 => ?_) (fun hc6 => ?_)
    · replace hp := cond_t hc6 hp
      refine s4 ?_
      replace hp := idx_bind hp; obtain ⟨⟨u7_1, u7_2, u7_3⟩, hy7, hp⟩ := hp
      refine L_idxA (X := a0_2) rfl rfl rfl el69.h (RdT.old h0.2) hy7 ?_
      refine s1 ?_
      refine L_load rfl rfl (RdT.at (RdT.old h0.2) (hy7).2) one34.h rfl ?_
      refine s6 ?_
      replace hp := ba hp; obtain ⟨y8, hy8, hp⟩ := hp
      refine L_callR rfl fn101.h rfl (by exact fun w hw => s_l18With_walk w u7_2 a2 true (RdT.now (RdT.fst (RdT.snd (RdT.of (RdT.old h0.2) (hy7).2))) hw) _ hy8) ?_
      rintro _ _ ⟨y8x0, rfl, rfl, rfl⟩
      refine sc ?_
      replace hp := dd hp
      refine s4 ?_
      replace hp := ba hp; obtain ⟨y9, hy9, hp⟩ := hp
      replace hp := ba hp; obtain ⟨y10, hy10, hp⟩ := hp
      refine W_DS (pre := [_, _, _, _, _]) (suf := [_]) [11, 39] [treeH y8x0] _ pc mix (by kernel_rfl) (by kernel_rfl) rfl ?_
      refine s1 ?_
      refine D_call1R (fun v M => ∃ (x0 : T_Ups), v = .agg (GT.cells x0).toArray ∧ GT.dat x0 = y9 ∧ M = [treeH x0]) fn103.h (OpVs.cons (OpV.t rfl) (OpVs.nil)) (by exact fun w F hF hM => s_l18Copy_walk w (a0_1, a0_2) (RdT.nowS (RdT.pair RdT.int (RdT.old h0.2)) hF hM) _ hy9) ?_
      refine s1 ?_
      refine D_callC (t := 37) (fun v M => ∃ (x0 : T_Ups), v = .agg (GT.cells x0).toArray ∧ GT.dat x0 = y9 ∧ M = [treeH x0]) (fun v M => ∃ (x0 : T_Ups), v = .agg (GT.cells x0).toArray ∧ GT.dat x0 = y10 ∧ M = [treeH x0]) [treeH y8x0] (fun u => [u, .agg #[.string a1, (TL.hdr y8x0), .int .i64 a0_1]]) pc rfl fn102.h (fun u => (OpVs.cons (OpV.t rfl) (OpVs.cons (OpV.t rfl) (OpVs.nil)))) (by rintro w F v M ⟨q0, rfl, hd, rfl⟩ hw hM; obtain ⟨q0_1, q0_2⟩ := q0; subst hd; exact Spec.pre (M' := [treeH q0_2, treeH y8x0]) (fun _ _ h => Exp.h (t := ((q0_1, q0_2) : T_Ups)) ex pk h) (s_l18Set_walk w (q0_1, q0_2) (a1, y8x0, a0_1)  _ hy10)) (by kernel_rfl) ?_
      refine D_alloc zero71.h ?_
      refine s1 ?_
      refine Give_R rfl rfl ?_
      rintro _ _ ⟨bk11, rfl, rfl⟩
      simp only [List.cons_append, List.nil_append]
      refine Give_R rfl rfl ?_
      rintro _ _ ⟨⟨y10x0_1, y10x0_2⟩, rfl, rfl, rfl⟩
      refine s4 ?_
      refine sc ?_
      replace hp := dd hp
      refine xL ((y10x0_1, y10x0_2) : T_Ups) ?_
      refine s4 ?_
      replace hp := ba hp; obtain ⟨y11, hy11, hp⟩ := hp
      replace hp := gb_any hp; obtain ⟨y12, hy12, hp⟩ := hp
      refine W_D0 [47] mix (by kernel_rfl) rfl ?_
      refine s1 ?_
      refine D_callX GC.none fn104.h (OpVs.cons (OpV.t rfl) (OpVs.nil)) (by exact fun hg w F hF hM => s_l9Node_walk w a2  _ hy11) ?_
      refine s3 ?_
      refine D_callX (GC.some rfl rfl) fn48.h (OpVs.cons (OpV.s rfl) (OpVs.nil)) (by exact fun hg w F hF hM => s_UpsOk_walk w (y10x0_1, y10x0_2) (RdT.nowS (RdT.pair RdT.int (RdT.tree mm)) hF hM) _ (hy12 (gnot hg.2))) ?_
      refine s12 ?_
      refine kp [3, 6, 11, 47] ?_
      refine W_cond rfl (fun hc13 => ?_) (fun hc13 => ?_)
      · replace hp := cond_t hc13 hp
        refine s3 ?_
        replace hp := ba hp; obtain ⟨y14, hy14, hp⟩ := hp
        refine L_callR rfl fn103.h rfl (by exact fun w hw => s_l18Copy_walk w (a0_1, a0_2) (RdT.now (RdT.pair RdT.int (RdT.old h0.2)) hw) _ hy14) ?_
        rintro _ _ ⟨⟨y14x0_1, y14x0_2⟩, rfl, rfl, rfl⟩
        refine sc ?_
        replace hp := dd hp
        refine xL ((y14x0_1, y14x0_2) : T_Ups) ?_
        refine s3 ?_
        obtain rfl := Option.some.inj hp
        refine jW ((y14x0_1, y14x0_2) : T_Ups) ?_
        refine s1 ?_
        refine res2 rfl (ResOK.cell rfl mm (by exact agg71.h)) (ResOK.tmp rfl) ⟨(y14x0_1, y14x0_2), false, rfl, rfl, rfl⟩ ms
      · replace hp := cond_f hc13 hp
        refine s7 ?_
        obtain rfl := Option.some.inj hp
        refine jW ((y10x0_1, y10x0_2) : T_Ups) ?_
        refine s1 ?_
        refine res2 rfl (ResOK.cell rfl mm (by exact agg71.h)) (ResOK.tmp rfl) ⟨(y10x0_1, y10x0_2), true, rfl, rfl, rfl⟩ ms
    · replace hp := cond_f hc6 hp
      refine s5 ?_
      replace hp := ba hp; obtain ⟨y15, hy15, hp⟩ := hp
      refine L_callR rfl fn101.h rfl (by exact fun w hw => s_l18With_walk w X4 a2 true (RdT.now (RdT.tree mm) hw) _ hy15) ?_
      rintro _ _ ⟨y15x0, rfl, rfl, rfl⟩
      refine sc ?_
      replace hp := dd hp
      refine s4 ?_
      replace hp := ba hp; obtain ⟨y16, hy16, hp⟩ := hp
      replace hp := ba hp; obtain ⟨y17, hy17, hp⟩ := hp
      refine W_DS (pre := [_, _, _, _, _]) (suf := [_]) [11, 39] [treeH y15x0] _ pc mix (by kernel_rfl) (by kernel_rfl) rfl ?_
      refine s1 ?_
      refine D_call1R (fun v M => ∃ (x0 : T_Ups), v = .agg (GT.cells x0).toArray ∧ GT.dat x0 = y16 ∧ M = [treeH x0]) fn103.h (OpVs.cons (OpV.t rfl) (OpVs.nil)) (by exact fun w F hF hM => s_l18Copy_walk w (a0_1, a0_2) (RdT.nowS (RdT.pair RdT.int (RdT.old h0.2)) hF hM) _ hy16) ?_
      refine s1 ?_
      refine D_callC (t := 37) (fun v M => ∃ (x0 : T_Ups), v = .agg (GT.cells x0).toArray ∧ GT.dat x0 = y16 ∧ M = [treeH x0]) (fun v M => ∃ (x0 : T_Ups), v = .agg (GT.cells x0).toArray ∧ GT.dat x0 = y17 ∧ M = [treeH x0]) [treeH y15x0] (fun u => [u, .agg #[.string a1, (TL.hdr y15x0), .int .i64 a0_1]]) pc rfl fn102.h (fun u => (OpVs.cons (OpV.t rfl) (OpVs.cons (OpV.t rfl) (OpVs.nil)))) (by rintro w F v M ⟨q0, rfl, hd, rfl⟩ hw hM; obtain ⟨q0_1, q0_2⟩ := q0; subst hd; exact Spec.pre (M' := [treeH q0_2, treeH y15x0]) (fun _ _ h => Exp.h (t := ((q0_1, q0_2) : T_Ups)) ex pk h) (s_l18Set_walk w (q0_1, q0_2) (a1, y15x0, a0_1)  _ hy17)) (by kernel_rfl) ?_
      refine D_alloc zero71.h ?_
      refine s1 ?_
      refine Give_R rfl rfl ?_
      rintro _ _ ⟨bk11, rfl, rfl⟩
      simp only [List.cons_append, List.nil_append]
      refine Give_R rfl rfl ?_
      rintro _ _ ⟨⟨y17x0_1, y17x0_2⟩, rfl, rfl, rfl⟩
      refine s4 ?_
      refine sc ?_
      replace hp := dd hp
      refine xL ((y17x0_1, y17x0_2) : T_Ups) ?_
      refine s4 ?_
      replace hp := ba hp; obtain ⟨y18, hy18, hp⟩ := hp
      replace hp := gb_any hp; obtain ⟨y19, hy19, hp⟩ := hp
      refine W_D0 [47] mix (by kernel_rfl) rfl ?_
      refine s1 ?_
      refine D_callX GC.none fn104.h (OpVs.cons (OpV.t rfl) (OpVs.nil)) (by exact fun hg w F hF hM => s_l9Node_walk w a2  _ hy18) ?_
      refine s3 ?_
      refine D_callX (GC.some rfl rfl) fn48.h (OpVs.cons (OpV.s rfl) (OpVs.nil)) (by exact fun hg w F hF hM => s_UpsOk_walk w (y17x0_1, y17x0_2) (RdT.nowS (RdT.pair RdT.int (RdT.tree mm)) hF hM) _ (hy19 (gnot hg.2))) ?_
      refine s12 ?_
      refine kp [3, 6, 11, 47] ?_
      refine W_cond rfl (fun hc20 => ?_) (fun hc20 => ?_)
      · replace hp := cond_t hc20 hp
        refine s3 ?_
        replace hp := ba hp; obtain ⟨y21, hy21, hp⟩ := hp
        refine L_callR rfl fn103.h rfl (by exact fun w hw => s_l18Copy_walk w (a0_1, a0_2) (RdT.now (RdT.pair RdT.int (RdT.old h0.2)) hw) _ hy21) ?_
        rintro _ _ ⟨⟨y21x0_1, y21x0_2⟩, rfl, rfl, rfl⟩
        refine sc ?_
        replace hp := dd hp
        refine xL ((y21x0_1, y21x0_2) : T_Ups) ?_
        refine s3 ?_
        obtain rfl := Option.some.inj hp
        refine jW ((y21x0_1, y21x0_2) : T_Ups) ?_
        refine s1 ?_
        refine res2 rfl (ResOK.cell rfl mm (by exact agg71.h)) (ResOK.tmp rfl) ⟨(y21x0_1, y21x0_2), false, rfl, rfl, rfl⟩ ms
      · replace hp := cond_f hc20 hp
        refine s7 ?_
        obtain rfl := Option.some.inj hp
        refine jW ((y17x0_1, y17x0_2) : T_Ups) ?_
        refine s1 ?_
        refine res2 rfl (ResOK.cell rfl mm (by exact agg71.h)) (ResOK.tmp rfl) ⟨(y17x0_1, y17x0_2), true, rfl, rfl, rfl⟩ ms
noncomputable def i_UpAck (a0 : D_Ups) (a1 : ByteArray) (a2 : Int) : Option (D_Ups × Bool) :=
  Option.bind (i_UpsOk (a0.1, a0.2)) (fun y1 => cond (!y1) (some ((0, ([] : List D_Up)), false)) (Option.bind (i_copyUps (a0.1, a0.2)) (fun y3 => Option.bind (i_Ups_nodes (a0.1, a0.2) a1) (fun y5 => Option.bind (i_with y5 a2) (fun y7 => Option.bind (i_Ups_at (a0.1, a0.2) a1) (fun y9 => cond (decide (0 ≤ y9)) (Option.bind (idx y3.2 y9) (fun y11 => Option.bind (some (y3.2.set (y9.toNat) (a1, y7, a0.1))) (fun y12 => Option.bind (i_UpsOk (y3.1, y12)) (fun y14 => cond (!y14) (Option.bind (i_copyUps (a0.1, a0.2)) (fun y16 => some ((y16.1, y16.2), false))) (some ((y3.1, y12), true)))))) (whileP (fun s17 : Int => gb (decide (s17 < (y3.2.length : Int))) (idx y3.2 s17) (fun y18 => cond ((decide (s17 < (y3.2.length : Int))) && (sLt y18.1 a1)) (some (.inl (IntKind.wrap .i64 (s17 + 1)))) (Option.map .inr (Option.bind (insP y3.2 s17 (a1, y7, a0.1)) (fun y21 => Option.bind (i_UpsOk (y3.1, y21)) (fun y23 => cond (!y23) (Option.bind (i_copyUps (a0.1, a0.2)) (fun y25 => some ((y25.1, y25.2), false))) (some ((y3.1, y21), true)))))))) 0)))))))
theorem i_UpAck_walk (w : World) (a0 : T_Ups) (a1 : ByteArray) (a2 : Int) (h0 : GT.rd w [] a0) (r : D_Ups × Bool) (hp : i_UpAck (GT.dat a0) a1 a2 = some r) : Spec Try.prog 42 [.agg (GT.cells a0).toArray, .string a1, .int .i64 a2].toArray w [] (fun v M => ∃ (x0 : T_Ups) (x1 : Bool), v = .tuple #[.agg (GT.cells x0).toArray, .bool x1] ∧ (GT.dat x0, GT.dat x1) = r ∧ M = [treeH x0]) := by
  obtain ⟨a0_1, a0_2⟩ := a0
  change Spec _ _ ([Value.agg #[.int .i64 a0_1, (TL.hdr a0_2)], .string a1, .int .i64 a2] : List Value).toArray w [] _
  refine Spec.intro Try.func42 rfl Try.ntmps42 rfl ?_
  unfold i_UpAck at hp
  replace hp := dd hp
  refine s2 ?_
  refine bx fun bk3 => ?_
  refine al fun bk6 => ?_
  refine s6 ?_
  replace hp := ba hp; obtain ⟨y1, hy1, hp⟩ := hp
  refine L_callX rfl fn94.h rfl (by exact fun w hw => i_UpsOk_walk w (a0_1, a0_2) (RdT.now (RdT.pair RdT.int (RdT.old h0.2)) hw) _ hy1) ?_
  refine s2 ?_
  refine kp [1, 2, 3, 6, 14] ?_
  refine W_cond rfl (fun hc2 => ?_) (fun hc2 => ?_)
  · replace hp := cond_t hc2 hp
    refine s2 ?_
    refine L_build (xs := []) (cs := [.int .i64 0, (TL.hdr (TL.nil T_Up 0))]) rfl rfl bld71.h rfl ?_
    refine s3 ?_
    obtain rfl := Option.some.inj hp
    refine W_conv (M' := treeH (TL.nil T_Up 0) :: _) (fun w h => addNilT (τ := T_Up) 0 h) ?_
    refine jW ((0, (TL.nil T_Up 0)) : T_Ups) ?_
    refine s1 ?_
    refine res2 rfl (ResOK.cell rfl mm (by exact agg71.h)) (ResOK.tmp rfl) ⟨(0, (TL.nil T_Up 0)), false, rfl, rfl, rfl⟩ ms
  · replace hp := cond_f hc2 hp
    refine s4 ?_
    replace hp := ba hp; obtain ⟨y3, hy3, hp⟩ := hp
    refine L_callR rfl fn95.h rfl (by exact fun w hw => i_copyUps_walk w (a0_1, a0_2) (RdT.now (RdT.pair RdT.int (RdT.old h0.2)) hw) _ hy3) ?_
    rintro _ _ ⟨⟨y3x0_1, y3x0_2⟩, rfl, rfl, rfl⟩
    refine sc ?_
    replace hp := dd hp
    refine xL ((y3x0_1, y3x0_2) : T_Ups) ?_
    refine al fun bk8 => ?_
    refine s3 ?_
    refine W_AP [] 9 9 [.string ByteArray.empty, .slice none 0 0, .int .i64 0] 129 10 mix rfl ?_
    refine AP_take 0 rfl (PU_move rfl rfl) (by kernel_rfl) (by kernel_rfl) (by kernel_rfl) (by kernel_rfl) (by kernel_rfl) rfl rfl rfl trivial ?_
    refine AP_A [blk bk3 [.int .i64 a0_1, (TL.hdr a0_2)] 71] trivial ?_
    refine AP_take 1 rfl (PU_loadW rfl rfl (RdC.blk mm) (by exact agg71.h)) (by kernel_rfl) (by kernel_rfl) (by kernel_rfl) (by kernel_rfl) (by kernel_rfl) rfl rfl rfl ⟨mm, trivial⟩ ?_
    refine AP_take 2 rfl (PU_move rfl rfl) (by kernel_rfl) (by kernel_rfl) (by kernel_rfl) (by kernel_rfl) (by kernel_rfl) rfl rfl rfl ⟨mm, trivial⟩ ?_
    refine AP_take 4 rfl (PU_move rfl rfl) (by kernel_rfl) (by kernel_rfl) (by kernel_rfl) (by kernel_rfl) (by kernel_rfl) rfl rfl rfl ⟨mm, trivial⟩ ?_
    refine AP_take 6 rfl (PU_fieldAddr rfl rfl fld71_0.h) (by kernel_rfl) (by kernel_rfl) (by kernel_rfl) (by kernel_rfl) (by kernel_rfl) rfl rfl rfl ⟨mm, trivial⟩ ?_
    refine AP_take 7 rfl (PU_load rfl rfl (RdC.blk mm) one3.h rfl) (by kernel_rfl) (by kernel_rfl) (by kernel_rfl) (by kernel_rfl) (by kernel_rfl) rfl rfl rfl ⟨mm, trivial⟩ ?_
    refine AP_step 3 rfl rfl (by first | exact .inl (by kernel_rfl) | exact .inr (by kernel_rfl)) (by kernel_rfl) rfl rfl rfl rfl rfl (fun l M => L_alloc rfl zero129.h (fun b => L_nil ⟨b, rfl, rfl⟩)) ⟨mm, trivial⟩ (fun fr4 => ?_)
    replace hp := ba hp; obtain ⟨y5, hy5, hp⟩ := hp
    refine L_callR rfl fn97.h rfl (by exact fun w hw => i_Ups_nodes_walk w (a0_1, a0_2) a1 (RdT.now (RdT.pair RdT.int (RdT.old h0.2)) hw) _ hy5) ?_
    rintro _ _ ⟨y5x0, rfl, rfl, rfl, hby5x0⟩
    refine sc ?_
    replace hp := dd hp
    refine L_nil ⟨_, pk, ⟨mm, trivial⟩, rfl, ?_⟩
    refine AP_step 5 rfl rfl (by first | exact .inl (by kernel_rfl) | exact .inr (by kernel_rfl)) (by kernel_rfl) rfl rfl rfl rfl rfl (fun l M => L_alloc rfl zero129.h (fun b => L_nil ⟨b, rfl, rfl⟩)) ⟨mm, trivial⟩ (fun fr6 => ?_)
    replace hp := ba hp; obtain ⟨y7, hy7, hp⟩ := hp
    refine L_callR rfl fn96.h rfl (by exact fun w hw => i_with_walk w y5x0 a2 (RdT.now (RdT.map hby5x0 (RdT.pair RdT.int (RdT.old h0.2))) hw) _ hy7) ?_
    rintro _ _ ⟨y7x0, rfl, rfl, rfl⟩
    refine sc ?_
    replace hp := dd hp
    refine L_nil ⟨_, pk, ⟨mm, trivial⟩, rfl, ?_⟩
    refine AP_step 8 rfl rfl (by first | exact .inl (by kernel_rfl) | exact .inr (by kernel_rfl)) (by kernel_rfl) rfl rfl rfl rfl rfl (fun l M => L_alloc rfl zero129.h (fun b => L_nil ⟨b, rfl, rfl⟩)) ⟨mm, trivial⟩ (fun fr8 => ?_)
    refine L_build (xs := [(0, .tmp 18), (1, .tmp 23), (2, .tmp 25)]) (cs := [.string a1, (TL.hdr y7x0), .int .i64 a0_1]) rfl rfl bld129.h rfl ?_
    refine L_nil ⟨_, pk, ⟨mm, trivial⟩, rfl, ?_⟩
    refine AP_end (by kernel_rfl) rfl rfl (fun l M => L_alloc rfl zero129.h (fun b => L_nil ⟨b, rfl, rfl⟩)) ⟨mm, trivial⟩ (fun bk9 => ?_)
    refine AH_one 10 rfl rfl (by kernel_rfl) ?_
    refine s1 ?_
    refine L_nil ⟨⟨mm, trivial⟩, ?_⟩
    refine AH_done (by kernel_rfl) ?_
    refine s5 ?_
    replace hp := ba hp; obtain ⟨y9, hy9, hp⟩ := hp
    refine L_callX rfl fn98.h rfl (by exact fun w hw => i_Ups_at_walk w (a0_1, a0_2) a1 (RdT.now (RdT.pair RdT.int (RdT.old h0.2)) hw) _ hy9) ?_
    refine s7 ?_
    refine kp [1, 3, 6, 8, 9, 10, 31] ?_
    refine W_cond rfl (fun hc10 => ?_) (fun hc10 => ?_)
    · replace hp := cond_t hc10 hp
      refine s5 ?_
      replace hp := idx_bind hp; obtain ⟨⟨u11_1, u11_2, u11_3⟩, hy11, hp⟩ := hp
      refine L_idxA (X := y3x0_2) rfl rfl rfl el69.h (RdT.tree mm) hy11 ?_
      refine L_conv (M' := treeH (u11_1, u11_2, u11_3) :: holeH y3x0_2 (y9.toNat) (GT.cells (u11_1, u11_2, u11_3)) :: _) (fun w h => hole_open hy11.2 pk h) ?_
      refine xL ((u11_1, u11_2, u11_3) : T_Up) ?_
      refine L_stH (X := y3x0_2) (i := y9.toNat) (sz := 3) (fo := 0) (n := 3) rfl rfl pk rfl (.inl agg129.h) rfl (allOne rfl) (Nat.le_of_ble_eq_true rfl) ?_
      refine jL ((a1, y7x0, a0_1) : T_Up) ?_
      replace hp := ba hp; obtain ⟨y12, hy12, hp⟩ := hp
      refine L_close (X := y3x0_2) ((a1, y7x0, a0_1) : T_Up) rfl pk pk hy12 (fun X13 hdX13 hhX13 => ?_)
      subst hdX13
      try rw [← hhX13]
      try rw [← g_of_hdr hhX13]
      try rw [← o_of_hdr hhX13]
      refine s5 ?_
      replace hp := ba hp; obtain ⟨y14, hy14, hp⟩ := hp
      refine L_callX rfl fn94.h rfl (by exact fun w hw => i_UpsOk_walk w (y3x0_1, X13) (RdT.now (RdT.pair RdT.int (RdT.tree mm)) hw) _ hy14) ?_
      refine s2 ?_
      refine kp [3, 6, 8, 63] ?_
      refine W_cond rfl (fun hc15 => ?_) (fun hc15 => ?_)
      · replace hp := cond_t hc15 hp
        refine s3 ?_
        replace hp := ba hp; obtain ⟨y16, hy16, hp⟩ := hp
        refine L_callR rfl fn95.h rfl (by exact fun w hw => i_copyUps_walk w (a0_1, a0_2) (RdT.now (RdT.pair RdT.int (RdT.old h0.2)) hw) _ hy16) ?_
        rintro _ _ ⟨⟨y16x0_1, y16x0_2⟩, rfl, rfl, rfl⟩
        refine sc ?_
        replace hp := dd hp
        refine xL ((y16x0_1, y16x0_2) : T_Ups) ?_
        refine s3 ?_
        obtain rfl := Option.some.inj hp
        refine jW ((y16x0_1, y16x0_2) : T_Ups) ?_
        refine s1 ?_
        refine res2 rfl (ResOK.cell rfl mm (by exact agg71.h)) (ResOK.tmp rfl) ⟨(y16x0_1, y16x0_2), false, rfl, rfl, rfl⟩ ms
      · replace hp := cond_f hc15 hp
        refine s7 ?_
        obtain rfl := Option.some.inj hp
        refine jW ((y3x0_1, X13) : T_Ups) ?_
        refine s1 ?_
        refine res2 rfl (ResOK.cell rfl mm (by exact agg71.h)) (ResOK.tmp rfl) ⟨(y3x0_1, X13), true, rfl, rfl, rfl⟩ ms
    · replace hp := cond_f hc10 hp
      refine s6 ?_
      refine W_while (σ := Int) GT.dat (fun (v17_0 : Int) => [(11, .int .i64 v17_0)]) (fun (v17_0 : Int) => []) [(1, _), (3, _), (6, _), (8, _), (9, _)] [blk bk3 _ _, blk bk6 _ _, blk bk8 _ _, blk bk9 _ _, treeH y3x0_2, treeH y7x0] 0 hp sb ms ?_
      clear hp
      rintro v17_0 x17 hp hx17
      replace hp := dd hp
      refine kq [1, 3, 6, 8, 9, 11] ?_
      refine s2 ?_
      replace hp := idx_gb hp; obtain ⟨⟨u18_1, u18_2, u18_3⟩, hy18, hp⟩ := hp
      refine W_D0 [51] mix (by kernel_rfl) rfl ?_
      refine s3 ?_
      refine D_lenP (X := y3x0_2) GC.none (OpV.t rfl) el69.h ?_
      refine s5 ?_
      refine D_idxA (X := y3x0_2) (GC.some rfl rfl) (OpV.s rfl) (OpV.s rfl) el69.h (RdT.tree mm) (fun hg => hy18 hg.2) ?_
      refine s1 ?_
      refine D_load (GC.some rfl rfl) (OpV.s rfl) (fun hg => RdT.at (RdT.tree mm) (hy18 hg.2).2) one9.h rfl ?_
      refine s20 ?_
      refine kp [1, 3, 6, 8, 9, 11, 51] ?_
      refine W_cond rfl (fun hc19 => ?_) (fun hc19 => ?_)
      · replace hp := cond_t hc19 hp
        refine s7 ?_
        exact ⟨IntKind.wrap .i64 (v17_0 + 1), sb, (.sub ms), some_eq hp⟩
      · replace hp := cond_f hc19 hp
        refine W_exit ?_
        replace hp := map_any hp; obtain ⟨a20, hp, hx_a20⟩ := hp
        obtain rfl := hx17 _ hx_a20
        refine s5 ?_
        refine L_buildSlice1 rfl rfl el69.h rfl (by decide) (by decide) rfl (fun bb58 => ?_)
        refine jL ((a1, y7x0, a0_1) : T_Up) ?_
        replace hp := ba hp; obtain ⟨y21, hy21, hp⟩ := hp
        refine L_callM [treeH y3x0_2, blk bb58 _ _, treeH ((a1, y7x0, a0_1) : T_Up)] _ rfl fn99.h rfl pc (by exact fun w hw => sl_Insert_implUpimplUp_walk w y3x0_2 v17_0 bb58 ((a1, y7x0, a0_1) : T_Up) _ _ hy21) ?_
        rintro _ _ ⟨X22, rfl, rfl, rfl⟩
        refine sc ?_
        refine s7 ?_
        replace hp := ba hp; obtain ⟨y23, hy23, hp⟩ := hp
        refine L_callX rfl fn94.h rfl (by exact fun w hw => i_UpsOk_walk w (y3x0_1, X22) (RdT.now (RdT.pair RdT.int (RdT.tree mm)) hw) _ hy23) ?_
        refine s2 ?_
        refine kp [3, 6, 8, 63] ?_
        refine W_cond rfl (fun hc24 => ?_) (fun hc24 => ?_)
        · replace hp := cond_t hc24 hp
          refine s3 ?_
          replace hp := ba hp; obtain ⟨y25, hy25, hp⟩ := hp
          refine L_callR rfl fn95.h rfl (by exact fun w hw => i_copyUps_walk w (a0_1, a0_2) (RdT.now (RdT.pair RdT.int (RdT.old h0.2)) hw) _ hy25) ?_
          rintro _ _ ⟨⟨y25x0_1, y25x0_2⟩, rfl, rfl, rfl⟩
          refine sc ?_
          replace hp := dd hp
          refine xL ((y25x0_1, y25x0_2) : T_Ups) ?_
          refine s3 ?_
          obtain rfl := Option.some.inj hp
          refine jW ((y25x0_1, y25x0_2) : T_Ups) ?_
          refine s1 ?_
          refine res2 rfl (ResOK.cell rfl mm (by exact agg71.h)) (ResOK.tmp rfl) ⟨(y25x0_1, y25x0_2), false, rfl, rfl, rfl⟩ ms
        · replace hp := cond_f hc24 hp
          refine s7 ?_
          obtain rfl := Option.some.inj hp
          refine jW ((y3x0_1, X22) : T_Ups) ?_
          refine s1 ?_
          refine res2 rfl (ResOK.cell rfl mm (by exact agg71.h)) (ResOK.tmp rfl) ⟨(y3x0_1, X22), true, rfl, rfl, rfl⟩ ms
noncomputable def i_UpLost (a0 : D_Ups) (a1 : ByteArray) (a2 : Int) : Option (D_Ups × Bool) :=
  Option.bind (i_UpsOk (a0.1, a0.2)) (fun y1 => cond (!y1) (some ((0, ([] : List D_Up)), false)) (Option.bind (i_copyUps (a0.1, a0.2)) (fun y3 => Option.bind (i_Ups_at (a0.1, a0.2) a1) (fun y4 => gb (!(decide (y4 < 0))) (idx a0.2 y4) (fun y5 => gb (!(decide (y4 < 0))) (sl_Contains_intint y5.2.1 a2) (fun y6 => cond ((decide (y4 < 0)) || (!y6)) (some ((y3.1, y3.2), false)) (Option.bind (idx y3.2 y4) (fun y8 => Option.bind (sl_DeleteFunc_intint y8.2.1 (fun z0 => i_UpLost_c1 z0 a2)) (fun y9 => Option.bind (idx y3.2 y4) (fun y10 => Option.bind (some (y3.2.set (y4.toNat) (y8.1, y9, y8.2.2))) (fun y11 => Option.bind (idx y11 y4) (fun y13 => cond (decide ((y13.2.1.length : Int) = 0)) (Option.bind (delP y11 y4 (IntKind.wrap .i64 (y4 + 1))) (fun y15 => some ((y3.1, y15), true))) (some ((y3.1, y11), true))))))))))))))
theorem i_UpLost_walk (w : World) (a0 : T_Ups) (a1 : ByteArray) (a2 : Int) (h0 : GT.rd w [] a0) (r : D_Ups × Bool) (hp : i_UpLost (GT.dat a0) a1 a2 = some r) : Spec Try.prog 45 [.agg (GT.cells a0).toArray, .string a1, .int .i64 a2].toArray w [] (fun v M => ∃ (x0 : T_Ups) (x1 : Bool), v = .tuple #[.agg (GT.cells x0).toArray, .bool x1] ∧ (GT.dat x0, GT.dat x1) = r ∧ M = [treeH x0]) := by
  obtain ⟨a0_1, a0_2⟩ := a0
  change Spec _ _ ([Value.agg #[.int .i64 a0_1, (TL.hdr a0_2)], .string a1, .int .i64 a2] : List Value).toArray w [] _
  refine Spec.intro Try.func45 rfl Try.ntmps45 rfl ?_
  unfold i_UpLost at hp
  replace hp := dd hp
  refine s2 ?_
  refine bx fun bk3 => ?_
  refine bx fun bk5 => ?_
  refine al fun bk6 => ?_
  refine s6 ?_
  replace hp := ba hp; obtain ⟨y1, hy1, hp⟩ := hp
  refine L_callX rfl fn94.h rfl (by exact fun w hw => i_UpsOk_walk w (a0_1, a0_2) (RdT.now (RdT.pair RdT.int (RdT.old h0.2)) hw) _ hy1) ?_
  refine s2 ?_
  refine kp [1, 3, 5, 6, 12] ?_
  refine W_cond rfl (fun hc2 => ?_) (fun hc2 => ?_)
  · replace hp := cond_t hc2 hp
    refine s2 ?_
    refine L_build (xs := []) (cs := [.int .i64 0, (TL.hdr (TL.nil T_Up 0))]) rfl rfl bld71.h rfl ?_
    refine s3 ?_
    obtain rfl := Option.some.inj hp
    refine W_conv (M' := treeH (TL.nil T_Up 0) :: _) (fun w h => addNilT (τ := T_Up) 0 h) ?_
    refine jW ((0, (TL.nil T_Up 0)) : T_Ups) ?_
    refine s1 ?_
    refine res2 rfl (ResOK.cell rfl mm (by exact agg71.h)) (ResOK.tmp rfl) ⟨(0, (TL.nil T_Up 0)), false, rfl, rfl, rfl⟩ ms
  · replace hp := cond_f hc2 hp
    refine s4 ?_
    replace hp := ba hp; obtain ⟨y3, hy3, hp⟩ := hp
    refine L_callR rfl fn95.h rfl (by exact fun w hw => i_copyUps_walk w (a0_1, a0_2) (RdT.now (RdT.pair RdT.int (RdT.old h0.2)) hw) _ hy3) ?_
    rintro _ _ ⟨⟨y3x0_1, y3x0_2⟩, rfl, rfl, rfl⟩
    refine sc ?_
    replace hp := dd hp
    refine xL ((y3x0_1, y3x0_2) : T_Ups) ?_
    refine al fun bk8 => ?_
    refine s6 ?_
    replace hp := ba hp; obtain ⟨y4, hy4, hp⟩ := hp
    refine L_callX rfl fn98.h rfl (by exact fun w hw => i_Ups_at_walk w (a0_1, a0_2) a1 (RdT.now (RdT.pair RdT.int (RdT.old h0.2)) hw) _ hy4) ?_
    refine s4 ?_
    replace hp := idx_gb hp; obtain ⟨⟨u5_1, u5_2, u5_3⟩, hy5, hp⟩ := hp
    replace hp := gb_any hp; obtain ⟨y6, hy6, hp⟩ := hp
    refine W_D0 [31] mix (by kernel_rfl) rfl ?_
    refine s6 ?_
    refine D_idxA (X := a0_2) (GC.some rfl rfl) (OpV.s rfl) (OpV.s rfl) el69.h (RdT.old h0.2) (fun hg => hy5 (gnot hg.2)) ?_
    refine s1 ?_
    refine D_load (GC.some rfl rfl) (OpV.s rfl) (fun hg => RdT.at (RdT.old h0.2) (hy5 (gnot hg.2)).2) one34.h rfl ?_
    refine D_load0 (GC.some rfl rfl) (OpV.t rfl) (fun hg => RdC.blk mm) one3.h rfl ?_
    refine D_callX (GC.some rfl rfl) fn105.h (OpVs.cons (OpV.s rfl) (OpVs.cons (OpV.s rfl) (OpVs.nil))) (by exact fun hg w F hF hM => sl_Contains_intint_walk w u5_2 a2 (RdT.nowS (RdT.fst (RdT.snd (RdT.of (RdT.old h0.2) (hy5 (gnot hg.2)).2))) hF hM) _ (hy6 (gnot hg.2))) ?_
    refine s17 ?_
    refine kp [5, 6, 8, 9, 31] ?_
    refine W_cond rfl (fun hc7 => ?_) (fun hc7 => ?_)
    · replace hp := cond_t hc7 hp
      refine s6 ?_
      obtain rfl := Option.some.inj hp
      refine jW ((y3x0_1, y3x0_2) : T_Ups) ?_
      refine s1 ?_
      refine res2 rfl (ResOK.cell rfl mm (by exact agg71.h)) (ResOK.tmp rfl) ⟨(y3x0_1, y3x0_2), false, rfl, rfl, rfl⟩ ms
    · replace hp := cond_f hc7 hp
      refine s2 ?_
      replace hp := idx_bind hp; obtain ⟨⟨u8_1, u8_2, u8_3⟩, hy8, hp⟩ := hp
      refine W_conv (M' := treeH (u8_1, u8_2, u8_3) :: holeH y3x0_2 (y4.toNat) (GT.cells (u8_1, u8_2, u8_3)) :: _) (fun w h => hole_open hy8.2 pk h) ?_
      refine xW ((u8_1, u8_2, u8_3) : T_Up) ?_
      replace hp := ba hp; obtain ⟨y9, hy9, hp⟩ := hp
      refine W_DS (pre := [_, _, _, _, _, _, _, _, _, _, _]) (suf := [_, _, _]) [34, 35, 43] [treeH u8_2] _ pc mix (by kernel_rfl) (by kernel_rfl) rfl ?_
      refine s6 ?_
      refine D_idxH (X := y3x0_2) GC.none (OpV.t rfl) (OpV.t rfl) el69.h mm (fun hg => hy8) ?_
      refine s1 ?_
      refine D_load GC.none (OpV.t rfl) (fun hg => RdC.hole (X := y3x0_2) mm) one34.h rfl ?_
      refine D_makeFunc (cs := [.tmp 5]) GC.none (OpVs.cons (OpV.t rfl) (OpVs.nil)) ?_
      refine D_callM (fun v M => ∃ (x0 : TL Int), v = (TL.hdr x0) ∧ GT.dat x0 = y9 ∧ M = [treeH x0]) [treeH u8_2] pc fn106.h (OpVs.cons (OpV.t rfl) (OpVs.cons (OpV.t rfl) (OpVs.nil))) (by exact fun w F hw hM => sl_DeleteFunc_intint_walk w u8_2 107 [Value.pointer (some ⟨bk5, 0, none⟩)] (fun z0 => i_UpLost_c1 z0 a2) fn107.h (fun w' F u0 v hF hu0 hv => i_UpLost_c1_walk w' u0 bk5 a2  (cells_of_blk (List.mem_append_right _ (hM _ mm)) (Holds.frame hw hF).sees) (rd_carry (RdX.int w hw) hF) v hv) _ hy9) ?_
      refine s1 ?_
      refine Give_R rfl rfl ?_
      rintro _ _ ⟨y9x0, rfl, rfl, rfl⟩
      refine s11 ?_
      refine sc ?_
      replace hp := dd hp
      replace hp := idx_bind hp; obtain ⟨u10, hy10, hp⟩ := hp
      obtain rfl : (u8_1, u8_2, u8_3) = u10 := Option.some.inj (hy8.2.symm.trans hy10.2)
      refine L_idxH (X := y3x0_2) (cs := _) rfl rfl rfl el69.h mm hy8 ?_
      refine s1 ?_
      refine L_stH (X := y3x0_2) (i := y4.toNat) (sz := 3) (fo := 1) (n := 1) rfl rfl pk rfl (.inr ⟨one34.h, rfl⟩) rfl (allOne rfl) (Nat.le_of_ble_eq_true rfl) ?_
      refine jL ((u8_1, y9x0, u8_3) : T_Up) ?_
      replace hp := ba hp; obtain ⟨y11, hy11, hp⟩ := hp
      refine L_close (X := y3x0_2) ((u8_1, y9x0, u8_3) : T_Up) rfl pk pk hy11 (fun X12 hdX12 hhX12 => ?_)
      subst hdX12
      try rw [← hhX12]
      try rw [← g_of_hdr hhX12]
      try rw [← o_of_hdr hhX12]
      refine s7 ?_
      replace hp := idx_bind hp; obtain ⟨⟨u13_1, u13_2, u13_3⟩, hy13, hp⟩ := hp
      refine L_idxA (X := X12) rfl rfl rfl el69.h (RdT.tree mm) hy13 ?_
      refine s1 ?_
      refine L_load rfl rfl (RdT.at (RdT.tree mm) (hy13).2) one34.h rfl ?_
      refine s3 ?_
      refine kp [6, 8, 9, 53] ?_
      refine W_cond rfl (fun hc14 => ?_) (fun hc14 => ?_)
      · replace hp := cond_t hc14 hp
        refine s6 ?_
        replace hp := ba hp; obtain ⟨y15, hy15, hp⟩ := hp
        refine L_callM [treeH X12] _ rfl fn108.h rfl pc (by exact fun w hw => sl_Delete_implUpimplUp_walk w X12 y4 (IntKind.wrap .i64 (y4 + 1))  _ hy15) ?_
        rintro _ _ ⟨y15x0, rfl, rfl, rfl⟩
        refine sc ?_
        replace hp := dd hp
        refine s9 ?_
        obtain rfl := Option.some.inj hp
        refine jW ((y3x0_1, y15x0) : T_Ups) ?_
        refine s1 ?_
        refine res2 rfl (ResOK.cell rfl mm (by exact agg71.h)) (ResOK.tmp rfl) ⟨(y3x0_1, y15x0), true, rfl, rfl, rfl⟩ ms
      · replace hp := cond_f hc14 hp
        refine s7 ?_
        obtain rfl := Option.some.inj hp
        refine jW ((y3x0_1, X12) : T_Ups) ?_
        refine s1 ?_
        refine res2 rfl (ResOK.cell rfl mm (by exact agg71.h)) (ResOK.tmp rfl) ⟨(y3x0_1, X12), true, rfl, rfl, rfl⟩ ms
noncomputable def s_UpLost (a0 : D_Ups) (a1 : ByteArray) (a2 : Int) : Option (D_Ups × Bool) :=
  Option.bind (s_UpsOk (a0.1, a0.2)) (fun y1 => cond (!y1) (some ((0, ([] : List D_Up)), false)) (Option.bind (s_l18At (a0.1, a0.2) a1) (fun y3 => gb (!(decide (y3 < 0))) (idx a0.2 y3) (fun y4 => gb (!(decide (y3 < 0))) (s_l18Has y4.2.1 a2) (fun y5 => cond ((decide (y3 < 0)) || (!y5)) (Option.bind (s_l18Copy (a0.1, a0.2)) (fun y7 => some ((y7.1, y7.2), false))) (Option.bind (idx a0.2 y3) (fun y8 => Option.bind (s_l18With y8.2.1 a2 false) (fun y9 => Option.bind (s_l18Copy (a0.1, a0.2)) (fun y10 => Option.bind (s_l18Set (y10.1, y10.2) (y8.1, y9, y8.2.2)) (fun y11 => some ((y11.1, y11.2), true)))))))))))
theorem s_UpLost_walk (w : World) (a0 : T_Ups) (a1 : ByteArray) (a2 : Int) (h0 : GT.rd w [] a0) (r : D_Ups × Bool) (hp : s_UpLost (GT.dat a0) a1 a2 = some r) : Spec Try.prog 46 [.agg (GT.cells a0).toArray, .string a1, .int .i64 a2].toArray w [] (fun v M => ∃ (x0 : T_Ups) (x1 : Bool), v = .tuple #[.agg (GT.cells x0).toArray, .bool x1] ∧ (GT.dat x0, GT.dat x1) = r ∧ M = [treeH x0]) := by
  obtain ⟨a0_1, a0_2⟩ := a0
  change Spec _ _ ([Value.agg #[.int .i64 a0_1, (TL.hdr a0_2)], .string a1, .int .i64 a2] : List Value).toArray w [] _
  refine Spec.intro Try.func46 rfl Try.ntmps46 rfl ?_
  unfold s_UpLost at hp
  replace hp := dd hp
  refine s2 ?_
  refine bx fun bk3 => ?_
  refine al fun bk6 => ?_
  refine s6 ?_
  replace hp := ba hp; obtain ⟨y1, hy1, hp⟩ := hp
  refine L_callX rfl fn48.h rfl (by exact fun w hw => s_UpsOk_walk w (a0_1, a0_2) (RdT.now (RdT.pair RdT.int (RdT.old h0.2)) hw) _ hy1) ?_
  refine s2 ?_
  refine kp [1, 2, 3, 6, 12] ?_
  refine W_cond rfl (fun hc2 => ?_) (fun hc2 => ?_)
  · replace hp := cond_t hc2 hp
    refine s2 ?_
    refine L_build (xs := []) (cs := [.int .i64 0, (TL.hdr (TL.nil T_Up 0))]) rfl rfl bld71.h rfl ?_
    refine s3 ?_
    obtain rfl := Option.some.inj hp
    refine W_conv (M' := treeH (TL.nil T_Up 0) :: _) (fun w h => addNilT (τ := T_Up) 0 h) ?_
    refine jW ((0, (TL.nil T_Up 0)) : T_Ups) ?_
    refine s1 ?_
    refine res2 rfl (ResOK.cell rfl mm (by exact agg71.h)) (ResOK.tmp rfl) ⟨(0, (TL.nil T_Up 0)), false, rfl, rfl, rfl⟩ ms
  · replace hp := cond_f hc2 hp
    refine s5 ?_
    replace hp := ba hp; obtain ⟨y3, hy3, hp⟩ := hp
    refine L_callX rfl fn100.h rfl (by exact fun w hw => s_l18At_walk w (a0_1, a0_2) a1 (RdT.now (RdT.pair RdT.int (RdT.old h0.2)) hw) _ hy3) ?_
    refine s4 ?_
    replace hp := idx_gb hp; obtain ⟨⟨u4_1, u4_2, u4_3⟩, hy4, hp⟩ := hp
    replace hp := gb_any hp; obtain ⟨y5, hy5, hp⟩ := hp
    refine W_D0 [29] mix (by kernel_rfl) rfl ?_
    refine s6 ?_
    refine D_idxA (X := a0_2) (GC.some rfl rfl) (OpV.s rfl) (OpV.s rfl) el69.h (RdT.old h0.2) (fun hg => hy4 (gnot hg.2)) ?_
    refine s1 ?_
    refine D_load (GC.some rfl rfl) (OpV.s rfl) (fun hg => RdT.at (RdT.old h0.2) (hy4 (gnot hg.2)).2) one34.h rfl ?_
    refine s1 ?_
    refine D_callX (GC.some rfl rfl) fn109.h (OpVs.cons (OpV.s rfl) (OpVs.cons (OpV.s rfl) (OpVs.nil))) (by exact fun hg w F hF hM => s_l18Has_walk w u4_2 a2 (RdT.nowS (RdT.fst (RdT.snd (RdT.of (RdT.old h0.2) (hy4 (gnot hg.2)).2))) hF hM) _ (hy5 (gnot hg.2))) ?_
    refine s17 ?_
    refine kp [2, 3, 6, 8, 29] ?_
    refine W_cond rfl (fun hc6 => ?_) (fun hc6 => ?_)
    · replace hp := cond_t hc6 hp
      refine s3 ?_
      replace hp := ba hp; obtain ⟨y7, hy7, hp⟩ := hp
      refine L_callR rfl fn103.h rfl (by exact fun w hw => s_l18Copy_walk w (a0_1, a0_2) (RdT.now (RdT.pair RdT.int (RdT.old h0.2)) hw) _ hy7) ?_
      rintro _ _ ⟨⟨y7x0_1, y7x0_2⟩, rfl, rfl, rfl⟩
      refine sc ?_
      replace hp := dd hp
      refine xL ((y7x0_1, y7x0_2) : T_Ups) ?_
      refine s3 ?_
      obtain rfl := Option.some.inj hp
      refine jW ((y7x0_1, y7x0_2) : T_Ups) ?_
      refine s1 ?_
      refine res2 rfl (ResOK.cell rfl mm (by exact agg71.h)) (ResOK.tmp rfl) ⟨(y7x0_1, y7x0_2), false, rfl, rfl, rfl⟩ ms
    · replace hp := cond_f hc6 hp
      refine s6 ?_
      replace hp := idx_bind hp; obtain ⟨⟨u8_1, u8_2, u8_3⟩, hy8, hp⟩ := hp
      refine L_idxA (X := a0_2) rfl rfl rfl el69.h (RdT.old h0.2) hy8 ?_
      refine L_loadW rfl rfl (RdT.at (RdT.old h0.2) (hy8).2) (by exact agg129.h) ?_
      refine al fun bk9 => ?_
      refine s7 ?_
      replace hp := ba hp; obtain ⟨y9, hy9, hp⟩ := hp
      refine L_callR rfl fn101.h rfl (by exact fun w hw => s_l18With_walk w u8_2 a2 false (RdT.now (RdT.fst (RdT.snd (RdT.of (RdT.old h0.2) (hy8).2))) hw) _ hy9) ?_
      rintro _ _ ⟨y9x0, rfl, rfl, rfl⟩
      refine sc ?_
      replace hp := dd hp
      refine s4 ?_
      replace hp := ba hp; obtain ⟨y10, hy10, hp⟩ := hp
      refine W_DS (pre := [_, _, _]) (suf := [_, _, _]) [43, 44] [] _ pc mix (by kernel_rfl) (by kernel_rfl) rfl ?_
      refine s1 ?_
      refine D_call1R (fun v M => ∃ (x0 : T_Ups), v = .agg (GT.cells x0).toArray ∧ GT.dat x0 = y10 ∧ M = [treeH x0]) fn103.h (OpVs.cons (OpV.t rfl) (OpVs.nil)) (by exact fun w F hF hM => s_l18Copy_walk w (a0_1, a0_2) (RdT.nowS (RdT.pair RdT.int (RdT.old h0.2)) hF hM) _ hy10) ?_
      refine s3 ?_
      refine Give_R rfl rfl ?_
      rintro _ _ ⟨⟨y10x0_1, y10x0_2⟩, rfl, rfl, rfl⟩
      refine s2 ?_
      refine sc ?_
      replace hp := dd hp
      refine xL ((y10x0_1, y10x0_2) : T_Ups) ?_
      replace hp := ba hp; obtain ⟨y11, hy11, hp⟩ := hp
      refine L_callM [treeH y10x0_2, treeH y9x0] _ rfl fn102.h rfl pc (by exact fun w hw => s_l18Set_walk w (y10x0_1, y10x0_2) (u8_1, y9x0, u8_3)  _ hy11) ?_
      rintro _ _ ⟨⟨y11x0_1, y11x0_2⟩, rfl, rfl, rfl⟩
      refine sc ?_
      replace hp := dd hp
      refine xL ((y11x0_1, y11x0_2) : T_Ups) ?_
      refine s3 ?_
      obtain rfl := Option.some.inj hp
      refine jW ((y11x0_1, y11x0_2) : T_Ups) ?_
      refine s1 ?_
      refine res2 rfl (ResOK.cell rfl mm (by exact agg71.h)) (ResOK.tmp rfl) ⟨(y11x0_1, y11x0_2), true, rfl, rfl, rfl⟩ ms
end Go.Proofs.SL
namespace Go.Proofs.SL
open Go
set_option maxHeartbeats 2000000
abbrev T_l1Cur := (TL UInt8) × Int × Int
abbrev D_l1Cur := (List UInt8) × Int × Int
instance one5 : OneF Try.prog 5 := ⟨by kernel_rfl⟩
instance bld144 : BldF Try.prog 144 [(0, 1), (1, 1), (2, 1)] [.slice none 0 0, .int .i64 0, .int .i64 0] := ⟨by kernel_rfl⟩
instance fld144_2 : FldF Try.prog 144 2 2 := ⟨by kernel_rfl⟩
instance fld144_1 : FldF Try.prog 144 1 1 := ⟨by kernel_rfl⟩
instance fld144_0 : FldF Try.prog 144 0 0 := ⟨by kernel_rfl⟩
instance one22 : OneF Try.prog 22 := ⟨by kernel_rfl⟩
instance fn120 : FnF Try.prog 120 := ⟨⟨_, Try.func120, by kernel_rfl, rfl⟩⟩
instance fn59 : FnF Try.prog 59 := ⟨⟨_, Try.func59, by kernel_rfl, rfl⟩⟩
instance el25 : ElF Try.prog 25 9 1 16 [.string ByteArray.empty] := ⟨by kernel_rfl⟩
noncomputable def w_big (a0 : List UInt8) : Option Bool :=
  some (decide (1048576 < (a0.length : Int)))
theorem w_big_walk (w : World) (a0 : TL UInt8) (h0 : GT.rd w [] a0) (r : Bool) (hp : w_big (GT.dat a0) = some r) : Spec Try.prog 9 [(TL.hdr a0)].toArray w [] (IsV (.bool r)) := by
  refine Spec.intro Try.func9 rfl Try.ntmps9 rfl ?_
  unfold w_big at hp
  replace hp := dd hp
  refine s11 ?_
  obtain rfl := Option.some.inj hp
  refine s1 ?_
  refine res1 rfl (ResOK.tmp rfl) ⟨rfl, rfl⟩ ms
noncomputable def s_l1New (a0 : List UInt8) : Option D_l1Cur :=
  whileP (fun s1 : Int × Int => cond ((decide (s1.2 < (a0.length : Int))) && (decide (s1.2 < 4000))) (Option.bind (idx a0 s1.2) (fun y3 => some (.inl ((bits .and .i64 (IntKind.wrap .i64 (IntKind.wrap .i64 (IntKind.wrap .i64 (s1.1 * 131) + IntKind.wrap .i64 (y3.toNat : Int)) + 7)) 1073741823, IntKind.wrap .i64 (s1.2 + 1)))))) (Option.map .inr (some (a0, 0, s1.1)))) (IntKind.wrap .i64 (10101 + (a0.length : Int)), 0)
theorem s_l1New_walk (w : World) (a0 : TL UInt8) (h0 : GT.rd w [] a0) (r : D_l1Cur) (hp : s_l1New (GT.dat a0) = some r) : Spec Try.prog 58 [(TL.hdr a0)].toArray w [] (fun v M => ∃ (b : Nat) (x0 : T_l1Cur), v = .pointer (some ⟨b, 0, none⟩) ∧ GT.dat x0 = r ∧ M = [blk b (GT.cells x0) 144] ∧ x0.1 = a0) := by
  refine Spec.intro Try.func58 rfl Try.ntmps58 rfl ?_
  unfold s_l1New at hp
  replace hp := dd hp
  refine s17 ?_
  refine W_while (σ := Int × Int) GT.dat (fun ((v1_0, v1_1) : Int × Int) => [(3, .int .i64 v1_0), (4, .int .i64 v1_1)]) (fun ((v1_0, v1_1) : Int × Int) => []) [(0, _)] [] (IntKind.wrap .i64 (10101 + ((GT.dat a0).length : Int)), 0) hp sb ms ?_
  clear hp
  rintro ⟨v1_0, v1_1⟩ x1 hp hx1
  replace hp := dd hp
  refine kq [0, 3, 4] ?_
  refine s2 ?_
  refine W_D0 [15] mix (by kernel_rfl) rfl ?_
  refine s2 ?_
  refine D_lenP (X := a0) GC.none (OpV.t rfl) el22.h ?_
  refine s15 ?_
  refine kp [0, 3, 4, 15] ?_
  refine W_cond rfl (fun hc2 => ?_) (fun hc2 => ?_)
  · replace hp := cond_t hc2 hp
    refine s8 ?_
    replace hp := idx_bind hp; obtain ⟨u3, hy3, hp⟩ := hp
    refine L_idxA (X := a0) rfl rfl rfl el22.h (RdT.old h0) hy3 ?_
    refine L_load0 rfl rfl (RdT.at (RdT.old h0) (hy3).2) one5.h rfl ?_
    refine L_convInt rfl rfl und3.h (by rw [und5.h]; rfl) ?_
    refine s10 ?_
    exact ⟨(bits .and .i64 (IntKind.wrap .i64 (IntKind.wrap .i64 (IntKind.wrap .i64 (v1_0 * 131) + IntKind.wrap .i64 (u3.toNat : Int)) + 7)) 1073741823, IntKind.wrap .i64 (v1_1 + 1)), sb, (.sub ms), some_eq hp⟩
  · replace hp := cond_f hc2 hp
    refine W_exit ?_
    replace hp := map_any hp; obtain ⟨a4, hp, hx_a4⟩ := hp
    obtain rfl := hx1 _ hx_a4
    refine s4 ?_
    refine L_build (xs := [(0, .tmp 28), (2, .tmp 29)]) (cs := [(TL.hdr a0), .int .i64 0, .int .i64 v1_0]) rfl rfl bld144.h rfl ?_
    refine bx fun bk31 => ?_
    refine s2 ?_
    obtain rfl := Option.some.inj hp
    refine s1 ?_
    refine res1 rfl (ResOK.tmp rfl) ⟨bk31, (a0, 0, v1_0), rfl, rfl, rfl, rfl⟩ ms
noncomputable def s_l1Byte (a0 : D_l1Cur) : Option (Int × D_l1Cur) :=
  cond (decide (a0.2.1 < (a0.1.length : Int))) (Option.bind (idx a0.1 a0.2.1) (fun y2 => some (bits .and .i64 (IntKind.wrap .i64 (bits .and .i64 (bits .xor .i64 (IntKind.wrap .i64 (IntKind.wrap .i64 (a0.2.2 * 6364136223846793005) + 1442695040888963407) / 2 ^ (33 : Int).toNat) (IntKind.wrap .i64 (IntKind.wrap .i64 (a0.2.2 * 6364136223846793005) + 1442695040888963407) / 2 ^ (45 : Int).toNat)) 255 + IntKind.wrap .i64 (y2.toNat : Int))) 255, (a0.1, IntKind.wrap .i64 (a0.2.1 + 1), IntKind.wrap .i64 (IntKind.wrap .i64 (a0.2.2 * 6364136223846793005) + 1442695040888963407))))) (some (bits .and .i64 (bits .xor .i64 (IntKind.wrap .i64 (IntKind.wrap .i64 (a0.2.2 * 6364136223846793005) + 1442695040888963407) / 2 ^ (33 : Int).toNat) (IntKind.wrap .i64 (IntKind.wrap .i64 (a0.2.2 * 6364136223846793005) + 1442695040888963407) / 2 ^ (45 : Int).toNat)) 255, (a0.1, a0.2.1, IntKind.wrap .i64 (IntKind.wrap .i64 (a0.2.2 * 6364136223846793005) + 1442695040888963407))))
theorem s_l1Byte_walk (w : World) (b0_ : Nat) (a0 : T_l1Cur) (h0_0 : GT.rd w (fps [blk b0_ (GT.cells a0) 144]) a0.1) (r : Int × D_l1Cur) (hp : s_l1Byte (GT.dat a0) = some r) : Spec Try.prog 120 [Value.pointer (some ⟨b0_, 0, none⟩)].toArray w [blk b0_ (GT.cells a0) 144] (fun v M => ∃ (x0 : Int) (y0 : T_l1Cur), v = .int .i64 x0 ∧ (GT.dat x0, GT.dat y0) = r ∧ M = [blk b0_ (GT.cells y0) 144] ∧ y0.1 = a0.1) := by
  obtain ⟨a0_1, a0_2, a0_3⟩ := a0
  change Spec _ _ ([Value.pointer (some ⟨b0_, 0, none⟩)] : List Value).toArray w _ _
  refine Spec.intro Try.func120 rfl Try.ntmps120 rfl ?_
  unfold s_l1Byte at hp
  replace hp := dd hp
  refine s18 ?_
  refine W_D0 [3] mix (by kernel_rfl) rfl ?_
  refine s20 ?_
  refine s10 ?_
  refine W_D0 [34] mix (by kernel_rfl) rfl ?_
  refine s8 ?_
  refine D_lenP (X := a0_1) GC.none (OpV.t rfl) el22.h ?_
  refine s13 ?_
  refine kp [0, 3, 34] ?_
  refine W_cond rfl (fun hc1 => ?_) (fun hc1 => ?_)
  · replace hp := cond_t hc1 hp
    refine s1 ?_
    replace hp := idx_bind hp; obtain ⟨u2, hy2, hp⟩ := hp
    refine W_D0 [3] mix (by kernel_rfl) rfl ?_
    refine s9 ?_
    refine D_idxA (X := a0_1) GC.none (OpV.t rfl) (OpV.t rfl) el22.h (RdT.old h0_0) (fun _ => hy2) ?_
    refine D_load0 GC.none (OpV.t rfl) (fun hg => RdT.at (RdT.old h0_0) (hy2).2) one5.h rfl ?_
    refine D_convInt GC.none (OpV.t rfl) und3.h (by rw [und5.h]; rfl) ?_
    refine s20 ?_
    refine s16 ?_
    obtain rfl := Option.some.inj hp
    refine s1 ?_
    refine res1 rfl (ResOK.tmp rfl) ⟨bits .and .i64 (IntKind.wrap .i64 (bits .and .i64 (bits .xor .i64 (IntKind.wrap .i64 (IntKind.wrap .i64 (a0_3 * 6364136223846793005) + 1442695040888963407) / 2 ^ (33 : Int).toNat) (IntKind.wrap .i64 (IntKind.wrap .i64 (a0_3 * 6364136223846793005) + 1442695040888963407) / 2 ^ (45 : Int).toNat)) 255 + IntKind.wrap .i64 (u2.toNat : Int))) 255, (a0_1, IntKind.wrap .i64 (a0_2 + 1), IntKind.wrap .i64 (IntKind.wrap .i64 (a0_3 * 6364136223846793005) + 1442695040888963407)), rfl, rfl, rfl, rfl⟩ ms
  · replace hp := cond_f hc1 hp
    refine s6 ?_
    obtain rfl := Option.some.inj hp
    refine s1 ?_
    refine res1 rfl (ResOK.tmp rfl) ⟨bits .and .i64 (bits .xor .i64 (IntKind.wrap .i64 (IntKind.wrap .i64 (a0_3 * 6364136223846793005) + 1442695040888963407) / 2 ^ (33 : Int).toNat) (IntKind.wrap .i64 (IntKind.wrap .i64 (a0_3 * 6364136223846793005) + 1442695040888963407) / 2 ^ (45 : Int).toNat)) 255, (a0_1, a0_2, IntKind.wrap .i64 (IntKind.wrap .i64 (a0_3 * 6364136223846793005) + 1442695040888963407)), rfl, rfl, rfl, rfl⟩ ms
noncomputable def s_l1Below (a0 : D_l1Cur) (a1 : Int) : Option (Int × D_l1Cur) :=
  cond (decide (a1 ≤ 0)) (some (0, (a0.1, a0.2.1, a0.2.2))) (cond (decide (a1 ≤ 256)) (Option.bind (s_l1Byte (a0.1, a0.2.1, a0.2.2)) (fun y3 => Option.bind (remP y3.1 a1) (fun y4 => some (y4, (y3.2.1, y3.2.2.1, y3.2.2.2))))) (Option.bind (s_l1Byte (a0.1, a0.2.1, a0.2.2)) (fun y5 => Option.bind (s_l1Byte (y5.2.1, y5.2.2.1, y5.2.2.2)) (fun y6 => Option.bind (s_l1Byte (y6.2.1, y6.2.2.1, y6.2.2.2)) (fun y7 => Option.bind (s_l1Byte (y7.2.1, y7.2.2.1, y7.2.2.2)) (fun y8 => Option.bind (remP (IntKind.wrap .i64 (IntKind.wrap .i64 (IntKind.wrap .i64 (IntKind.wrap .i64 (y5.1 * 16777216) + IntKind.wrap .i64 (y6.1 * 65536)) + IntKind.wrap .i64 (y7.1 * 256)) + y8.1)) a1) (fun y9 => some (y9, (y8.2.1, y8.2.2.1, y8.2.2.2)))))))))
theorem s_l1Below_walk (w : World) (b0_ : Nat) (a0 : T_l1Cur) (a1 : Int) (h0_0 : GT.rd w (fps [blk b0_ (GT.cells a0) 144]) a0.1) (r : Int × D_l1Cur) (hp : s_l1Below (GT.dat a0) a1 = some r) : Spec Try.prog 59 [Value.pointer (some ⟨b0_, 0, none⟩), .int .i64 a1].toArray w [blk b0_ (GT.cells a0) 144] (fun v M => ∃ (x0 : Int) (y0 : T_l1Cur), v = .int .i64 x0 ∧ (GT.dat x0, GT.dat y0) = r ∧ M = [blk b0_ (GT.cells y0) 144] ∧ y0.1 = a0.1) := by
  obtain ⟨a0_1, a0_2, a0_3⟩ := a0
  change Spec _ _ ([Value.pointer (some ⟨b0_, 0, none⟩), .int .i64 a1] : List Value).toArray w _ _
  refine Spec.intro Try.func59 rfl Try.ntmps59 rfl ?_
  unfold s_l1Below at hp
  replace hp := dd hp
  refine s10 ?_
  refine kp [0, 1, 10] ?_
  refine W_cond rfl (fun hc1 => ?_) (fun hc1 => ?_)
  · replace hp := cond_t hc1 hp
    refine s4 ?_
    obtain rfl := Option.some.inj hp
    refine s1 ?_
    refine res1 rfl (ResOK.tmp rfl) ⟨0, (a0_1, a0_2, a0_3), rfl, rfl, rfl, rfl⟩ ms
  · replace hp := cond_f hc1 hp
    refine s7 ?_
    refine kp [0, 1, 12] ?_
    refine W_cond rfl (fun hc2 => ?_) (fun hc2 => ?_)
    · replace hp := cond_t hc2 hp
      refine s3 ?_
      replace hp := ba hp; obtain ⟨y3, hy3, hp⟩ := hp
      refine L_callM [blk b0_ _ _] _ rfl fn120.h rfl pc (by exact fun w hw => s_l1Byte_walk w b0_ (a0_1, a0_2, a0_3) ((RdX.old h0_0) w hw) _ hy3) ?_
      rintro _ _ ⟨y3x0, ⟨y3y0_1, y3y0_2, y3y0_3⟩, rfl, rfl, rfl, hey3_0⟩
      obtain rfl : a0_1 = y3y0_1 := hey3_0.symm
      refine sc ?_
      replace hp := dd hp
      refine s1 ?_
      replace hp := ba hp; obtain ⟨y4, hy4, hp⟩ := hp
      refine L_binV rfl rfl rfl (bv_remP hy4) ?_
      refine s2 ?_
      obtain rfl := Option.some.inj hp
      refine s1 ?_
      refine res1 rfl (ResOK.tmp rfl) ⟨y4, (a0_1, y3y0_2, y3y0_3), rfl, rfl, rfl, rfl⟩ ms
    · replace hp := cond_f hc2 hp
      refine s4 ?_
      replace hp := ba hp; obtain ⟨y5, hy5, hp⟩ := hp
      refine L_callM [blk b0_ _ _] _ rfl fn120.h rfl pc (by exact fun w hw => s_l1Byte_walk w b0_ (a0_1, a0_2, a0_3) ((RdX.old h0_0) w hw) _ hy5) ?_
      rintro _ _ ⟨y5x0, ⟨y5y0_1, y5y0_2, y5y0_3⟩, rfl, rfl, rfl, hey5_0⟩
      obtain rfl : a0_1 = y5y0_1 := hey5_0.symm
      refine sc ?_
      replace hp := dd hp
      refine s5 ?_
      replace hp := ba hp; obtain ⟨y6, hy6, hp⟩ := hp
      refine L_callM [blk b0_ _ _] _ rfl fn120.h rfl pc (by exact fun w hw => s_l1Byte_walk w b0_ (a0_1, y5y0_2, y5y0_3) ((RdX.old h0_0) w hw) _ hy6) ?_
      rintro _ _ ⟨y6x0, ⟨y6y0_1, y6y0_2, y6y0_3⟩, rfl, rfl, rfl, hey6_0⟩
      obtain rfl : a0_1 = y6y0_1 := hey6_0.symm
      refine sc ?_
      replace hp := dd hp
      refine s5 ?_
      replace hp := ba hp; obtain ⟨y7, hy7, hp⟩ := hp
      refine L_callM [blk b0_ _ _] _ rfl fn120.h rfl pc (by exact fun w hw => s_l1Byte_walk w b0_ (a0_1, y6y0_2, y6y0_3) ((RdX.old h0_0) w hw) _ hy7) ?_
      rintro _ _ ⟨y7x0, ⟨y7y0_1, y7y0_2, y7y0_3⟩, rfl, rfl, rfl, hey7_0⟩
      obtain rfl : a0_1 = y7y0_1 := hey7_0.symm
      refine sc ?_
      replace hp := dd hp
      refine s5 ?_
      replace hp := ba hp; obtain ⟨y8, hy8, hp⟩ := hp
      refine L_callM [blk b0_ _ _] _ rfl fn120.h rfl pc (by exact fun w hw => s_l1Byte_walk w b0_ (a0_1, y7y0_2, y7y0_3) ((RdX.old h0_0) w hw) _ hy8) ?_
      rintro _ _ ⟨y8x0, ⟨y8y0_1, y8y0_2, y8y0_3⟩, rfl, rfl, rfl, hey8_0⟩
      obtain rfl : a0_1 = y8y0_1 := hey8_0.symm
      refine sc ?_
      replace hp := dd hp
      refine s15 ?_
      replace hp := ba hp; obtain ⟨y9, hy9, hp⟩ := hp
      refine L_binV rfl rfl rfl (bv_remP hy9) ?_
      refine s2 ?_
      obtain rfl := Option.some.inj hp
      refine s1 ?_
      refine res1 rfl (ResOK.tmp rfl) ⟨y9, (a0_1, y8y0_2, y8y0_3), rfl, rfl, rfl, rfl⟩ ms
noncomputable def s_l1Once (a0 : D_l1Cur) (a1 : Int) : Option (Bool × D_l1Cur) :=
  Option.bind (s_l1Below (a0.1, a0.2.1, a0.2.2) a1) (fun y1 => some (decide (y1.1 = 0), (y1.2.1, y1.2.2.1, y1.2.2.2)))
theorem s_l1Once_walk (w : World) (b0_ : Nat) (a0 : T_l1Cur) (a1 : Int) (h0_0 : GT.rd w (fps [blk b0_ (GT.cells a0) 144]) a0.1) (r : Bool × D_l1Cur) (hp : s_l1Once (GT.dat a0) a1 = some r) : Spec Try.prog 89 [Value.pointer (some ⟨b0_, 0, none⟩), .int .i64 a1].toArray w [blk b0_ (GT.cells a0) 144] (fun v M => ∃ (x0 : Bool) (y0 : T_l1Cur), v = .bool x0 ∧ (GT.dat x0, GT.dat y0) = r ∧ M = [blk b0_ (GT.cells y0) 144] ∧ y0.1 = a0.1) := by
  obtain ⟨a0_1, a0_2, a0_3⟩ := a0
  change Spec _ _ ([Value.pointer (some ⟨b0_, 0, none⟩), .int .i64 a1] : List Value).toArray w _ _
  refine Spec.intro Try.func89 rfl Try.ntmps89 rfl ?_
  unfold s_l1Once at hp
  replace hp := dd hp
  refine s8 ?_
  replace hp := ba hp; obtain ⟨y1, hy1, hp⟩ := hp
  refine L_callM [blk b0_ _ _] _ rfl fn59.h rfl pc (by exact fun w hw => s_l1Below_walk w b0_ (a0_1, a0_2, a0_3) a1 ((RdX.old h0_0) w hw) _ hy1) ?_
  rintro _ _ ⟨y1x0, ⟨y1y0_1, y1y0_2, y1y0_3⟩, rfl, rfl, rfl, hey1_0⟩
  obtain rfl : a0_1 = y1y0_1 := hey1_0.symm
  refine sc ?_
  replace hp := dd hp
  refine s3 ?_
  obtain rfl := Option.some.inj hp
  refine s1 ?_
  refine res1 rfl (ResOK.tmp rfl) ⟨decide (y1x0 = 0), (a0_1, y1y0_2, y1y0_3), rfl, rfl, rfl, rfl⟩ ms
noncomputable def s_l1PickInt (a0 : D_l1Cur) (a1 : List Int) : Option (Int × D_l1Cur) :=
  Option.bind (s_l1Below (a0.1, a0.2.1, a0.2.2) (a1.length : Int)) (fun y1 => Option.bind (idx a1 y1.1) (fun y2 => some (y2, (y1.2.1, y1.2.2.1, y1.2.2.2))))
theorem s_l1PickInt_walk (w : World) (b0_ : Nat) (a0 : T_l1Cur) (a1 : TL Int) (h1 : GT.rd w (fps [blk b0_ (GT.cells a0) 144]) a1) (h0_0 : GT.rd w (fps [blk b0_ (GT.cells a0) 144]) a0.1) (r : Int × D_l1Cur) (hp : s_l1PickInt (GT.dat a0) (GT.dat a1) = some r) : Spec Try.prog 90 [Value.pointer (some ⟨b0_, 0, none⟩), (TL.hdr a1)].toArray w [blk b0_ (GT.cells a0) 144] (fun v M => ∃ (x0 : Int) (y0 : T_l1Cur), v = .int .i64 x0 ∧ (GT.dat x0, GT.dat y0) = r ∧ M = [blk b0_ (GT.cells y0) 144] ∧ y0.1 = a0.1) := by
  obtain ⟨a0_1, a0_2, a0_3⟩ := a0
  change Spec _ _ ([Value.pointer (some ⟨b0_, 0, none⟩), (TL.hdr a1)] : List Value).toArray w _ _
  refine Spec.intro Try.func90 rfl Try.ntmps90 rfl ?_
  unfold s_l1PickInt at hp
  replace hp := dd hp
  refine s10 ?_
  replace hp := ba hp; obtain ⟨y1, hy1, hp⟩ := hp
  refine L_callM [blk b0_ _ _] _ rfl fn59.h rfl pc (by exact fun w hw => s_l1Below_walk w b0_ (a0_1, a0_2, a0_3) ((GT.dat a1).length : Int) ((RdX.old h0_0) w hw) _ hy1) ?_
  rintro _ _ ⟨y1x0, ⟨y1y0_1, y1y0_2, y1y0_3⟩, rfl, rfl, rfl, hey1_0⟩
  obtain rfl : a0_1 = y1y0_1 := hey1_0.symm
  refine sc ?_
  replace hp := dd hp
  replace hp := idx_bind hp; obtain ⟨u2, hy2, hp⟩ := hp
  refine L_idxA (X := a1) rfl rfl rfl el34.h (RdT.old h1) hy2 ?_
  refine L_load0 rfl rfl (RdT.at (RdT.old h1) (hy2).2) one3.h rfl ?_
  refine s2 ?_
  obtain rfl := Option.some.inj hp
  refine s1 ?_
  refine res1 rfl (ResOK.tmp rfl) ⟨u2, (a0_1, y1y0_2, y1y0_3), rfl, rfl, rfl, rfl⟩ ms
noncomputable def s_l1Pick (a0 : D_l1Cur) (a1 : List ByteArray) : Option (ByteArray × D_l1Cur) :=
  Option.bind (s_l1Below (a0.1, a0.2.1, a0.2.2) (a1.length : Int)) (fun y1 => Option.bind (idx a1 y1.1) (fun y2 => some (y2, (y1.2.1, y1.2.2.1, y1.2.2.2))))
theorem s_l1Pick_walk (w : World) (b0_ : Nat) (a0 : T_l1Cur) (a1 : TL ByteArray) (h1 : GT.rd w (fps [blk b0_ (GT.cells a0) 144]) a1) (h0_0 : GT.rd w (fps [blk b0_ (GT.cells a0) 144]) a0.1) (r : ByteArray × D_l1Cur) (hp : s_l1Pick (GT.dat a0) (GT.dat a1) = some r) : Spec Try.prog 132 [Value.pointer (some ⟨b0_, 0, none⟩), (TL.hdr a1)].toArray w [blk b0_ (GT.cells a0) 144] (fun v M => ∃ (x0 : ByteArray) (y0 : T_l1Cur), v = .string x0 ∧ (GT.dat x0, GT.dat y0) = r ∧ M = [blk b0_ (GT.cells y0) 144] ∧ y0.1 = a0.1) := by
  obtain ⟨a0_1, a0_2, a0_3⟩ := a0
  change Spec _ _ ([Value.pointer (some ⟨b0_, 0, none⟩), (TL.hdr a1)] : List Value).toArray w _ _
  refine Spec.intro Try.func132 rfl Try.ntmps132 rfl ?_
  unfold s_l1Pick at hp
  replace hp := dd hp
  refine s10 ?_
  replace hp := ba hp; obtain ⟨y1, hy1, hp⟩ := hp
  refine L_callM [blk b0_ _ _] _ rfl fn59.h rfl pc (by exact fun w hw => s_l1Below_walk w b0_ (a0_1, a0_2, a0_3) ((GT.dat a1).length : Int) ((RdX.old h0_0) w hw) _ hy1) ?_
  rintro _ _ ⟨y1x0, ⟨y1y0_1, y1y0_2, y1y0_3⟩, rfl, rfl, rfl, hey1_0⟩
  obtain rfl : a0_1 = y1y0_1 := hey1_0.symm
  refine sc ?_
  replace hp := dd hp
  replace hp := idx_bind hp; obtain ⟨u2, hy2, hp⟩ := hp
  refine L_idxA (X := a1) rfl rfl rfl el25.h (RdT.old h1) hy2 ?_
  refine L_load0 rfl rfl (RdT.at (RdT.old h1) (hy2).2) one9.h rfl ?_
  refine s2 ?_
  obtain rfl := Option.some.inj hp
  refine s1 ?_
  refine res1 rfl (ResOK.tmp rfl) ⟨u2, (a0_1, y1y0_2, y1y0_3), rfl, rfl, rfl, rfl⟩ ms
noncomputable def s_l1Text (a0 : D_l1Cur) (a1 : Int) : Option (ByteArray × D_l1Cur) :=
  Option.bind (some ([] : List UInt8)) (fun y2 => Option.bind (s_l1Below (a0.1, a0.2.1, a0.2.2) 4) (fun y3 => Option.bind (s_l1Below (y3.2.1, y3.2.2.1, y3.2.2.2) (IntKind.wrap .i64 (a1 + 1))) (fun y4 => whileP (fun s5 : (List UInt8) × Int × Int × Int => cond (decide (0 < s5.2.1)) (Option.bind (s_l1Byte (y4.2.1, s5.2.2.1, s5.2.2.2)) (fun y7 => cond (decide (y3.1 = 1)) (cond (decide (y3.1 = 2)) (Option.bind (u8P (IntKind.wrap .u8 (IntKind.wrap .i64 (97 + ((y7.1).tmod 2).tmod 4)))) (fun y10 => Option.bind (appP s5.1 [y10]) (fun y12 => some (.inl ((y12, IntKind.wrap .i64 (s5.2.1 - 1), y7.2.2.1, y7.2.2.2)))))) (Option.bind (u8P (IntKind.wrap .u8 ((y7.1).tmod 2))) (fun y13 => Option.bind (appP s5.1 [y13]) (fun y15 => some (.inl ((y15, IntKind.wrap .i64 (s5.2.1 - 1), y7.2.2.1, y7.2.2.2))))))) (cond (decide (y3.1 = 2)) (Option.bind (u8P (IntKind.wrap .u8 (IntKind.wrap .i64 (97 + (y7.1).tmod 4)))) (fun y17 => Option.bind (appP s5.1 [y17]) (fun y19 => some (.inl ((y19, IntKind.wrap .i64 (s5.2.1 - 1), y7.2.2.1, y7.2.2.2)))))) (Option.bind (u8P (IntKind.wrap .u8 y7.1)) (fun y20 => Option.bind (appP s5.1 [y20]) (fun y22 => some (.inl ((y22, IntKind.wrap .i64 (s5.2.1 - 1), y7.2.2.1, y7.2.2.2))))))))) (Option.map .inr (some ((strP s5.1), (y4.2.1, s5.2.2.1, s5.2.2.2))))) (y2, y4.1, y4.2.2.1, y4.2.2.2))))
theorem s_l1Text_walk (w : World) (b0_ : Nat) (a0 : T_l1Cur) (a1 : Int) (h0_0 : GT.rd w (fps [blk b0_ (GT.cells a0) 144]) a0.1) (r : ByteArray × D_l1Cur) (hp : s_l1Text (GT.dat a0) a1 = some r) : Spec Try.prog 60 [Value.pointer (some ⟨b0_, 0, none⟩), .int .i64 a1].toArray w [blk b0_ (GT.cells a0) 144] (fun v M => ∃ (x0 : ByteArray) (y0 : T_l1Cur), v = .string x0 ∧ (GT.dat x0, GT.dat y0) = r ∧ M = [blk b0_ (GT.cells y0) 144] ∧ y0.1 = a0.1) := by
  obtain ⟨a0_1, a0_2, a0_3⟩ := a0
  change Spec _ _ ([Value.pointer (some ⟨b0_, 0, none⟩), .int .i64 a1] : List Value).toArray w _ _
  refine Spec.intro Try.func60 rfl Try.ntmps60 rfl ?_
  unfold s_l1Text at hp
  replace hp := dd hp
  refine s6 ?_
  replace hp := ba hp; obtain ⟨y2, hy2, hp⟩ := hp
  refine L_mk0 UInt8 rfl el22.h (fun X1 hdX1 => ?_)
  obtain rfl : GT.dat X1 = y2 := hdX1.trans (Option.some.inj hy2)
  clear hy2 hdX1
  refine s5 ?_
  replace hp := ba hp; obtain ⟨y3, hy3, hp⟩ := hp
  refine L_callM [blk b0_ _ _] _ rfl fn59.h rfl pc (by exact fun w hw => s_l1Below_walk w b0_ (a0_1, a0_2, a0_3) 4 ((RdX.old h0_0) w hw) _ hy3) ?_
  rintro _ _ ⟨y3x0, ⟨y3y0_1, y3y0_2, y3y0_3⟩, rfl, rfl, rfl, hey3_0⟩
  obtain rfl : a0_1 = y3y0_1 := hey3_0.symm
  refine sc ?_
  replace hp := dd hp
  refine s8 ?_
  replace hp := ba hp; obtain ⟨y4, hy4, hp⟩ := hp
  refine L_callM [blk b0_ _ _] _ rfl fn59.h rfl pc (by exact fun w hw => s_l1Below_walk w b0_ (a0_1, y3y0_2, y3y0_3) (IntKind.wrap .i64 (a1 + 1)) ((RdX.old h0_0) w hw) _ hy4) ?_
  rintro _ _ ⟨y4x0, ⟨y4y0_1, y4y0_2, y4y0_3⟩, rfl, rfl, rfl, hey4_0⟩
  obtain rfl : a0_1 = y4y0_1 := hey4_0.symm
  refine sc ?_
  replace hp := dd hp
  refine s3 ?_
  refine W_while (σ := (TL UInt8) × Int × Int × Int) GT.dat (fun ((v5_0, v5_1, v5_2, v5_3) : (TL UInt8) × Int × Int × Int) => [(5, (TL.hdr v5_0)), (7, .int .i64 v5_1)]) (fun ((v5_0, v5_1, v5_2, v5_3) : (TL UInt8) × Int × Int × Int) => [blk b0_ [(TL.hdr a0_1), .int .i64 v5_2, .int .i64 v5_3] 144, treeH v5_0]) [(0, _), (6, _)] [] (X1, y4x0, y4y0_2, y4y0_3) hp sb ms ?_
  clear hp
  rintro ⟨v5_0, v5_1, v5_2, v5_3⟩ x5 hp hx5
  replace hp := dd hp
  refine kq [0, 5, 6, 7] ?_
  refine s6 ?_
  refine kp [0, 5, 6, 7, 17] ?_
  refine W_cond rfl (fun hc6 => ?_) (fun hc6 => ?_)
  · replace hp := cond_t hc6 hp
    refine s6 ?_
    replace hp := ba hp; obtain ⟨y7, hy7, hp⟩ := hp
    refine L_callM [blk b0_ _ _] _ rfl fn120.h rfl pc (by exact fun w hw => s_l1Byte_walk w b0_ (a0_1, v5_2, v5_3) ((RdX.old h0_0) w hw) _ hy7) ?_
    rintro _ _ ⟨y7x0, ⟨y7y0_1, y7y0_2, y7y0_3⟩, rfl, rfl, rfl, hey7_0⟩
    obtain rfl : a0_1 = y7y0_1 := hey7_0.symm
    refine sc ?_
    replace hp := dd hp
    refine s8 ?_
    refine kp [0, 5, 6, 7, 8, 23] ?_
    refine W_cond rfl (fun hc8 => ?_) (fun hc8 => ?_)
    · replace hp := cond_t hc8 hp
      refine s11 ?_
      refine kp [0, 5, 6, 7, 8, 27] ?_
      refine W_cond rfl (fun hc9 => ?_) (fun hc9 => ?_)
      · replace hp := cond_t hc9 hp
        refine s9 ?_
        refine L_convInt rfl rfl und5.h (by rw [und3.h]; rfl) ?_
        replace hp := ba hp; obtain ⟨y10, hy10, hp⟩ := hp
        have ey10 := u8P_some hy10
        try simp only [dat_u8] at ey10
        try simp only [ey10]
        refine L_buildSlice1 rfl rfl el22.h rfl (by decide) (by decide) rfl (fun bb34 => ?_)
        replace hp := ba hp; obtain ⟨y12, hy12, hp⟩ := hp
        refine L_app1F (X := v5_0) (y10 : UInt8) rfl rfl rfl el22.h rfl rfl pk mm  hy12 (by decide) (fun X11 hdX11 => ?_)
        subst hdX11
        refine s7 ?_
        exact ⟨(X11, IntKind.wrap .i64 (v5_1 - 1), y7y0_2, y7y0_3), sb, (.sub ms), some_eq hp⟩
      · replace hp := cond_f hc9 hp
        refine s4 ?_
        refine L_convInt rfl rfl und5.h (by rw [und3.h]; rfl) ?_
        replace hp := ba hp; obtain ⟨y13, hy13, hp⟩ := hp
        have ey13 := u8P_some hy13
        try simp only [dat_u8] at ey13
        try simp only [ey13]
        refine L_buildSlice1 rfl rfl el22.h rfl (by decide) (by decide) rfl (fun bb34 => ?_)
        replace hp := ba hp; obtain ⟨y15, hy15, hp⟩ := hp
        refine L_app1F (X := v5_0) (y13 : UInt8) rfl rfl rfl el22.h rfl rfl pk mm  hy15 (by decide) (fun X14 hdX14 => ?_)
        subst hdX14
        refine s7 ?_
        exact ⟨(X14, IntKind.wrap .i64 (v5_1 - 1), y7y0_2, y7y0_3), sb, (.sub ms), some_eq hp⟩
    · replace hp := cond_f hc8 hp
      refine s7 ?_
      refine kp [0, 5, 6, 7, 8, 27] ?_
      refine W_cond rfl (fun hc16 => ?_) (fun hc16 => ?_)
      · replace hp := cond_t hc16 hp
        refine s9 ?_
        refine L_convInt rfl rfl und5.h (by rw [und3.h]; rfl) ?_
        replace hp := ba hp; obtain ⟨y17, hy17, hp⟩ := hp
        have ey17 := u8P_some hy17
        try simp only [dat_u8] at ey17
        try simp only [ey17]
        refine L_buildSlice1 rfl rfl el22.h rfl (by decide) (by decide) rfl (fun bb34 => ?_)
        replace hp := ba hp; obtain ⟨y19, hy19, hp⟩ := hp
        refine L_app1F (X := v5_0) (y17 : UInt8) rfl rfl rfl el22.h rfl rfl pk mm  hy19 (by decide) (fun X18 hdX18 => ?_)
        subst hdX18
        refine s7 ?_
        exact ⟨(X18, IntKind.wrap .i64 (v5_1 - 1), y7y0_2, y7y0_3), sb, (.sub ms), some_eq hp⟩
      · replace hp := cond_f hc16 hp
        refine s4 ?_
        refine L_convInt rfl rfl und5.h (by rw [und3.h]; rfl) ?_
        replace hp := ba hp; obtain ⟨y20, hy20, hp⟩ := hp
        have ey20 := u8P_some hy20
        try simp only [dat_u8] at ey20
        try simp only [ey20]
        refine L_buildSlice1 rfl rfl el22.h rfl (by decide) (by decide) rfl (fun bb34 => ?_)
        replace hp := ba hp; obtain ⟨y22, hy22, hp⟩ := hp
        refine L_app1F (X := v5_0) (y20 : UInt8) rfl rfl rfl el22.h rfl rfl pk mm  hy22 (by decide) (fun X21 hdX21 => ?_)
        subst hdX21
        refine s7 ?_
        exact ⟨(X21, IntKind.wrap .i64 (v5_1 - 1), y7y0_2, y7y0_3), sb, (.sub ms), some_eq hp⟩
  · replace hp := cond_f hc6 hp
    refine W_exit ?_
    replace hp := map_any hp; obtain ⟨a23, hp, hx_a23⟩ := hp
    obtain rfl := hx5 _ hx_a23
    refine s3 ?_
    refine L_toStr (X := v5_0) rfl rfl und22.h und5.h und9.h (RdT.tree mm) ?_
    refine s2 ?_
    obtain rfl := Option.some.inj hp
    refine s1 ?_
    refine res1 rfl (ResOK.tmp rfl) ⟨(strP (GT.dat v5_0)), (a0_1, v5_2, v5_3), rfl, rfl, rfl, rfl⟩ ms
end Go.Proofs.SL
namespace Go.Proofs.SL
open Go
def gA0 : List Int := [1116352408, 1899447441, 3049323471, 3921009573, 961987163, 1508970993, 2453635748, 2870763221, 3624381080, 310598401, 607225278, 1426881987, 1925078388, 2162078206, 2614888103, 3248222580, 3835390401, 4022224774, 264347078, 604807628, 770255983, 1249150122, 1555081692, 1996064986, 2554220882, 2821834349, 2952996808, 3210313671, 3336571891, 3584528711, 113926993, 338241895, 666307205, 773529912, 1294757372, 1396182291, 1695183700, 1986661051, 2177026350, 2456956037, 2730485921, 2820302411, 3259730800, 3345764771, 3516065817, 3600352804, 4094571909, 275423344, 430227734, 506948616, 659060556, 883997877, 958139571, 1322822218, 1537002063, 1747873779, 1955562222, 2024104815, 2227730452, 2361852424, 2428436474, 2756734187, 3204031479, 3329325298]
end Go.Proofs.SL
namespace Go.Proofs.SL
open Go
set_option maxHeartbeats 2000000
instance fn188 : FnF Try.prog 188 := ⟨⟨_, Try.func188, by kernel_rfl, rfl⟩⟩
instance fn187 : FnF Try.prog 187 := ⟨⟨_, Try.func187, by kernel_rfl, rfl⟩⟩
instance und152 : UndF Try.prog 152 (.int .u64) := ⟨by kernel_rfl⟩
instance fn167 : FnF Try.prog 167 := ⟨⟨_, Try.func167, by kernel_rfl, rfl⟩⟩
instance fn168 : FnF Try.prog 168 := ⟨⟨_, Try.func168, by kernel_rfl, rfl⟩⟩
instance fn146 : FnF Try.prog 146 := ⟨⟨_, Try.func146, by kernel_rfl, rfl⟩⟩
def s_l3Keys_c : List Int := [1116352408, 1899447441, 3049323471, 3921009573, 961987163, 1508970993, 2453635748, 2870763221, 3624381080, 310598401, 607225278, 1426881987, 1925078388, 2162078206, 2614888103, 3248222580, 3835390401, 4022224774, 264347078, 604807628, 770255983, 1249150122, 1555081692, 1996064986, 2554220882, 2821834349, 2952996808, 3210313671, 3336571891, 3584528711, 113926993, 338241895, 666307205, 773529912, 1294757372, 1396182291, 1695183700, 1986661051, 2177026350, 2456956037, 2730485921, 2820302411, 3259730800, 3345764771, 3516065817, 3600352804, 4094571909, 275423344, 430227734, 506948616, 659060556, 883997877, 958139571, 1322822218, 1537002063, 1747873779, 1955562222, 2024104815, 2227730452, 2361852424, 2428436474, 2756734187, 3204031479, 3329325298]
noncomputable def s_l3Keys  : Option (List Int) :=
  Option.bind (some s_l3Keys_c) (fun y1 => some y1)
set_option maxHeartbeats 1000000 in
set_option maxRecDepth 20000 in
theorem s_l3Keys_walk (w : World)   (r : (List Int)) (hp : s_l3Keys  = some r) : Spec Try.prog 167 [].toArray w [] (fun v M => ∃ (x0 : TL Int), v = (TL.hdr x0) ∧ GT.dat x0 = r ∧ M = [treeH x0]) := by
  refine Spec.intro Try.func167 rfl Try.ntmps167 rfl ?_
  unfold s_l3Keys at hp
  replace hp := dd hp
  refine s2 ?_
  refine L_assign (v := (TL.hdr (TL.nil Int 0))) rfl rfl ?_
  refine s3 ?_
  replace hp := ba hp; obtain ⟨y1, hy1, hp⟩ := hp
  refine L_bsNC s_l3Keys_c rfl (by kernel_rfl) (by kernel_rfl) el34.h rfl rfl rfl rfl (by kernel_rfl) (fun X2 hdX2 => ?_)
  obtain rfl : GT.dat X2 = y1 := hdX2.trans (Option.some.inj hy1)
  clear hy1 hdX2
  refine s2 ?_
  obtain rfl := Option.some.inj hp
  refine s1 ?_
  refine res1 rfl (ResOK.tmp rfl) ⟨X2, rfl, rfl, rfl⟩ ms
noncomputable def s_l3Word (a0 : Int) : Option Int :=
  some (bits .and .i64 a0 4294967295)
theorem s_l3Word_walk (w : World) (a0 : Int)  (r : Int) (hp : s_l3Word a0 = some r) : Spec Try.prog 188 [.int .i64 a0].toArray w [] (IsV (.int .i64 r)) := by
  refine Spec.intro Try.func188 rfl Try.ntmps188 rfl ?_
  unfold s_l3Word at hp
  replace hp := dd hp
  refine s10 ?_
  obtain rfl := Option.some.inj hp
  refine s1 ?_
  refine res1 rfl (ResOK.tmp rfl) ⟨rfl, rfl⟩ ms
noncomputable def s_l3Right (a0 : Int) (a1 : Int) : Option Int :=
  Option.bind (shrP .i64 a0 a1) (fun y1 => Option.bind (shlP .i64 a0 (IntKind.wrap .u64 (32 - a1))) (fun y2 => Option.bind (s_l3Word (bits .or .i64 y1 y2)) (fun y3 => some y3)))
theorem s_l3Right_walk (w : World) (a0 : Int) (a1 : Int)  (r : Int) (hp : s_l3Right a0 a1 = some r) : Spec Try.prog 187 [.int .i64 a0, .int .u64 a1].toArray w [] (IsV (.int .i64 r)) := by
  refine Spec.intro Try.func187 rfl Try.ntmps187 rfl ?_
  unfold s_l3Right at hp
  replace hp := dd hp
  refine s8 ?_
  replace hp := ba hp; obtain ⟨y1, hy1, hp⟩ := hp
  refine L_binV rfl rfl rfl (bv_shrP hy1) ?_
  refine s3 ?_
  replace hp := ba hp; obtain ⟨y2, hy2, hp⟩ := hp
  refine L_binV rfl rfl rfl (bv_shlP hy2) ?_
  refine s1 ?_
  replace hp := ba hp; obtain ⟨y3, hy3, hp⟩ := hp
  refine L_callX rfl fn188.h rfl (by exact fun w hw => s_l3Word_walk w (bits .or .i64 y1 y2)  _ hy3) ?_
  refine s2 ?_
  obtain rfl := Option.some.inj hp
  refine s1 ?_
  refine res1 rfl (ResOK.tmp rfl) ⟨rfl, rfl⟩ ms
noncomputable def s_l3Block (a0 : List Int) (a1 : ByteArray) (a2 : List Int) : Option (List Int) :=
  Option.bind (mkP 8 64 (0 : Int)) (fun y1 => whileP (fun s3 : (List Int) × Int => cond (decide (s3.2 < 16)) (Option.bind (sidx a1 (IntKind.wrap .i64 (4 * s3.2))) (fun y5 => Option.bind (sidx a1 (IntKind.wrap .i64 (IntKind.wrap .i64 (4 * s3.2) + 1))) (fun y6 => Option.bind (sidx a1 (IntKind.wrap .i64 (IntKind.wrap .i64 (4 * s3.2) + 2))) (fun y7 => Option.bind (sidx a1 (IntKind.wrap .i64 (IntKind.wrap .i64 (4 * s3.2) + 3))) (fun y8 => Option.bind (idx s3.1 s3.2) (fun y9 => Option.bind (some (s3.1.set (s3.2.toNat) (bits .or .i64 (bits .or .i64 (bits .or .i64 (IntKind.wrap .i64 (IntKind.wrap .i64 y5 * 2 ^ (24 : Int).toNat)) (IntKind.wrap .i64 (IntKind.wrap .i64 y6 * 2 ^ (16 : Int).toNat))) (IntKind.wrap .i64 (IntKind.wrap .i64 y7 * 2 ^ (8 : Int).toNat))) (IntKind.wrap .i64 y8)))) (fun y10 => some (.inl ((y10, IntKind.wrap .i64 (s3.2 + 1))))))))))) (Option.map .inr (whileP (fun s13 : (List Int) × Int => cond (decide (s13.2 < 64)) (Option.bind (idx s13.1 (IntKind.wrap .i64 (s13.2 - 15))) (fun y15 => Option.bind (s_l3Right y15 7) (fun y16 => Option.bind (idx s13.1 (IntKind.wrap .i64 (s13.2 - 15))) (fun y17 => Option.bind (s_l3Right y17 18) (fun y18 => Option.bind (idx s13.1 (IntKind.wrap .i64 (s13.2 - 15))) (fun y19 => Option.bind (idx s13.1 (IntKind.wrap .i64 (s13.2 - 2))) (fun y20 => Option.bind (s_l3Right y20 17) (fun y21 => Option.bind (idx s13.1 (IntKind.wrap .i64 (s13.2 - 2))) (fun y22 => Option.bind (s_l3Right y22 19) (fun y23 => Option.bind (idx s13.1 (IntKind.wrap .i64 (s13.2 - 2))) (fun y24 => Option.bind (idx s13.1 (IntKind.wrap .i64 (s13.2 - 16))) (fun y25 => Option.bind (idx s13.1 (IntKind.wrap .i64 (s13.2 - 7))) (fun y26 => Option.bind (s_l3Word (IntKind.wrap .i64 (IntKind.wrap .i64 (IntKind.wrap .i64 (y25 + bits .xor .i64 (bits .xor .i64 y16 y18) (y19 / 2 ^ (3 : Int).toNat)) + y26) + bits .xor .i64 (bits .xor .i64 y21 y23) (y24 / 2 ^ (10 : Int).toNat)))) (fun y27 => Option.bind (idx s13.1 s13.2) (fun y28 => Option.bind (some (s13.1.set (s13.2.toNat) y27)) (fun y29 => some (.inl ((y29, IntKind.wrap .i64 (s13.2 + 1)))))))))))))))))))) (Option.map .inr (Option.bind (some ([] : List Int)) (fun y33 => Option.bind (appP y33 a0) (fun y35 => whileP (fun s36 : (List Int) × Int => cond (decide (s36.2 < 64)) (Option.bind (idx s36.1 4) (fun y38 => Option.bind (idx s36.1 0) (fun y39 => Option.bind (idx s36.1 7) (fun y40 => Option.bind (s_l3Right y38 6) (fun y41 => Option.bind (s_l3Right y38 11) (fun y42 => Option.bind (s_l3Right y38 25) (fun y43 => Option.bind (idx s36.1 5) (fun y44 => Option.bind (s_l3Word (bits .xor .i64 (if IntKind.signed .i64 then -1 else IntKind.max .i64) y38)) (fun y45 => Option.bind (idx s36.1 6) (fun y46 => Option.bind (idx a2 s36.2) (fun y47 => Option.bind (idx s13.1 s36.2) (fun y48 => Option.bind (s_l3Right y39 2) (fun y49 => Option.bind (s_l3Right y39 13) (fun y50 => Option.bind (s_l3Right y39 22) (fun y51 => Option.bind (idx s36.1 1) (fun y52 => Option.bind (idx s36.1 2) (fun y53 => Option.bind (idx s36.1 1) (fun y54 => Option.bind (idx s36.1 2) (fun y55 => Option.bind (s_l3Word (IntKind.wrap .i64 (IntKind.wrap .i64 (IntKind.wrap .i64 (IntKind.wrap .i64 (IntKind.wrap .i64 (y40 + bits .xor .i64 (bits .xor .i64 y41 y42) y43) + bits .xor .i64 (bits .and .i64 y38 y44) (bits .and .i64 y45 y46)) + y47) + y48) + IntKind.wrap .i64 (bits .xor .i64 (bits .xor .i64 y49 y50) y51 + bits .xor .i64 (bits .xor .i64 (bits .and .i64 y39 y52) (bits .and .i64 y39 y53)) (bits .and .i64 y54 y55))))) (fun y56 => Option.bind (idx s36.1 0) (fun y57 => Option.bind (idx s36.1 1) (fun y58 => Option.bind (idx s36.1 2) (fun y59 => Option.bind (idx s36.1 3) (fun y60 => Option.bind (s_l3Word (IntKind.wrap .i64 (y60 + IntKind.wrap .i64 (IntKind.wrap .i64 (IntKind.wrap .i64 (IntKind.wrap .i64 (y40 + bits .xor .i64 (bits .xor .i64 y41 y42) y43) + bits .xor .i64 (bits .and .i64 y38 y44) (bits .and .i64 y45 y46)) + y47) + y48)))) (fun y61 => Option.bind (idx s36.1 4) (fun y62 => Option.bind (idx s36.1 5) (fun y63 => Option.bind (idx s36.1 6) (fun y64 => Option.bind (some ([y56, y57, y58, y59, y61, y62, y63, y64] : List Int)) (fun y65 => some (.inl ((y65, IntKind.wrap .i64 (s36.2 + 1))))))))))))))))))))))))))))))))) (Option.map .inr (Option.bind (some ([] : List Int)) (fun y69 => whileP (fun s70 : (List Int) × Int => cond (decide (s70.2 < 8)) (Option.bind (idx a0 s70.2) (fun y72 => Option.bind (idx s36.1 s70.2) (fun y73 => Option.bind (s_l3Word (IntKind.wrap .i64 (y72 + y73))) (fun y74 => Option.bind (appP s70.1 [y74]) (fun y76 => some (.inl ((y76, IntKind.wrap .i64 (s70.2 + 1))))))))) (Option.map .inr (some s70.1))) (y69, 0))))) (y35, 0)))))) (s3.1, 16)))) (y1, 0))
set_option maxHeartbeats 8000000 in
theorem s_l3Block_walk (w : World) (a0 : TL Int) (a1 : ByteArray) (a2 : TL Int) (h0 : GT.rd w [] a0) (h2 : GT.rd w [] a2) (r : (List Int)) (hp : s_l3Block (GT.dat a0) a1 (GT.dat a2) = some r) : Spec Try.prog 168 [(TL.hdr a0), .string a1, (TL.hdr a2)].toArray w [] (fun v M => ∃ (x0 : TL Int), v = (TL.hdr x0) ∧ GT.dat x0 = r ∧ M = [treeH x0]) := by
  refine Spec.intro Try.func168 rfl Try.ntmps168 rfl ?_
  unfold s_l3Block at hp
  replace hp := dd hp
  refine s2 ?_
  refine L_assign (v := (TL.hdr (TL.nil Int 0))) rfl rfl ?_
  refine s3 ?_
  replace hp := ba hp; obtain ⟨y1, hy1, hp⟩ := hp
  refine L_mkP (0 : Int) rfl rfl rfl el34.h rfl rfl (FlatT.flat _) hy1 (fun X2 hdX2 => ?_)
  subst hdX2
  refine s8 ?_
  refine W_while (σ := (TL Int) × Int) GT.dat (fun ((v3_0, v3_1) : (TL Int) × Int) => [(7, (TL.hdr v3_0)), (8, .int .i64 v3_1)]) (fun ((v3_0, v3_1) : (TL Int) × Int) => [treeH v3_0]) [(0, _), (1, _), (2, _)] [] (X2, 0) hp sb ms ?_
  clear hp
  rintro ⟨v3_0, v3_1⟩ x3 hp hx3
  replace hp := dd hp
  refine kq [0, 1, 2, 7, 8] ?_
  refine s6 ?_
  refine kp [0, 1, 2, 7, 8, 22] ?_
  refine W_cond rfl (fun hc4 => ?_) (fun hc4 => ?_)
  · replace hp := cond_t hc4 hp
    refine s3 ?_
    replace hp := ba hp; obtain ⟨y5, hy5, hp⟩ := hp
    replace hp := ba hp; obtain ⟨y6, hy6, hp⟩ := hp
    replace hp := ba hp; obtain ⟨y7, hy7, hp⟩ := hp
    replace hp := ba hp; obtain ⟨y8, hy8, hp⟩ := hp
    refine W_DS (pre := [_, _, _, _, _, _, _, _, _, _, _, _, _, _, _, _, _, _, _, _, _, _, _, _, _, _, _, _, _, _, _]) (suf := [_, _]) [25, 26, 55] [] _ pc mix (by kernel_rfl) (by kernel_rfl) rfl ?_
    refine s5 ?_
    refine D_idxS GC.none (OpV.t rfl) (OpV.t rfl) str9.h (fun hg => hy5) ?_
    refine D_convInt GC.none (OpV.t rfl) und3.h (by rw [und5.h]; rfl) ?_
    refine s5 ?_
    refine D_idxS GC.none (OpV.t rfl) (OpV.t rfl) str9.h (fun hg => hy6) ?_
    refine D_convInt GC.none (OpV.t rfl) und3.h (by rw [und5.h]; rfl) ?_
    refine s6 ?_
    refine D_idxS GC.none (OpV.t rfl) (OpV.t rfl) str9.h (fun hg => hy7) ?_
    refine D_convInt GC.none (OpV.t rfl) und3.h (by rw [und5.h]; rfl) ?_
    refine s6 ?_
    refine D_idxS GC.none (OpV.t rfl) (OpV.t rfl) str9.h (fun hg => hy8) ?_
    refine D_convInt GC.none (OpV.t rfl) und3.h (by rw [und5.h]; rfl) ?_
    refine s20 ?_
    refine s14 ?_
    replace hp := idx_bind hp; obtain ⟨u9, hy9, hp⟩ := hp
    refine L_idxA (X := v3_0) rfl rfl rfl el34.h (RdT.tree mm) hy9 ?_
    refine L_conv (M' := treeH u9 :: holeH v3_0 (v3_1.toNat) (GT.cells u9) :: _) (fun w h => hole_open hy9.2 pk h) ?_
    refine L_stH (X := v3_0) (i := v3_1.toNat) (sz := 1) (fo := 0) (n := 1) rfl rfl pk rfl (.inr ⟨one3.h, rfl⟩) rfl (allOne rfl) (Nat.le_of_ble_eq_true rfl) ?_
    refine L_conv (M' := treeH (bits .or .i64 (bits .or .i64 (bits .or .i64 (IntKind.wrap .i64 (IntKind.wrap .i64 y5 * 2 ^ (24 : Int).toNat)) (IntKind.wrap .i64 (IntKind.wrap .i64 y6 * 2 ^ (16 : Int).toNat))) (IntKind.wrap .i64 (IntKind.wrap .i64 y7 * 2 ^ (8 : Int).toNat))) (IntKind.wrap .i64 y8) : Int) :: _) (fun w h => addF (bits .or .i64 (bits .or .i64 (bits .or .i64 (IntKind.wrap .i64 (IntKind.wrap .i64 y5 * 2 ^ (24 : Int).toNat)) (IntKind.wrap .i64 (IntKind.wrap .i64 y6 * 2 ^ (16 : Int).toNat))) (IntKind.wrap .i64 (IntKind.wrap .i64 y7 * 2 ^ (8 : Int).toNat))) (IntKind.wrap .i64 y8) : Int) h) ?_
    replace hp := ba hp; obtain ⟨y10, hy10, hp⟩ := hp
    refine L_close (X := v3_0) (bits .or .i64 (bits .or .i64 (bits .or .i64 (IntKind.wrap .i64 (IntKind.wrap .i64 y5 * 2 ^ (24 : Int).toNat)) (IntKind.wrap .i64 (IntKind.wrap .i64 y6 * 2 ^ (16 : Int).toNat))) (IntKind.wrap .i64 (IntKind.wrap .i64 y7 * 2 ^ (8 : Int).toNat))) (IntKind.wrap .i64 y8) : Int) rfl pk pk hy10 (fun X11 hdX11 hhX11 => ?_)
    subst hdX11
    try rw [← hhX11]
    try rw [← g_of_hdr hhX11]
    try rw [← o_of_hdr hhX11]
    refine s6 ?_
    exact ⟨(X11, IntKind.wrap .i64 (v3_1 + 1)), sb, (.sub ms), some_eq hp⟩
  · replace hp := cond_f hc4 hp
    refine W_exit ?_
    replace hp := map_any hp; obtain ⟨a12, hp, hx_a12⟩ := hp
    obtain rfl := hx3 _ hx_a12
    refine s6 ?_
    refine W_while (σ := (TL Int) × Int) GT.dat (fun ((v13_0, v13_1) : (TL Int) × Int) => [(7, (TL.hdr v13_0)), (9, .int .i64 v13_1)]) (fun ((v13_0, v13_1) : (TL Int) × Int) => [treeH v13_0]) [(0, _), (2, _)] [] (v3_0, 16) hp sb ms ?_
    clear hp
    rintro ⟨v13_0, v13_1⟩ x13 hp hx13
    replace hp := dd hp
    refine kq [0, 2, 7, 9] ?_
    refine s6 ?_
    refine kp [0, 2, 7, 9, 58] ?_
    refine W_cond rfl (fun hc14 => ?_) (fun hc14 => ?_)
    · replace hp := cond_t hc14 hp
      refine s4 ?_
      replace hp := idx_bind hp; obtain ⟨u15, hy15, hp⟩ := hp
      replace hp := ba hp; obtain ⟨y16, hy16, hp⟩ := hp
      replace hp := idx_bind hp; obtain ⟨u17, hy17, hp⟩ := hp
      obtain rfl : u15 = u17 := Option.some.inj (hy15.2.symm.trans hy17.2)
      replace hp := ba hp; obtain ⟨y18, hy18, hp⟩ := hp
      replace hp := idx_bind hp; obtain ⟨u19, hy19, hp⟩ := hp
      obtain rfl : u15 = u19 := Option.some.inj (hy15.2.symm.trans hy19.2)
      refine W_D0 [10] mix (by kernel_rfl) rfl ?_
      refine s3 ?_
      refine D_idxA (X := v13_0) GC.none (OpV.t rfl) (OpV.t rfl) el34.h (RdT.tree mm) (fun _ => hy15) ?_
      refine D_load0 GC.none (OpV.t rfl) (fun hg => RdT.at (RdT.tree mm) (hy15).2) one3.h rfl ?_
      refine D_callX GC.none fn187.h (OpVs.cons (OpV.t rfl) (OpVs.cons OpV.c (OpVs.nil))) (by exact fun hg w F hF hM => s_l3Right_walk w u15 7  _ hy16) ?_
      refine s3 ?_
      refine D_idxA (X := v13_0) GC.none (OpV.t rfl) (OpV.t rfl) el34.h (RdT.tree mm) (fun _ => hy15) ?_
      refine D_load0 GC.none (OpV.t rfl) (fun hg => RdT.at (RdT.tree mm) (hy15).2) one3.h rfl ?_
      refine D_callX GC.none fn187.h (OpVs.cons (OpV.t rfl) (OpVs.cons OpV.c (OpVs.nil))) (by exact fun hg w F hF hM => s_l3Right_walk w u15 18  _ hy18) ?_
      refine s4 ?_
      refine D_idxA (X := v13_0) GC.none (OpV.t rfl) (OpV.t rfl) el34.h (RdT.tree mm) (fun _ => hy15) ?_
      refine D_load0 GC.none (OpV.t rfl) (fun hg => RdT.at (RdT.tree mm) (hy15).2) one3.h rfl ?_
      refine s20 ?_
      refine s7 ?_
      replace hp := idx_bind hp; obtain ⟨u20, hy20, hp⟩ := hp
      replace hp := ba hp; obtain ⟨y21, hy21, hp⟩ := hp
      replace hp := idx_bind hp; obtain ⟨u22, hy22, hp⟩ := hp
      obtain rfl : u20 = u22 := Option.some.inj (hy20.2.symm.trans hy22.2)
      replace hp := ba hp; obtain ⟨y23, hy23, hp⟩ := hp
      replace hp := idx_bind hp; obtain ⟨u24, hy24, hp⟩ := hp
      obtain rfl : u20 = u24 := Option.some.inj (hy20.2.symm.trans hy24.2)
      refine W_D0 [11] mix (by kernel_rfl) rfl ?_
      refine s3 ?_
      refine D_idxA (X := v13_0) GC.none (OpV.t rfl) (OpV.t rfl) el34.h (RdT.tree mm) (fun _ => hy20) ?_
      refine D_load0 GC.none (OpV.t rfl) (fun hg => RdT.at (RdT.tree mm) (hy20).2) one3.h rfl ?_
      refine D_callX GC.none fn187.h (OpVs.cons (OpV.t rfl) (OpVs.cons OpV.c (OpVs.nil))) (by exact fun hg w F hF hM => s_l3Right_walk w u20 17  _ hy21) ?_
      refine s3 ?_
      refine D_idxA (X := v13_0) GC.none (OpV.t rfl) (OpV.t rfl) el34.h (RdT.tree mm) (fun _ => hy20) ?_
      refine D_load0 GC.none (OpV.t rfl) (fun hg => RdT.at (RdT.tree mm) (hy20).2) one3.h rfl ?_
      refine D_callX GC.none fn187.h (OpVs.cons (OpV.t rfl) (OpVs.cons OpV.c (OpVs.nil))) (by exact fun hg w F hF hM => s_l3Right_walk w u20 19  _ hy23) ?_
      refine s4 ?_
      refine D_idxA (X := v13_0) GC.none (OpV.t rfl) (OpV.t rfl) el34.h (RdT.tree mm) (fun _ => hy20) ?_
      refine D_load0 GC.none (OpV.t rfl) (fun hg => RdT.at (RdT.tree mm) (hy20).2) one3.h rfl ?_
      refine s20 ?_
      refine s6 ?_
      replace hp := idx_bind hp; obtain ⟨u25, hy25, hp⟩ := hp
      replace hp := idx_bind hp; obtain ⟨u26, hy26, hp⟩ := hp
      replace hp := ba hp; obtain ⟨y27, hy27, hp⟩ := hp
      refine W_DS (pre := [_, _, _, _, _, _, _, _, _, _, _, _, _, _, _, _, _, _]) (suf := [_, _]) [101, 102, 118] [] _ pc mix (by kernel_rfl) (by kernel_rfl) rfl ?_
      refine s5 ?_
      refine D_idxA (X := v13_0) GC.none (OpV.t rfl) (OpV.t rfl) el34.h (RdT.tree mm) (fun _ => hy25) ?_
      refine D_load0 GC.none (OpV.t rfl) (fun hg => RdT.at (RdT.tree mm) (hy25).2) one3.h rfl ?_
      refine s5 ?_
      refine D_idxA (X := v13_0) GC.none (OpV.t rfl) (OpV.t rfl) el34.h (RdT.tree mm) (fun _ => hy26) ?_
      refine D_load0 GC.none (OpV.t rfl) (fun hg => RdT.at (RdT.tree mm) (hy26).2) one3.h rfl ?_
      refine s3 ?_
      refine D_callX GC.none fn188.h (OpVs.cons (OpV.t rfl) (OpVs.nil)) (by exact fun hg w F hF hM => s_l3Word_walk w (IntKind.wrap .i64 (IntKind.wrap .i64 (IntKind.wrap .i64 (u25 + bits .xor .i64 (bits .xor .i64 y16 y18) (u15 / 2 ^ (3 : Int).toNat)) + u26) + bits .xor .i64 (bits .xor .i64 y21 y23) (u20 / 2 ^ (10 : Int).toNat)))  _ hy27) ?_
      refine s20 ?_
      replace hp := idx_bind hp; obtain ⟨u28, hy28, hp⟩ := hp
      refine L_idxA (X := v13_0) rfl rfl rfl el34.h (RdT.tree mm) hy28 ?_
      refine L_conv (M' := treeH u28 :: holeH v13_0 (v13_1.toNat) (GT.cells u28) :: _) (fun w h => hole_open hy28.2 pk h) ?_
      refine L_stH (X := v13_0) (i := v13_1.toNat) (sz := 1) (fo := 0) (n := 1) rfl rfl pk rfl (.inr ⟨one3.h, rfl⟩) rfl (allOne rfl) (Nat.le_of_ble_eq_true rfl) ?_
      refine L_conv (M' := treeH (y27 : Int) :: _) (fun w h => addF (y27 : Int) h) ?_
      replace hp := ba hp; obtain ⟨y29, hy29, hp⟩ := hp
      refine L_close (X := v13_0) (y27 : Int) rfl pk pk hy29 (fun X30 hdX30 hhX30 => ?_)
      subst hdX30
      try rw [← hhX30]
      try rw [← g_of_hdr hhX30]
      try rw [← o_of_hdr hhX30]
      refine s6 ?_
      exact ⟨(X30, IntKind.wrap .i64 (v13_1 + 1)), sb, (.sub ms), some_eq hp⟩
    · replace hp := cond_f hc14 hp
      refine W_exit ?_
      replace hp := map_any hp; obtain ⟨a31, hp, hx_a31⟩ := hp
      obtain rfl := hx13 _ hx_a31
      refine s2 ?_
      replace hp := ba hp; obtain ⟨y33, hy33, hp⟩ := hp
      refine L_mk0 Int rfl el34.h (fun X32 hdX32 => ?_)
      obtain rfl : GT.dat X32 = y33 := hdX32.trans (Option.some.inj hy33)
      clear hy33 hdX32
      refine s1 ?_
      replace hp := ba hp; obtain ⟨y35, hy35, hp⟩ := hp
      refine L_appT (X := X32) (Y := a0) rfl rfl rfl el34.h rfl rfl pk (RdT.old h0) hy35 (by decide) (fun X34 hdX34 => ?_)
      subst hdX34
      refine s8 ?_
      refine W_while (σ := (TL Int) × Int) GT.dat (fun ((v36_0, v36_1) : (TL Int) × Int) => [(12, (TL.hdr v36_0)), (13, .int .i64 v36_1)]) (fun ((v36_0, v36_1) : (TL Int) × Int) => [treeH v36_0]) [(0, _), (2, _), (7, _)] [treeH v13_0] (X34, 0) hp sb ms ?_
      clear hp
      rintro ⟨v36_0, v36_1⟩ x36 hp hx36
      replace hp := dd hp
      refine kq [0, 2, 7, 12, 13] ?_
      refine s6 ?_
      refine kp [0, 2, 7, 12, 13, 124] ?_
      refine W_cond rfl (fun hc37 => ?_) (fun hc37 => ?_)
      · replace hp := cond_t hc37 hp
        refine s6 ?_
        replace hp := idx_bind hp; obtain ⟨u38, hy38, hp⟩ := hp
        refine L_idxA (X := v36_0) rfl rfl rfl el34.h (RdT.tree mm) hy38 ?_
        refine L_load0 rfl rfl (RdT.at (RdT.tree mm) (hy38).2) one3.h rfl ?_
        refine s5 ?_
        replace hp := idx_bind hp; obtain ⟨u39, hy39, hp⟩ := hp
        refine L_idxA (X := v36_0) rfl rfl rfl el34.h (RdT.tree mm) hy39 ?_
        refine L_load0 rfl rfl (RdT.at (RdT.tree mm) (hy39).2) one3.h rfl ?_
        refine s3 ?_
        replace hp := idx_bind hp; obtain ⟨u40, hy40, hp⟩ := hp
        replace hp := ba hp; obtain ⟨y41, hy41, hp⟩ := hp
        replace hp := ba hp; obtain ⟨y42, hy42, hp⟩ := hp
        replace hp := ba hp; obtain ⟨y43, hy43, hp⟩ := hp
        replace hp := idx_bind hp; obtain ⟨u44, hy44, hp⟩ := hp
        replace hp := ba hp; obtain ⟨y45, hy45, hp⟩ := hp
        replace hp := idx_bind hp; obtain ⟨u46, hy46, hp⟩ := hp
        replace hp := idx_bind hp; obtain ⟨u47, hy47, hp⟩ := hp
        replace hp := idx_bind hp; obtain ⟨u48, hy48, hp⟩ := hp
        refine W_D0 [16] mix (by kernel_rfl) rfl ?_
        refine s1 ?_
        refine D_idxA (X := v36_0) GC.none (OpV.t rfl) OpV.c el34.h (RdT.tree mm) (fun _ => hy40) ?_
        refine D_load0 GC.none (OpV.t rfl) (fun hg => RdT.at (RdT.tree mm) (hy40).2) one3.h rfl ?_
        refine s1 ?_
        refine D_callX GC.none fn187.h (OpVs.cons (OpV.t rfl) (OpVs.cons OpV.c (OpVs.nil))) (by exact fun hg w F hF hM => s_l3Right_walk w u38 6  _ hy41) ?_
        refine s1 ?_
        refine D_callX GC.none fn187.h (OpVs.cons (OpV.t rfl) (OpVs.cons OpV.c (OpVs.nil))) (by exact fun hg w F hF hM => s_l3Right_walk w u38 11  _ hy42) ?_
        refine s2 ?_
        refine D_callX GC.none fn187.h (OpVs.cons (OpV.t rfl) (OpVs.cons OpV.c (OpVs.nil))) (by exact fun hg w F hF hM => s_l3Right_walk w u38 25  _ hy43) ?_
        refine s4 ?_
        refine D_idxA (X := v36_0) GC.none (OpV.t rfl) OpV.c el34.h (RdT.tree mm) (fun _ => hy44) ?_
        refine D_load0 GC.none (OpV.t rfl) (fun hg => RdT.at (RdT.tree mm) (hy44).2) one3.h rfl ?_
        refine s2 ?_
        refine D_xorU GC.none (OpV.t rfl) ?_
        refine D_callX GC.none fn188.h (OpVs.cons (OpV.t rfl) (OpVs.nil)) (by exact fun hg w F hF hM => s_l3Word_walk w (bits .xor .i64 (if IntKind.signed .i64 then -1 else IntKind.max .i64) u38)  _ hy45) ?_
        refine s1 ?_
        refine D_idxA (X := v36_0) GC.none (OpV.t rfl) OpV.c el34.h (RdT.tree mm) (fun _ => hy46) ?_
        refine D_load0 GC.none (OpV.t rfl) (fun hg => RdT.at (RdT.tree mm) (hy46).2) one3.h rfl ?_
        refine s5 ?_
        refine D_idxA (X := a2) GC.none (OpV.t rfl) (OpV.t rfl) el34.h (RdT.old h2) (fun _ => hy47) ?_
        refine D_load0 GC.none (OpV.t rfl) (fun hg => RdT.at (RdT.old h2) (hy47).2) one3.h rfl ?_
        refine s3 ?_
        refine D_idxA (X := v13_0) GC.none (OpV.t rfl) (OpV.t rfl) el34.h (RdT.tree mm) (fun _ => hy48) ?_
        refine D_load0 GC.none (OpV.t rfl) (fun hg => RdT.at (RdT.tree mm) (hy48).2) one3.h rfl ?_
        refine s20 ?_
        refine s20 ?_
        refine s2 ?_
        replace hp := ba hp; obtain ⟨y49, hy49, hp⟩ := hp
        replace hp := ba hp; obtain ⟨y50, hy50, hp⟩ := hp
        replace hp := ba hp; obtain ⟨y51, hy51, hp⟩ := hp
        replace hp := idx_bind hp; obtain ⟨u52, hy52, hp⟩ := hp
        replace hp := idx_bind hp; obtain ⟨u53, hy53, hp⟩ := hp
        replace hp := idx_bind hp; obtain ⟨u54, hy54, hp⟩ := hp
        obtain rfl : u52 = u54 := Option.some.inj (hy52.2.symm.trans hy54.2)
        replace hp := idx_bind hp; obtain ⟨u55, hy55, hp⟩ := hp
        obtain rfl : u53 = u55 := Option.some.inj (hy53.2.symm.trans hy55.2)
        refine W_D0 [17] mix (by kernel_rfl) rfl ?_
        refine s1 ?_
        refine D_callX GC.none fn187.h (OpVs.cons (OpV.t rfl) (OpVs.cons OpV.c (OpVs.nil))) (by exact fun hg w F hF hM => s_l3Right_walk w u39 2  _ hy49) ?_
        refine s1 ?_
        refine D_callX GC.none fn187.h (OpVs.cons (OpV.t rfl) (OpVs.cons OpV.c (OpVs.nil))) (by exact fun hg w F hF hM => s_l3Right_walk w u39 13  _ hy50) ?_
        refine s2 ?_
        refine D_callX GC.none fn187.h (OpVs.cons (OpV.t rfl) (OpVs.cons OpV.c (OpVs.nil))) (by exact fun hg w F hF hM => s_l3Right_walk w u39 22  _ hy51) ?_
        refine s3 ?_
        refine D_idxA (X := v36_0) GC.none (OpV.t rfl) OpV.c el34.h (RdT.tree mm) (fun _ => hy52) ?_
        refine D_load0 GC.none (OpV.t rfl) (fun hg => RdT.at (RdT.tree mm) (hy52).2) one3.h rfl ?_
        refine s3 ?_
        refine D_idxA (X := v36_0) GC.none (OpV.t rfl) OpV.c el34.h (RdT.tree mm) (fun _ => hy53) ?_
        refine D_load0 GC.none (OpV.t rfl) (fun hg => RdT.at (RdT.tree mm) (hy53).2) one3.h rfl ?_
        refine s3 ?_
        refine D_idxA (X := v36_0) GC.none (OpV.t rfl) OpV.c el34.h (RdT.tree mm) (fun _ => hy52) ?_
        refine D_load0 GC.none (OpV.t rfl) (fun hg => RdT.at (RdT.tree mm) (hy52).2) one3.h rfl ?_
        refine s1 ?_
        refine D_idxA (X := v36_0) GC.none (OpV.t rfl) OpV.c el34.h (RdT.tree mm) (fun _ => hy53) ?_
        refine D_load0 GC.none (OpV.t rfl) (fun hg => RdT.at (RdT.tree mm) (hy53).2) one3.h rfl ?_
        refine s20 ?_
        refine s15 ?_
        replace hp := ba hp; obtain ⟨y56, hy56, hp⟩ := hp
        replace hp := idx_bind hp; obtain ⟨u57, hy57, hp⟩ := hp
        obtain rfl : u39 = u57 := Option.some.inj (hy39.2.symm.trans hy57.2)
        replace hp := idx_bind hp; obtain ⟨u58, hy58, hp⟩ := hp
        obtain rfl : u52 = u58 := Option.some.inj (hy52.2.symm.trans hy58.2)
        replace hp := idx_bind hp; obtain ⟨u59, hy59, hp⟩ := hp
        obtain rfl : u53 = u59 := Option.some.inj (hy53.2.symm.trans hy59.2)
        replace hp := idx_bind hp; obtain ⟨u60, hy60, hp⟩ := hp
        replace hp := ba hp; obtain ⟨y61, hy61, hp⟩ := hp
        replace hp := idx_bind hp; obtain ⟨u62, hy62, hp⟩ := hp
        obtain rfl : u38 = u62 := Option.some.inj (hy38.2.symm.trans hy62.2)
        replace hp := idx_bind hp; obtain ⟨u63, hy63, hp⟩ := hp
        obtain rfl : u44 = u63 := Option.some.inj (hy44.2.symm.trans hy63.2)
        replace hp := idx_bind hp; obtain ⟨u64, hy64, hp⟩ := hp
        obtain rfl : u46 = u64 := Option.some.inj (hy46.2.symm.trans hy64.2)
        refine W_DS (pre := [_, _, _, _, _, _, _, _, _, _, _, _, _, _, _, _, _, _, _, _, _, _, _, _, _, _, _, _]) (suf := [_, _]) [200, 203, 206, 209, 215, 218, 221, 224] [] _ pc mix (by kernel_rfl) (by kernel_rfl) rfl ?_
        refine s3 ?_
        refine D_callX GC.none fn188.h (OpVs.cons (OpV.t rfl) (OpVs.nil)) (by exact fun hg w F hF hM => s_l3Word_walk w (IntKind.wrap .i64 (IntKind.wrap .i64 (IntKind.wrap .i64 (IntKind.wrap .i64 (IntKind.wrap .i64 (u40 + bits .xor .i64 (bits .xor .i64 y41 y42) y43) + bits .xor .i64 (bits .and .i64 u38 u44) (bits .and .i64 y45 u46)) + u47) + u48) + IntKind.wrap .i64 (bits .xor .i64 (bits .xor .i64 y49 y50) y51 + bits .xor .i64 (bits .xor .i64 (bits .and .i64 u39 u52) (bits .and .i64 u39 u53)) (bits .and .i64 u52 u53))))  _ hy56) ?_
        refine s1 ?_
        refine D_idxA (X := v36_0) GC.none (OpV.t rfl) OpV.c el34.h (RdT.tree mm) (fun _ => hy39) ?_
        refine D_load0 GC.none (OpV.t rfl) (fun hg => RdT.at (RdT.tree mm) (hy39).2) one3.h rfl ?_
        refine s1 ?_
        refine D_idxA (X := v36_0) GC.none (OpV.t rfl) OpV.c el34.h (RdT.tree mm) (fun _ => hy52) ?_
        refine D_load0 GC.none (OpV.t rfl) (fun hg => RdT.at (RdT.tree mm) (hy52).2) one3.h rfl ?_
        refine s1 ?_
        refine D_idxA (X := v36_0) GC.none (OpV.t rfl) OpV.c el34.h (RdT.tree mm) (fun _ => hy53) ?_
        refine D_load0 GC.none (OpV.t rfl) (fun hg => RdT.at (RdT.tree mm) (hy53).2) one3.h rfl ?_
        refine s1 ?_
        refine D_idxA (X := v36_0) GC.none (OpV.t rfl) OpV.c el34.h (RdT.tree mm) (fun _ => hy60) ?_
        refine D_load0 GC.none (OpV.t rfl) (fun hg => RdT.at (RdT.tree mm) (hy60).2) one3.h rfl ?_
        refine s2 ?_
        refine D_callX GC.none fn188.h (OpVs.cons (OpV.t rfl) (OpVs.nil)) (by exact fun hg w F hF hM => s_l3Word_walk w (IntKind.wrap .i64 (u60 + IntKind.wrap .i64 (IntKind.wrap .i64 (IntKind.wrap .i64 (IntKind.wrap .i64 (u40 + bits .xor .i64 (bits .xor .i64 y41 y42) y43) + bits .xor .i64 (bits .and .i64 u38 u44) (bits .and .i64 y45 u46)) + u47) + u48)))  _ hy61) ?_
        refine s1 ?_
        refine D_idxA (X := v36_0) GC.none (OpV.t rfl) OpV.c el34.h (RdT.tree mm) (fun _ => hy38) ?_
        refine D_load0 GC.none (OpV.t rfl) (fun hg => RdT.at (RdT.tree mm) (hy38).2) one3.h rfl ?_
        refine s1 ?_
        refine D_idxA (X := v36_0) GC.none (OpV.t rfl) OpV.c el34.h (RdT.tree mm) (fun _ => hy44) ?_
        refine D_load0 GC.none (OpV.t rfl) (fun hg => RdT.at (RdT.tree mm) (hy44).2) one3.h rfl ?_
        refine s1 ?_
        refine D_idxA (X := v36_0) GC.none (OpV.t rfl) OpV.c el34.h (RdT.tree mm) (fun _ => hy46) ?_
        refine D_load0 GC.none (OpV.t rfl) (fun hg => RdT.at (RdT.tree mm) (hy46).2) one3.h rfl ?_
        refine s20 ?_
        refine s10 ?_
        replace hp := ba hp; obtain ⟨y65, hy65, hp⟩ := hp
        refine L_bsN ([y56, u39, u52, u53, y61, u38, u44, u46] : List Int) (xs := [(0, .tmp 200), (1, .tmp 203), (2, .tmp 206), (3, .tmp 209), (4, .tmp 215), (5, .tmp 218), (6, .tmp 221), (7, .tmp 224)]) rfl rfl el34.h rfl rfl rfl rfl rfl rfl rfl hy65 (fun X66 hdX66 => ?_)
        subst hdX66
        refine s7 ?_
        exact ⟨(X66, IntKind.wrap .i64 (v36_1 + 1)), sb, (.sub ms), some_eq hp⟩
      · replace hp := cond_f hc37 hp
        refine W_exit ?_
        replace hp := map_any hp; obtain ⟨a67, hp, hx_a67⟩ := hp
        obtain rfl := hx36 _ hx_a67
        refine s2 ?_
        replace hp := ba hp; obtain ⟨y69, hy69, hp⟩ := hp
        refine L_mk0 Int rfl el34.h (fun X68 hdX68 => ?_)
        obtain rfl : GT.dat X68 = y69 := hdX68.trans (Option.some.inj hy69)
        clear hy69 hdX68
        refine s8 ?_
        refine W_while (σ := (TL Int) × Int) GT.dat (fun ((v70_0, v70_1) : (TL Int) × Int) => [(18, (TL.hdr v70_0)), (19, .int .i64 v70_1)]) (fun ((v70_0, v70_1) : (TL Int) × Int) => [treeH v70_0]) [(0, _), (12, _)] [treeH v36_0] (X68, 0) hp sb ms ?_
        clear hp
        rintro ⟨v70_0, v70_1⟩ x70 hp hx70
        replace hp := dd hp
        refine kq [0, 12, 18, 19] ?_
        refine s6 ?_
        refine kp [0, 12, 18, 19, 228] ?_
        refine W_cond rfl (fun hc71 => ?_) (fun hc71 => ?_)
        · replace hp := cond_t hc71 hp
          refine s3 ?_
          replace hp := idx_bind hp; obtain ⟨u72, hy72, hp⟩ := hp
          replace hp := idx_bind hp; obtain ⟨u73, hy73, hp⟩ := hp
          replace hp := ba hp; obtain ⟨y74, hy74, hp⟩ := hp
          refine W_DS (pre := [_, _, _, _, _, _, _, _, _, _, _, _]) (suf := [_, _]) [231, 242] [] _ pc mix (by kernel_rfl) (by kernel_rfl) rfl ?_
          refine s3 ?_
          refine D_idxA (X := a0) GC.none (OpV.t rfl) (OpV.t rfl) el34.h (RdT.old h0) (fun _ => hy72) ?_
          refine D_load0 GC.none (OpV.t rfl) (fun hg => RdT.at (RdT.old h0) (hy72).2) one3.h rfl ?_
          refine s2 ?_
          refine D_idxA (X := v36_0) GC.none (OpV.t rfl) (OpV.t rfl) el34.h (RdT.tree mm) (fun _ => hy73) ?_
          refine D_load0 GC.none (OpV.t rfl) (fun hg => RdT.at (RdT.tree mm) (hy73).2) one3.h rfl ?_
          refine s1 ?_
          refine D_callX GC.none fn188.h (OpVs.cons (OpV.t rfl) (OpVs.nil)) (by exact fun hg w F hF hM => s_l3Word_walk w (IntKind.wrap .i64 (u72 + u73))  _ hy74) ?_
          refine D_bs1 (OpV.t rfl) el34.h rfl (by decide) (by decide) rfl ?_
          refine s1 ?_
          refine Give_R rfl rfl ?_
          rintro _ _ ⟨bb242, rfl, rfl⟩
          simp only [List.cons_append, List.nil_append]
          refine s12 ?_
          replace hp := ba hp; obtain ⟨y76, hy76, hp⟩ := hp
          refine L_app1F (X := v70_0) (y74 : Int) rfl rfl rfl el34.h rfl rfl pk mm  hy76 (by decide) (fun X75 hdX75 => ?_)
          subst hdX75
          refine s7 ?_
          exact ⟨(X75, IntKind.wrap .i64 (v70_1 + 1)), sb, (.sub ms), some_eq hp⟩
        · replace hp := cond_f hc71 hp
          refine W_exit ?_
          replace hp := map_any hp; obtain ⟨a77, hp, hx_a77⟩ := hp
          obtain rfl := hx70 _ hx_a77
          refine s5 ?_
          obtain rfl := Option.some.inj hp
          refine s1 ?_
          refine res1 rfl (ResOK.tmp rfl) ⟨v70_0, rfl, rfl, rfl⟩ ms
noncomputable def s_Sha (a0 : ByteArray) : Option ByteArray :=
  Option.bind (some ([(128 : UInt8)] : List UInt8)) (fun y1 => whileP (fun s3 : (List UInt8) => cond (!decide ((IntKind.wrap .i64 ((a0.size : Int) + (s3.length : Int))).tmod 64 = 56)) (Option.bind (appP s3 [(0 : UInt8)]) (fun y6 => some (.inl (y6)))) (Option.map .inr (whileP (fun s8 : (List UInt8) × Int => cond (decide (s8.2 < 8)) (Option.bind (shrP .i64 (IntKind.wrap .i64 ((a0.size : Int) * 8)) (IntKind.wrap .u64 (IntKind.wrap .i64 (56 - IntKind.wrap .i64 (8 * s8.2))))) (fun y10 => Option.bind (u8P (IntKind.wrap .u8 (bits .and .i64 y10 255))) (fun y11 => Option.bind (appP s8.1 [y11]) (fun y13 => some (.inl ((y13, IntKind.wrap .i64 (s8.2 + 1)))))))) (Option.map .inr (Option.bind (catP a0 (strP s8.1)) (fun y15 => Option.bind (some ([1779033703, 3144134277, 1013904242, 2773480762, 1359893119, 2600822924, 528734635, 1541459225] : List Int)) (fun y16 => Option.bind (s_l3Keys ) (fun y18 => whileP (fun s19 : (List Int) × Int => cond (decide (s19.2 < (y15.size : Int))) (Option.bind (sslP y15 s19.2 (IntKind.wrap .i64 (s19.2 + 64))) (fun y21 => Option.bind (s_l3Block s19.1 y21 y18) (fun y22 => some (.inl ((y22, IntKind.wrap .i64 (s19.2 + 64))))))) (Option.map .inr (Option.bind (some ([] : List UInt8)) (fun y25 => whileP (fun s26 : (List UInt8) × Int => cond (decide (s26.2 < 8)) (Option.bind (idx s19.1 s26.2) (fun y28 => Option.bind (idx s19.1 s26.2) (fun y29 => Option.bind (idx s19.1 s26.2) (fun y30 => Option.bind (idx s19.1 s26.2) (fun y31 => Option.bind (u8P (IntKind.wrap .u8 (y28 / 2 ^ (24 : Int).toNat))) (fun y32 => Option.bind (u8P (IntKind.wrap .u8 (bits .and .i64 (y29 / 2 ^ (16 : Int).toNat) 255))) (fun y33 => Option.bind (u8P (IntKind.wrap .u8 (bits .and .i64 (y30 / 2 ^ (8 : Int).toNat) 255))) (fun y34 => Option.bind (u8P (IntKind.wrap .u8 (bits .and .i64 y31 255))) (fun y35 => Option.bind (some ([y32, y33, y34, y35] : List UInt8)) (fun y36 => Option.bind (appP s26.1 y36) (fun y39 => some (.inl ((y39, IntKind.wrap .i64 (s26.2 + 1))))))))))))))) (Option.map .inr (some (strP s26.1)))) (y25, 0))))) (y16, 0))))))) (s3, 0)))) y1)
set_option maxHeartbeats 2000000 in
theorem s_Sha_walk (w : World) (a0 : ByteArray)  (r : ByteArray) (hp : s_Sha a0 = some r) : Spec Try.prog 146 [.string a0].toArray w [] (IsV (.string r)) := by
  refine Spec.intro Try.func146 rfl Try.ntmps146 rfl ?_
  unfold s_Sha at hp
  replace hp := dd hp
  refine s12 ?_
  replace hp := ba hp; obtain ⟨y1, hy1, hp⟩ := hp
  refine L_bsN ([(128 : UInt8)] : List UInt8) (xs := [(0, .const (.int .u8 128))]) rfl rfl el22.h rfl rfl rfl rfl rfl rfl rfl hy1 (fun X2 hdX2 => ?_)
  subst hdX2
  refine s4 ?_
  refine W_while (σ := (TL UInt8)) GT.dat (fun (v3_0 : (TL UInt8)) => [(4, (TL.hdr v3_0))]) (fun (v3_0 : (TL UInt8)) => [treeH v3_0]) [(0, _), (3, _)] [] X2 hp sb ms ?_
  clear hp
  rintro v3_0 x3 hp hx3
  replace hp := dd hp
  refine kq [0, 3, 4] ?_
  refine s10 ?_
  refine kp [0, 3, 4, 20] ?_
  refine W_cond rfl (fun hc4 => ?_) (fun hc4 => ?_)
  · replace hp := cond_t hc4 hp
    refine s4 ?_
    refine L_buildSlice1 rfl rfl el22.h rfl (by decide) (by decide) rfl (fun bb22 => ?_)
    replace hp := ba hp; obtain ⟨y6, hy6, hp⟩ := hp
    refine L_app1F (X := v3_0) ((0 : UInt8) : UInt8) rfl rfl rfl el22.h rfl rfl pk mm  hy6 (by decide) (fun X5 hdX5 => ?_)
    subst hdX5
    refine s2 ?_
    exact ⟨X5, sb, (.sub ms), some_eq hp⟩
  · replace hp := cond_f hc4 hp
    refine W_exit ?_
    replace hp := map_any hp; obtain ⟨a7, hp, hx_a7⟩ := hp
    obtain rfl := hx3 _ hx_a7
    refine s6 ?_
    refine W_while (σ := (TL UInt8) × Int) GT.dat (fun ((v8_0, v8_1) : (TL UInt8) × Int) => [(4, (TL.hdr v8_0)), (5, .int .i64 v8_1)]) (fun ((v8_0, v8_1) : (TL UInt8) × Int) => [treeH v8_0]) [(0, _), (3, _)] [] (v3_0, 0) hp sb ms ?_
    clear hp
    rintro ⟨v8_0, v8_1⟩ x8 hp hx8
    replace hp := dd hp
    refine kq [0, 3, 4, 5] ?_
    refine s6 ?_
    refine kp [0, 3, 4, 5, 25] ?_
    refine W_cond rfl (fun hc9 => ?_) (fun hc9 => ?_)
    · replace hp := cond_t hc9 hp
      refine s10 ?_
      refine L_convInt rfl rfl und152.h (by rw [und3.h]; rfl) ?_
      replace hp := ba hp; obtain ⟨y10, hy10, hp⟩ := hp
      refine L_binV rfl rfl rfl (bv_shrP hy10) ?_
      refine s1 ?_
      refine L_convInt rfl rfl und5.h (by rw [und3.h]; rfl) ?_
      replace hp := ba hp; obtain ⟨y11, hy11, hp⟩ := hp
      have ey11 := u8P_some hy11
      try simp only [dat_u8] at ey11
      try simp only [ey11]
      refine L_buildSlice1 rfl rfl el22.h rfl (by decide) (by decide) rfl (fun bb38 => ?_)
      replace hp := ba hp; obtain ⟨y13, hy13, hp⟩ := hp
      refine L_app1F (X := v8_0) (y11 : UInt8) rfl rfl rfl el22.h rfl rfl pk mm  hy13 (by decide) (fun X12 hdX12 => ?_)
      subst hdX12
      refine s7 ?_
      exact ⟨(X12, IntKind.wrap .i64 (v8_1 + 1)), sb, (.sub ms), some_eq hp⟩
    · replace hp := cond_f hc9 hp
      refine W_exit ?_
      replace hp := map_any hp; obtain ⟨a14, hp, hx_a14⟩ := hp
      obtain rfl := hx8 _ hx_a14
      refine s4 ?_
      refine L_toStr (X := v8_0) rfl rfl und22.h und5.h und9.h (RdT.tree mm) ?_
      replace hp := ba hp; obtain ⟨y15, hy15, hp⟩ := hp
      refine L_binV rfl rfl rfl (bv_saddP hy15) ?_
      refine s4 ?_
      replace hp := ba hp; obtain ⟨y16, hy16, hp⟩ := hp
      refine L_bsN ([1779033703, 3144134277, 1013904242, 2773480762, 1359893119, 2600822924, 528734635, 1541459225] : List Int) (xs := [(0, .const (.int .i64 1779033703)), (1, .const (.int .i64 3144134277)), (2, .const (.int .i64 1013904242)), (3, .const (.int .i64 2773480762)), (4, .const (.int .i64 1359893119)), (5, .const (.int .i64 2600822924)), (6, .const (.int .i64 528734635)), (7, .const (.int .i64 1541459225))]) rfl rfl el34.h rfl rfl rfl rfl rfl rfl rfl hy16 (fun X17 hdX17 => ?_)
      subst hdX17
      refine s4 ?_
      replace hp := ba hp; obtain ⟨y18, hy18, hp⟩ := hp
      refine L_callR rfl fn167.h rfl (by exact fun w hw => s_l3Keys_walk w   _ hy18) ?_
      rintro _ _ ⟨y18x0, rfl, rfl, rfl⟩
      refine sc ?_
      replace hp := dd hp
      refine s8 ?_
      refine W_while (σ := (TL Int) × Int) GT.dat (fun ((v19_0, v19_1) : (TL Int) × Int) => [(7, (TL.hdr v19_0)), (9, .int .i64 v19_1)]) (fun ((v19_0, v19_1) : (TL Int) × Int) => [treeH v19_0]) [(6, _), (8, _)] [treeH y18x0] (X17, 0) hp sb ms ?_
      clear hp
      rintro ⟨v19_0, v19_1⟩ x19 hp hx19
      replace hp := dd hp
      refine kq [6, 7, 8, 9] ?_
      refine s8 ?_
      refine kp [6, 7, 8, 9, 49] ?_
      refine W_cond rfl (fun hc20 => ?_) (fun hc20 => ?_)
      · replace hp := cond_t hc20 hp
        refine s9 ?_
        replace hp := ba hp; obtain ⟨y21, hy21, hp⟩ := hp
        refine L_ssl rfl rfl rfl rfl str9.h hy21 ?_
        refine s1 ?_
        replace hp := ba hp; obtain ⟨y22, hy22, hp⟩ := hp
        refine L_callR rfl fn168.h rfl (by exact fun w hw => s_l3Block_walk w v19_0 y21 y18x0 (RdT.now (RdT.tree mm) hw) (RdT.now (RdT.tree mm) hw) _ hy22) ?_
        rintro _ _ ⟨y22x0, rfl, rfl, rfl⟩
        refine sc ?_
        replace hp := dd hp
        refine s7 ?_
        exact ⟨(y22x0, IntKind.wrap .i64 (v19_1 + 64)), sb, (.sub ms), some_eq hp⟩
      · replace hp := cond_f hc20 hp
        refine W_exit ?_
        replace hp := map_any hp; obtain ⟨a23, hp, hx_a23⟩ := hp
        obtain rfl := hx19 _ hx_a23
        refine s2 ?_
        replace hp := ba hp; obtain ⟨y25, hy25, hp⟩ := hp
        refine L_mk0 UInt8 rfl el22.h (fun X24 hdX24 => ?_)
        obtain rfl : GT.dat X24 = y25 := hdX24.trans (Option.some.inj hy25)
        clear hy25 hdX24
        refine s8 ?_
        refine W_while (σ := (TL UInt8) × Int) GT.dat (fun ((v26_0, v26_1) : (TL UInt8) × Int) => [(10, (TL.hdr v26_0)), (11, .int .i64 v26_1)]) (fun ((v26_0, v26_1) : (TL UInt8) × Int) => [treeH v26_0]) [(7, _)] [treeH v19_0] (X24, 0) hp sb ms ?_
        clear hp
        rintro ⟨v26_0, v26_1⟩ x26 hp hx26
        replace hp := dd hp
        refine kq [7, 10, 11] ?_
        refine s6 ?_
        refine kp [7, 10, 11, 62] ?_
        refine W_cond rfl (fun hc27 => ?_) (fun hc27 => ?_)
        · replace hp := cond_t hc27 hp
          refine s3 ?_
          replace hp := idx_bind hp; obtain ⟨u28, hy28, hp⟩ := hp
          replace hp := idx_bind hp; obtain ⟨u29, hy29, hp⟩ := hp
          obtain rfl : u28 = u29 := Option.some.inj (hy28.2.symm.trans hy29.2)
          replace hp := idx_bind hp; obtain ⟨u30, hy30, hp⟩ := hp
          obtain rfl : u28 = u30 := Option.some.inj (hy28.2.symm.trans hy30.2)
          replace hp := idx_bind hp; obtain ⟨u31, hy31, hp⟩ := hp
          obtain rfl : u28 = u31 := Option.some.inj (hy28.2.symm.trans hy31.2)
          replace hp := ba hp; obtain ⟨y32, hy32, hp⟩ := hp
          have ey32 := u8P_some hy32
          try simp only [dat_u8] at ey32
          try simp only [ey32]
          replace hp := ba hp; obtain ⟨y33, hy33, hp⟩ := hp
          have ey33 := u8P_some hy33
          try simp only [dat_u8] at ey33
          try simp only [ey33]
          replace hp := ba hp; obtain ⟨y34, hy34, hp⟩ := hp
          have ey34 := u8P_some hy34
          try simp only [dat_u8] at ey34
          try simp only [ey34]
          replace hp := ba hp; obtain ⟨y35, hy35, hp⟩ := hp
          have ey35 := u8P_some hy35
          try simp only [dat_u8] at ey35
          try simp only [ey35]
          replace hp := ba hp; obtain ⟨y36, hy36, hp⟩ := hp
          refine W_DS (pre := [_, _, _, _, _, _, _, _, _, _, _, _, _, _, _, _, _, _, _, _, _, _, _, _, _, _, _, _]) (suf := [_, _]) [65, 92] [] _ pc mix (by kernel_rfl) (by kernel_rfl) rfl ?_
          refine s3 ?_
          refine D_idxA (X := v19_0) GC.none (OpV.t rfl) (OpV.t rfl) el34.h (RdT.tree mm) (fun _ => hy28) ?_
          refine D_load0 GC.none (OpV.t rfl) (fun hg => RdT.at (RdT.tree mm) (hy28).2) one3.h rfl ?_
          refine s1 ?_
          refine D_convInt GC.none (OpV.t rfl) und5.h (by rw [und3.h]; rfl) ?_
          refine s2 ?_
          refine D_idxA (X := v19_0) GC.none (OpV.t rfl) (OpV.t rfl) el34.h (RdT.tree mm) (fun _ => hy28) ?_
          refine D_load0 GC.none (OpV.t rfl) (fun hg => RdT.at (RdT.tree mm) (hy28).2) one3.h rfl ?_
          refine s2 ?_
          refine D_convInt GC.none (OpV.t rfl) und5.h (by rw [und3.h]; rfl) ?_
          refine s2 ?_
          refine D_idxA (X := v19_0) GC.none (OpV.t rfl) (OpV.t rfl) el34.h (RdT.tree mm) (fun _ => hy28) ?_
          refine D_load0 GC.none (OpV.t rfl) (fun hg => RdT.at (RdT.tree mm) (hy28).2) one3.h rfl ?_
          refine s2 ?_
          refine D_convInt GC.none (OpV.t rfl) und5.h (by rw [und3.h]; rfl) ?_
          refine s2 ?_
          refine D_idxA (X := v19_0) GC.none (OpV.t rfl) (OpV.t rfl) el34.h (RdT.tree mm) (fun _ => hy28) ?_
          refine D_load0 GC.none (OpV.t rfl) (fun hg => RdT.at (RdT.tree mm) (hy28).2) one3.h rfl ?_
          refine s1 ?_
          refine D_convInt GC.none (OpV.t rfl) und5.h (by rw [und3.h]; rfl) ?_
          refine D_bsN ([y32, y33, y34, y35] : List UInt8) (xs := [(0, .tmp 71), (1, .tmp 78), (2, .tmp 85), (3, .tmp 91)]) (ps := [(0, .int .u8 (y32.toNat : Int)), (1, .int .u8 (y33.toNat : Int)), (2, .int .u8 (y34.toNat : Int)), (3, .int .u8 (y35.toNat : Int))]) (OpVp.cons (by rw [← ey32]; exact (OpV.t rfl)) (OpVp.cons (by rw [← ey33]; exact (OpV.t rfl)) (OpVp.cons (by rw [← ey34]; exact (OpV.t rfl)) (OpVp.cons (by rw [← ey35]; exact (OpV.t rfl)) (OpVp.nil))))) el22.h rfl rfl rfl rfl rfl rfl rfl hy36 ?_
          refine s1 ?_
          refine Give_R rfl rfl ?_
          rintro _ _ ⟨X37, rfl, rfl, rfl⟩
          simp only [List.cons_append, List.nil_append]
          refine s20 ?_
          refine s8 ?_
          replace hp := ba hp; obtain ⟨y39, hy39, hp⟩ := hp
          refine L_appT (X := v26_0) (Y := X37) rfl rfl rfl el22.h rfl rfl pk (RdT.tree mm) hy39 (by decide) (fun X38 hdX38 => ?_)
          subst hdX38
          refine s7 ?_
          exact ⟨(X38, IntKind.wrap .i64 (v26_1 + 1)), sb, (.sub ms), some_eq hp⟩
        · replace hp := cond_f hc27 hp
          refine W_exit ?_
          replace hp := map_any hp; obtain ⟨a40, hp, hx_a40⟩ := hp
          obtain rfl := hx26 _ hx_a40
          refine s3 ?_
          refine L_toStr (X := v26_0) rfl rfl und22.h und5.h und9.h (RdT.tree mm) ?_
          refine s2 ?_
          obtain rfl := Option.some.inj hp
          refine s1 ?_
          refine res1 rfl (ResOK.tmp rfl) ⟨rfl, rfl⟩ ms
noncomputable def s_Short (a0 : ByteArray) : Option ByteArray :=
  Option.bind (s_Sha a0) (fun y1 => Option.bind (sslP y1 0 8) (fun y2 => some y2))
theorem s_Short_walk (w : World) (a0 : ByteArray)  (r : ByteArray) (hp : s_Short a0 = some r) : Spec Try.prog 111 [.string a0].toArray w [] (IsV (.string r)) := by
  refine Spec.intro Try.func111 rfl Try.ntmps111 rfl ?_
  unfold s_Short at hp
  replace hp := dd hp
  refine s7 ?_
  replace hp := ba hp; obtain ⟨y1, hy1, hp⟩ := hp
  refine L_callX rfl fn146.h rfl (by exact fun w hw => s_Sha_walk w a0  _ hy1) ?_
  replace hp := ba hp; obtain ⟨y2, hy2, hp⟩ := hp
  refine L_ssl rfl rfl rfl rfl str9.h hy2 ?_
  refine s2 ?_
  obtain rfl := Option.some.inj hp
  refine s1 ?_
  refine res1 rfl (ResOK.tmp rfl) ⟨rfl, rfl⟩ ms
end Go.Proofs.SL
namespace Go.Proofs.SL
open Go
set_option maxHeartbeats 2000000
abbrev T_Cmd := Int × Int × Int × ByteArray × ByteArray × ByteArray × Int × (TL ByteArray)
end Go.Proofs.SL
namespace Go.Proofs.SL
open Go
variable {Γ : Cx} {l l' : Envl} {M M' M1 M2 F A : List HP} {Qp : Post} {K : Kont} {w0 w : World} {S0 : List Nat}
variable {ops : Array Oper} {fuel : Nat} {listed : Array Bool} {i d : Nat} {o : Oper}
theorem g_of_hdr {τ : Type} {X Y : TL τ} (h : Y.hdr = X.hdr) : Y.g = X.g := by
  unfold TL.hdr at h; injection h with h1 h2 h3
  unfold TL.g; rw [h1]
theorem o_of_hdr {τ : Type} {X Y : TL τ} (h : Y.hdr = X.hdr) : Y.o = X.o := by
  unfold TL.hdr at h; injection h with h1 h2 h3
  unfold TL.o; rw [h1]
/-- An operation waits for another. -/
def waits (ops : Array Oper) (k c : Nat) : Bool := match ops[k]? with
  | none => false
  | some o => o.after.toList.any fun e => e.on == c && Region.binds .any e
/-- From an operation down to one for which it waits in the end. -/
def chain (ops : Array Oper) (i : Nat) : Nat → List Nat → Bool
  | k, [] => waits ops k i
  | k, c :: cs => waits ops k c && chain ops i c cs
/-- What has come up has had all that it waits for. -/
def Closed (ops : Array Oper) (listed : Array Bool) : Prop := ∀ k o, ops[k]? = some o → listed.getD k false = true → ∀ e, e ∈ o.after → Region.binds .any e = true → listed.getD e.on false = true
def closedB (ops : Array Oper) (listed : Array Bool) : Bool := (List.range ops.size).all fun k => !listed.getD k false || match ops[k]? with
  | none => true
  | some o => o.after.toList.all fun e => !Region.binds .any e || listed.getD e.on false
theorem closed_of (h : closedB ops listed = true) : Closed ops listed := fun k o hk hl e he hb => by
  unfold closedB at h
  rw [List.all_eq_true] at h
  have h1 := h k (List.mem_range.2 (Array.getElem?_eq_some_iff.1 hk).1)
  rw [hk, hl] at h1
  simp only [Bool.not_true, Bool.false_or, List.all_eq_true] at h1
  have h2 := h1 e (by simpa using he)
  rw [hb] at h2
  simpa using h2
theorem waits_spec {k c : Nat} (h : waits ops k c = true) : ∃ o e, ops[k]? = some o ∧ e ∈ o.after ∧ e.on = c ∧ Region.binds .any e = true := by
  unfold waits at h
  split at h
  · cases h
  · rename_i o ho
    rw [List.any_eq_true] at h
    obtain ⟨e, he, h1⟩ := h
    rw [Bool.and_eq_true] at h1
    exact ⟨o, e, ho, by simpa using he, by simpa using h1.1, h1.2⟩
theorem waits_listed (hc : Closed ops listed) {k c : Nat} (h : waits ops k c = true) (hk : listed.getD k false = true ∨ k ∈ Region.ready .any ops listed) : listed.getD c false = true := by
  obtain ⟨o, e, ho, he, rfl, hb⟩ := waits_spec h
  rcases hk with hk | hk
  · exact hc k o ho hk e he hb
  · obtain ⟨_, o', ho', hall⟩ := mem_ready.1 hk
    rw [ho] at ho'; cases ho'
    exact hall e he hb
theorem chain_listed (hc : Closed ops listed) : ∀ (cs : List Nat) {k : Nat}, chain ops i k cs = true → (listed.getD k false = true ∨ k ∈ Region.ready .any ops listed) → listed.getD i false = true
  | [], _, h, hk => waits_listed hc h hk
  | c :: cs, k, h, hk => by
    have h1 := Bool.and_eq_true_iff.1 h
    exact chain_listed hc cs h1.2 (.inl (waits_listed hc h1.1 hk))
theorem Closed.set (hc : Closed ops listed) {j : Nat} (hj : j ∈ Region.ready .any ops listed) : Closed ops (listed.setIfInBounds j true) := fun k o hk hl e he hb => by
  by_cases h : j = k
  · subst h
    obtain ⟨_, o', ho', hall⟩ := mem_ready.1 hj
    rw [hk] at ho'; cases ho'
    exact getD_set_true (hall e he hb)
  · rw [getD_set_ne false h] at hl
    exact getD_set_true (hc k o hk hl e he hb)
/-- Whatever order is picked, and S holds behind every operation until number last has come. -/
def wpG (P : Program) (ops : Array Oper) (Q : Exit → Act → World → Prop) (last : Nat) (S : World → Prop) : Nat → Array Bool → Act → World → Prop
  | 0, listed, a, w => Region.ready .any ops listed = [] ∧ Q .normal a w
  | fuel + 1, listed, a, w => (Region.ready .any ops listed = [] → Q .normal a w) ∧
    ∀ i ∈ Region.ready .any ops listed, wpOp P ops Q i (fun a' w' => ((listed.setIfInBounds i true).getD last false = false → S w') ∧ wpG P ops Q last S fuel (listed.setIfInBounds i true) a' w') a w
theorem wpAny_of_G {P : Program} {Q : Exit → Act → World → Prop} {last : Nat} {S : World → Prop} : ∀ (fuel : Nat) (listed : Array Bool) (a : Act) (w : World), wpG P ops Q last S fuel listed a w → wpAny P .any ops Q fuel listed a w
  | 0, _, _, _, h => h
  | fuel + 1, _, _, _, h => ⟨h.1, fun i hi => wpOp_mono (fun a' w' h' => wpAny_of_G fuel _ a' w' h'.2) (h.2 i hi)⟩
theorem ready_un (h : i ∈ Region.ready .any ops listed) : listed.getD i false = false := by
  have h0 := (mem_ready.1 h).1
  rcases Nat.lt_or_ge i listed.size with h' | h'
  · simp [h'] at h0 ⊢; exact h0
  · simp [Array.getElem?_eq_none h'] at h0
theorem wpG_first {P : Program} {Q : Exit → Act → World → Prop} {last : Nat} {S : World → Prop} {oi : Oper} {v : Value} {cs : List Nat} (hi : ops[i]? = some oi) (hsel : ∀ (j : Nat) (o : Oper) cs b, ops[j]? = some o → o.op ≠ .select cs b)
    (hQ : ∀ c a w, Q (.panic c) (a.put oi.dst v) w → Q (.panic c) a w) (hch : chain ops i last cs = true) (hil : i ≠ last) : ∀ (fuel : Nat) (listed : Array Bool) (a : Act) (w : World), Closed ops listed →
      (∀ j oj, ops[j]? = some oj → j ≠ i → listed.getD j true = false → (∀ e ∈ oj.after, Region.binds .any e = true → e.on ≠ i) → oi.apart ops oj = true) →
      i ∈ Region.ready .any ops listed → YieldsIf P ops S oi v a → S w →
      wpG P ops Q last S fuel (listed.setIfInBounds i true) (a.put oi.dst v) w → wpG P ops Q last S (fuel + 1) listed a w := by
  intro fuel
  induction fuel with
  | zero =>
    intro listed a w hc _ hr hy hS H
    refine ⟨fun h => (by rw [h] at hr; cases hr), fun j hj => ?_⟩
    by_cases hji : j = i
    · subst hji; exact hy.wpOp hi hS ⟨fun _ => hS, H⟩
    · have := ready_mono hj hji
      rw [H.1] at this
      cases this
  | succ fuel ih =>
    intro listed a w hc hfree hr hy hS H
    refine ⟨fun h => (by rw [h] at hr; cases hr), fun j hj => ?_⟩
    by_cases hji : j = i
    · subst hji; exact hy.wpOp hi hS ⟨fun _ => hS, H⟩
    · have h1 := H.2 j (ready_mono hj hji)
      obtain ⟨hjun, oj, hoj, hall⟩ := mem_ready.1 hj
      have hun := ready_un hr
      have hnot : ∀ e ∈ oj.after, Region.binds .any e = true → e.on ≠ i := fun e he hb heq => by
        have h1 := hall e he hb
        rw [heq, hun] at h1
        cases h1
      have hjl : j ≠ last := fun e => by
        subst e
        have := chain_listed hc cs hch (.inr hj)
        rw [hun] at this; cases this
      have hll : listed.getD last false = false := by
        cases hl : listed.getD last false with
        | false => rfl
        | true =>
          have := chain_listed hc cs hch (.inl hl)
          rw [hun] at this; cases this
      have h2 := wpOp_putIf hoj (hfree j oj hoj hji hjun hnot) (fun cs b => hsel i oi cs b hi) (fun cs b => hsel j oj cs b hoj) hQ hy h1
      have hfree' : ∀ k ok, ops[k]? = some ok → k ≠ i → (listed.setIfInBounds j true).getD k true = false →
          (∀ e ∈ ok.after, Region.binds .any e = true → e.on ≠ i) → oi.apart ops ok = true := fun k ok hk hki hun hno => by
        refine hfree k ok hk hki ?_ hno
        by_cases hjk : j = k
        · subst hjk; exact hjun
        · rw [getD_set_ne true hjk] at hun; exact hun
      have hfl : ((listed.setIfInBounds i true).setIfInBounds j true).getD last false = false := by
        rw [getD_set_ne false hjl, getD_set_ne false hil]; exact hll
      refine wpOp_mono (fun a' w' h3 => ⟨fun _ => h3.2.1 hfl, ih (listed.setIfInBounds j true) a' w' (hc.set hj) hfree' (ready_mono hr (Ne.symm hji)) h3.1 (h3.2.1 hfl) ?_⟩) h2
      rw [Array.setIfInBounds_comm _ _ hji]
      exact h3.2.2
theorem wpG_done {P : Program} {Q : Exit → Act → World → Prop} {last : Nat} {S : World → Prop} {a : Act} {w : World} (hr : Region.ready .any ops listed = []) (h : Q .normal a w) : ∀ fuel, wpG P ops Q last S fuel listed a w
  | 0 => ⟨hr, h⟩
  | _ + 1 => ⟨fun _ => h, by rw [hr]; simp⟩
theorem wpG_S {P : Program} {Q : Exit → Act → World → Prop} {last : Nat} {S S' : World → Prop} (hs : ∀ w, S' w → S w) : ∀ (fuel : Nat) (listed : Array Bool) (a : Act) (w : World), wpG P ops Q last S' fuel listed a w → wpG P ops Q last S fuel listed a w
  | 0, _, _, _, h => h
  | fuel + 1, _, _, _, h => ⟨h.1, fun i hi => wpOp_mono (fun a' w' h' => ⟨fun hf => hs _ (h'.1 hf), wpG_S hs fuel _ a' w' h'.2⟩) (h.2 i hi)⟩
/-- Behind number last S no longer counts. -/
theorem wpG_flag {P : Program} {Q : Exit → Act → World → Prop} {last : Nat} {S S' : World → Prop} : ∀ (fuel : Nat) (listed : Array Bool) (a : Act) (w : World), listed.getD last false = true → wpG P ops Q last S' fuel listed a w → wpG P ops Q last S fuel listed a w
  | 0, _, _, _, _, h => h
  | fuel + 1, _, _, _, hl, h => ⟨h.1, fun i hi => wpOp_mono (fun a' w' h' => ⟨fun hf => (by rw [getD_set_true hl] at hf; cases hf), wpG_flag fuel _ a' w' (getD_set_true hl) h'.2⟩) (h.2 i hi)⟩
def AG (Γ : Cx) (ops : Array Oper) (A : List HP) (Qp : Post) (last fuel : Nat) (listed : Array Bool) (l : Envl) (M : List HP) : Prop :=
  ∀ a w, Env a Γ.n l → Holds Γ.w0 Γ.S0 M w → wpG Γ.P ops (liftQ Γ Qp) last (Sees Γ.w0 Γ.S0 A) fuel listed a w
variable {last : Nat}
theorem W_AG (A : List HP) (last : Nat) {id : Nat} (hm : Γ.P.follows .mixedOrders = true) (h : AG Γ ops A Qp last ops.size (Array.replicate ops.size false) l M) : W Γ (.region id ops true) l M Qp := fun a w ha hw =>
  wp_region_any hm (wpAny_of_G _ _ _ _ (h a w.drew ha hw.drew))
theorem AG_done (hr : Region.ready .any ops listed = []) (h : Qp .normal l M) : AG Γ ops A Qp last fuel listed l M := fun _ _ ha hw => wpG_done hr ⟨l, M, ha, hw, h⟩ fuel
theorem AG_take {v : Value} (i : Nat) (cs : List Nat) (hi : ops[i]? = some o) (hp : Pu Γ A l o d v) (hs : Region.noSelect ops = true) (hf : Region.free .any ops listed i = true) (hr : (Region.ready .any ops listed).contains i = true)
    (hch : chain ops i last cs = true) (hil : Nat.beq i last = false) (hcl : closedB ops listed = true)
    (hA : AllIn A M) (hk : AG Γ ops A Qp last fuel (listed.setIfInBounds i true) ((d, v) :: l) M) : AG Γ ops A Qp last (fuel + 1) listed l M := fun a w ha hw =>
  wpG_first hi (Region.noSelect_spec hs) (fun _ _ _ h => h) hch (fun e => by subst e; rw [Nat.beq_refl] at hil; cases hil) fuel listed a w (closed_of hcl) (Region.free_spec hi hf) (by simpa using hr)
    (.inl ⟨by simp [Region.wanted, hp.gd], fun w hw => hp.pu a w ha hw⟩) (hw.seesSub hA.mem) (hk _ w (by rw [hp.dst]; exact ha.put hp.lt) hw)
theorem AG_one (i : Nat) {rest : List Oper} (hi : ops.toList.drop i = o :: rest) (hg : o.guard = none) (hr : Region.ready .any ops listed = [i])
    (h : L Γ [o] l M (fun l' M' => AllIn A M' ∧ AG Γ ops A Qp last fuel (listed.setIfInBounds i true) l' M')) : AG Γ ops A Qp last (fuel + 1) listed l M := fun a w ha hw => by
  refine ⟨fun h0 => (by rw [hr] at h0; cases h0), fun j hj => ?_⟩
  rw [hr] at hj
  rw [List.mem_singleton.1 hj]
  unfold wpOp
  rw [drop_get hi]
  simp only [Region.wanted, hg, if_true]
  refine .inl (Oper.wp_mono (fun a' w' h1 => ?_) (L_one h hg ha hw))
  obtain ⟨_, l', M', h1, h2, h3, h4⟩ := h1
  exact ⟨fun _ => h2.seesSub h3.mem, h4 a' w' h1 h2⟩
/-- The one that writes: nothing need be kept from here on. -/
theorem AG_last (i : Nat) {rest : List Oper} (hi : ops.toList.drop i = o :: rest) (hg : o.guard = none) (hr : Region.ready .any ops listed = [i]) (hil : (listed.setIfInBounds i true).getD last false = true)
    (h : L Γ [o] l M (fun l' M' => AG Γ ops [] Qp last fuel (listed.setIfInBounds i true) l' M')) : AG Γ ops A Qp last (fuel + 1) listed l M := fun a w ha hw => by
  refine ⟨fun h0 => (by rw [hr] at h0; cases h0), fun j hj => ?_⟩
  rw [hr] at hj
  rw [List.mem_singleton.1 hj]
  unfold wpOp
  rw [drop_get hi]
  simp only [Region.wanted, hg, if_true]
  refine .inl (Oper.wp_mono (fun a' w' h1 => ?_) (L_one h hg ha hw))
  obtain ⟨_, l', M', h1, h2, h4⟩ := h1
  refine ⟨fun hf => (by rw [hil] at hf; cases hf), ?_⟩
  exact wpG_flag fuel _ a' w' hil (h4 a' w' h1 h2)
theorem AG_A (A' : List HP) (hs : AllIn A A') (h : AG Γ ops A' Qp last fuel listed l M) : AG Γ ops A Qp last fuel listed l M := fun a w ha hw =>
  wpG_S (fun w h => ⟨h.old, fun x hx => h.prs x (hs.mem x hx)⟩) _ _ _ _ (h a w ha hw)
section
variable {ty : TypeId} {pos : String} {af : Array Edge}
end
end Go.Proofs.SL
namespace Go.Proofs.SL
open Go
variable {Γ : Cx} {rest : List Oper} {d : Nat} {ty : TypeId} {pos : String} {af : Array Edge} {gd : Option (Nat × Bool)}
variable {ops : Array Oper} {Msh pool : List HP} {E : Fl} {rs : List (Option Nat × Rel)} {cs0 : List Nat} {KD : RKont}
end Go.Proofs.SL
namespace Go.Proofs.SL
open Go
variable {Γ : Cx} {l : Envl} {M A : List HP} {K : Kont} {rest : List Oper} {d : Nat} {ty : TypeId} {pos : String} {af : Array Edge}
end Go.Proofs.SL
namespace Go.Proofs.SL
open Go
set_option maxHeartbeats 2000000
abbrev D_Cmd := Int × Int × Int × ByteArray × ByteArray × ByteArray × Int × (List ByteArray)
instance zero79 : ZerF Try.prog 79 [.int .i64 0, .int .i64 0, .int .i64 0, .string ByteArray.empty, .string ByteArray.empty, .string ByteArray.empty, .int .i64 0, .slice none 0 0] := ⟨by kernel_rfl⟩
instance bld79 : BldF Try.prog 79 [(0, 1), (1, 1), (2, 1), (3, 1), (4, 1), (5, 1), (6, 1), (7, 1)] [.int .i64 0, .int .i64 0, .int .i64 0, .string ByteArray.empty, .string ByteArray.empty, .string ByteArray.empty, .int .i64 0, .slice none 0 0] := ⟨by kernel_rfl⟩
instance agg79 : AggF Try.prog 79 8 := ⟨by kernel_rfl⟩
instance fn89 : FnF Try.prog 89 := ⟨⟨_, Try.func89, by kernel_rfl, rfl⟩⟩
instance fld79_0 : FldF Try.prog 79 0 0 := ⟨by kernel_rfl⟩
instance fn132 : FnF Try.prog 132 := ⟨⟨_, Try.func132, by kernel_rfl, rfl⟩⟩
instance fld79_3 : FldF Try.prog 79 3 3 := ⟨by kernel_rfl⟩
instance fld79_4 : FldF Try.prog 79 4 4 := ⟨by kernel_rfl⟩
instance fld79_5 : FldF Try.prog 79 5 5 := ⟨by kernel_rfl⟩
instance fld79_6 : FldF Try.prog 79 6 6 := ⟨by kernel_rfl⟩
instance fld79_7 : FldF Try.prog 79 7 7 := ⟨by kernel_rfl⟩
instance one25 : OneF Try.prog 25 := ⟨by kernel_rfl⟩
instance fn111 : FnF Try.prog 111 := ⟨⟨_, Try.func111, by kernel_rfl, rfl⟩⟩
instance fn145 : FnF Try.prog 145 := ⟨⟨_, Try.func145, by kernel_rfl, rfl⟩⟩
instance fn90 : FnF Try.prog 90 := ⟨⟨_, Try.func90, by kernel_rfl, rfl⟩⟩
instance fld79_1 : FldF Try.prog 79 1 1 := ⟨by kernel_rfl⟩
instance fld79_2 : FldF Try.prog 79 2 2 := ⟨by kernel_rfl⟩
instance fn60 : FnF Try.prog 60 := ⟨⟨_, Try.func60, by kernel_rfl, rfl⟩⟩
instance fn147 : FnF Try.prog 147 := ⟨⟨_, Try.func147, by kernel_rfl, rfl⟩⟩
instance fn148 : FnF Try.prog 148 := ⟨⟨_, Try.func148, by kernel_rfl, rfl⟩⟩
instance fn112 : FnF Try.prog 112 := ⟨⟨_, Try.func112, by kernel_rfl, rfl⟩⟩
instance fn113 : FnF Try.prog 113 := ⟨⟨_, Try.func113, by kernel_rfl, rfl⟩⟩
instance fn169 : FnF Try.prog 169 := ⟨⟨_, Try.func169, by kernel_rfl, rfl⟩⟩
instance fn170 : FnF Try.prog 170 := ⟨⟨_, Try.func170, by kernel_rfl, rfl⟩⟩
instance fn149 : FnF Try.prog 149 := ⟨⟨_, Try.func149, by kernel_rfl, rfl⟩⟩
instance fn150 : FnF Try.prog 150 := ⟨⟨_, Try.func150, by kernel_rfl, rfl⟩⟩
instance fn151 : FnF Try.prog 151 := ⟨⟨_, Try.func151, by kernel_rfl, rfl⟩⟩
noncomputable def s_l4Word (a0 : ByteArray) : Option Bool :=
  Option.bind (s_l1In (a0.size : Int) 1 8) (fun y1 => cond (!y1) (some false) (whileP (fun s3 : Int => cond (decide (s3 < (a0.size : Int))) (Option.bind (sidx a0 s3) (fun y5 => gb (!(decide (y5 < 97))) (sidx a0 s3) (fun y6 => cond ((decide (y5 < 97)) || (decide (122 < y6))) (Option.map .inr (some false)) (some (.inl (IntKind.wrap .i64 (s3 + 1))))))) (Option.map .inr (some true))) 0))
theorem s_l4Word_walk (w : World) (a0 : ByteArray)  (r : Bool) (hp : s_l4Word a0 = some r) : Spec Try.prog 148 [.string a0].toArray w [] (IsV (.bool r)) := by
  refine Spec.intro Try.func148 rfl Try.ntmps148 rfl ?_
  unfold s_l4Word at hp
  replace hp := dd hp
  refine s9 ?_
  replace hp := ba hp; obtain ⟨y1, hy1, hp⟩ := hp
  refine L_callX rfl fn77.h rfl (by exact fun w hw => s_l1In_walk w (a0.size : Int) 1 8  _ hy1) ?_
  refine s2 ?_
  refine kp [0, 7] ?_
  refine W_cond rfl (fun hc2 => ?_) (fun hc2 => ?_)
  · replace hp := cond_t hc2 hp
    refine s4 ?_
    obtain rfl := Option.some.inj hp
    refine s1 ?_
    refine res1 rfl (ResOK.tmp rfl) ⟨rfl, rfl⟩ ms
  · replace hp := cond_f hc2 hp
    refine s7 ?_
    refine W_while (σ := Int) GT.dat (fun (v3_0 : Int) => [(3, .int .i64 v3_0)]) (fun (v3_0 : Int) => []) [(0, _)] [] 0 hp sb ms ?_
    clear hp
    rintro v3_0 x3 hp hx3
    replace hp := dd hp
    refine kq [0, 3] ?_
    refine s8 ?_
    refine kp [0, 3, 11] ?_
    refine W_cond rfl (fun hc4 => ?_) (fun hc4 => ?_)
    · replace hp := cond_t hc4 hp
      refine s4 ?_
      replace hp := ba hp; obtain ⟨y5, hy5, hp⟩ := hp
      replace hp := gb_any hp; obtain ⟨y6, hy6, hp⟩ := hp
      refine W_D0 [23] mix (by kernel_rfl) rfl ?_
      refine s2 ?_
      refine D_idxS GC.none (OpV.t rfl) (OpV.t rfl) str9.h (fun hg => hy5) ?_
      refine s4 ?_
      refine D_idxS (GC.some rfl rfl) (OpV.s rfl) (OpV.s rfl) str9.h (fun hg => (hy6 (gnot hg.2))) ?_
      refine s14 ?_
      refine kp [0, 3, 23] ?_
      refine W_cond rfl (fun hc7 => ?_) (fun hc7 => ?_)
      · replace hp := cond_t hc7 hp
        refine s4 ?_
        replace hp := map_any hp; obtain ⟨a8, hp, hx_a8⟩ := hp
        obtain rfl := hx3 _ hx_a8
        obtain rfl := Option.some.inj hp
        refine s1 ?_
        refine res1 rfl (ResOK.tmp rfl) ⟨rfl, rfl⟩ ms
      · replace hp := cond_f hc7 hp
        refine s6 ?_
        exact ⟨IntKind.wrap .i64 (v3_0 + 1), sb, (.sub ms), some_eq hp⟩
    · replace hp := cond_f hc4 hp
      refine W_exit ?_
      replace hp := map_any hp; obtain ⟨a9, hp, hx_a9⟩ := hp
      obtain rfl := hx3 _ hx_a9
      refine s4 ?_
      obtain rfl := Option.some.inj hp
      refine s1 ?_
      refine res1 rfl (ResOK.tmp rfl) ⟨rfl, rfl⟩ ms
noncomputable def s_l4Right (a0 : D_l1Cur) : Option (D_Cmd × D_l1Cur) :=
  Option.bind (s_l1Below (a0.1, a0.2.1, a0.2.2) 7) (fun y1 => Option.bind (s_l1Below (y1.2.1, y1.2.2.1, y1.2.2.2) 3) (fun y2 => Option.bind (s_l1Below (y2.2.1, y2.2.2.1, y2.2.2.2) 6) (fun y3 => jbind (Option.bind (s_l1Once (y3.2.1, y3.2.2.1, y3.2.2.2) 4) (fun y5 => cond y5.1 (some (.inl ((y5.2.2.1, y5.2.2.2, 3)))) (some (.inl ((y5.2.2.1, y5.2.2.2, IntKind.wrap .i64 (1 + y1.1))))))) (fun s4 : Int × Int × Int => jbind (cond (!decide (s4.2.2 = 7)) (Option.bind (some ([(ByteArray.mk #[97]), (ByteArray.mk #[98]), (ByteArray.mk #[97, 98])] : List ByteArray)) (fun y9 => Option.bind (s_l1Pick (y3.2.1, s4.1, s4.2.1) y9) (fun y11 => some (.inl ((y11.2.2.1, y11.2.2.2, y11.1)))))) (some (.inl ((s4.1, s4.2.1, ByteArray.empty))))) (fun s7 : Int × Int × ByteArray => jbind (cond ((decide (s4.2.2 = 3)) || (decide (s4.2.2 = 4))) (Option.bind (some ([(ByteArray.mk #[120]), (ByteArray.mk #[121]), (ByteArray.mk #[122])] : List ByteArray)) (fun y14 => Option.bind (s_l1Pick (y3.2.1, s7.1, s7.2.1) y14) (fun y16 => some (.inl ((y16.2.2.1, y16.2.2.2, y16.1)))))) (some (.inl ((s7.1, s7.2.1, ByteArray.empty))))) (fun s12 : Int × Int × ByteArray => jbind (cond (decide (s4.2.2 = 4)) (Option.bind (some ([(ByteArray.mk #[107, 101, 101, 112]), (ByteArray.mk #[116])] : List ByteArray)) (fun y19 => Option.bind (s_l1Pick (y3.2.1, s12.1, s12.2.1) y19) (fun y21 => some (.inl ((y21.2.2.1, y21.2.2.2, y21.1)))))) (some (.inl ((s12.1, s12.2.1, ByteArray.empty))))) (fun s17 : Int × Int × ByteArray => jbind (cond (decide (s4.2.2 = 5)) (Option.bind (s_l1Below (y3.2.1, s17.1, s17.2.1) 4) (fun y24 => some (.inl ((y24.2.2.1, y24.2.2.2, y24.1))))) (some (.inl ((s17.1, s17.2.1, 0))))) (fun s22 : Int × Int × Int => cond (decide (s4.2.2 = 3)) (Option.bind (s_l1Below (y3.2.1, s22.1, s22.2.1) 3) (fun y26 => whileP (fun s27 : Int × Int × Int × (List ByteArray) => cond (decide (0 < s27.1)) (Option.bind (s_l1Below (y26.2.1, s27.2.1, s27.2.2.1) 4) (fun y29 => Option.bind (u8P (IntKind.wrap .u8 y29.1)) (fun y30 => Option.bind (some ([y30] : List UInt8)) (fun y31 => Option.bind (s_Short (strP y31)) (fun y33 => Option.bind (appP s27.2.2.2 [y33]) (fun y35 => some (.inl ((IntKind.wrap .i64 (s27.1 - 1), y29.2.2.1, y29.2.2.2, y35))))))))) (Option.map .inr (some ((s4.2.2, IntKind.wrap .i64 (1 + y2.1), IntKind.wrap .i64 (1 + y3.1), s7.2.2, s12.2.2, s17.2.2, s22.2.2, s27.2.2.2), (y26.2.1, s27.2.1, s27.2.2.1))))) (IntKind.wrap .i64 (1 + y26.1), y26.2.2.1, y26.2.2.2, ([] : List ByteArray)))) (some ((s4.2.2, IntKind.wrap .i64 (1 + y2.1), IntKind.wrap .i64 (1 + y3.1), s7.2.2, s12.2.2, s17.2.2, s22.2.2, ([] : List ByteArray)), (y3.2.1, s22.1, s22.2.1)))))))))))
theorem s_l4Right_walk (w : World) (b0_ : Nat) (a0 : T_l1Cur) (h0_0 : GT.rd w (fps [blk b0_ (GT.cells a0) 144]) a0.1) (r : D_Cmd × D_l1Cur) (hp : s_l4Right (GT.dat a0) = some r) : Spec Try.prog 145 [Value.pointer (some ⟨b0_, 0, none⟩)].toArray w [blk b0_ (GT.cells a0) 144] (fun v M => ∃ (x0 : T_Cmd) (y0 : T_l1Cur), v = .agg (GT.cells x0).toArray ∧ (GT.dat x0, GT.dat y0) = r ∧ M = [treeH x0, blk b0_ (GT.cells y0) 144] ∧ y0.1 = a0.1) := by
  obtain ⟨a0_1, a0_2, a0_3⟩ := a0
  change Spec _ _ ([Value.pointer (some ⟨b0_, 0, none⟩)] : List Value).toArray w _ _
  refine Spec.intro Try.func145 rfl Try.ntmps145 rfl ?_
  unfold s_l4Right at hp
  replace hp := dd hp
  refine s2 ?_
  refine al fun bk2 => ?_
  refine s4 ?_
  replace hp := ba hp; obtain ⟨y1, hy1, hp⟩ := hp
  refine L_callM [blk b0_ _ _] _ rfl fn59.h rfl pc (by exact fun w hw => s_l1Below_walk w b0_ (a0_1, a0_2, a0_3) 7 ((RdX.old h0_0) w hw) _ hy1) ?_
  rintro _ _ ⟨y1x0, ⟨y1y0_1, y1y0_2, y1y0_3⟩, rfl, rfl, rfl, hey1_0⟩
  obtain rfl : a0_1 = y1y0_1 := hey1_0.symm
  refine sc ?_
  replace hp := dd hp
  refine s2 ?_
  replace hp := ba hp; obtain ⟨y2, hy2, hp⟩ := hp
  refine L_callM [blk b0_ _ _] _ rfl fn59.h rfl pc (by exact fun w hw => s_l1Below_walk w b0_ (a0_1, y1y0_2, y1y0_3) 3 ((RdX.old h0_0) w hw) _ hy2) ?_
  rintro _ _ ⟨y2x0, ⟨y2y0_1, y2y0_2, y2y0_3⟩, rfl, rfl, rfl, hey2_0⟩
  obtain rfl : a0_1 = y2y0_1 := hey2_0.symm
  refine sc ?_
  replace hp := dd hp
  refine s2 ?_
  replace hp := ba hp; obtain ⟨y3, hy3, hp⟩ := hp
  refine L_callM [blk b0_ _ _] _ rfl fn59.h rfl pc (by exact fun w hw => s_l1Below_walk w b0_ (a0_1, y2y0_2, y2y0_3) 6 ((RdX.old h0_0) w hw) _ hy3) ?_
  rintro _ _ ⟨y3x0, ⟨y3y0_1, y3y0_2, y3y0_3⟩, rfl, rfl, rfl, hey3_0⟩
  obtain rfl : a0_1 = y3y0_1 := hey3_0.symm
  refine sc ?_
  replace hp := dd hp
  refine s1 ?_
  refine L_build (xs := [(0, .tmp 7), (1, .tmp 10), (2, .tmp 13)]) (cs := [.int .i64 (IntKind.wrap .i64 (1 + y1x0)), .int .i64 (IntKind.wrap .i64 (1 + y2x0)), .int .i64 (IntKind.wrap .i64 (1 + y3x0)), .string ByteArray.empty, .string ByteArray.empty, .string ByteArray.empty, .int .i64 0, (TL.hdr (TL.nil ByteArray 0))]) rfl rfl bld79.h rfl ?_
  refine al fun bk3 => ?_
  refine s2 ?_
  refine W_jn (σ := Int × Int × Int) GT.dat (fun ((v4_0, v4_1, v4_2) : Int × Int × Int) => []) (fun ((v4_0, v4_1, v4_2) : Int × Int × Int) => [blk b0_ [(TL.hdr a0_1), .int .i64 v4_0, .int .i64 v4_1] 144, blk bk3 [.int .i64 v4_2, .int .i64 (IntKind.wrap .i64 (1 + y2x0)), .int .i64 (IntKind.wrap .i64 (1 + y3x0)), .string ByteArray.empty, .string ByteArray.empty, .string ByteArray.empty, .int .i64 0, (TL.hdr (TL.nil ByteArray 0))] 79]) [(0, .pointer (some ⟨b0_, 0, none⟩)), (2, .pointer (some ⟨bk2, 0, none⟩)), (3, .pointer (some ⟨bk3, 0, none⟩))] [blk bk2 [.int .i64 0, .int .i64 0, .int .i64 0, .string ByteArray.empty, .string ByteArray.empty, .string ByteArray.empty, .int .i64 0, (TL.hdr (TL.nil ByteArray 0))] 79] hp ?_ ?_
  · clear hp
    intro x4 hp hx4
    refine s3 ?_
    replace hp := ba hp; obtain ⟨y5, hy5, hp⟩ := hp
    refine L_callM [blk b0_ _ _] _ rfl fn89.h rfl pc (by exact fun w hw => s_l1Once_walk w b0_ (a0_1, y3y0_2, y3y0_3) 4 ((RdX.old h0_0) w hw) _ hy5) ?_
    rintro _ _ ⟨y5x0, ⟨y5y0_1, y5y0_2, y5y0_3⟩, rfl, rfl, rfl, hey5_0⟩
    obtain rfl : a0_1 = y5y0_1 := hey5_0.symm
    refine sc ?_
    replace hp := dd hp
    refine s1 ?_
    refine kp [0, 2, 3, 16] ?_
    refine W_cond rfl (fun hc6 => ?_) (fun hc6 => ?_)
    · replace hp := cond_t hc6 hp
      refine s4 ?_
      exact ⟨(y5y0_2, y5y0_3, 3), sb, (.sub ms), some_eq hp⟩
    · replace hp := cond_f hc6 hp
      refine s1 ?_
      exact ⟨(y5y0_2, y5y0_3, IntKind.wrap .i64 (1 + y1x0)), sb, (.sub ms), some_eq hp⟩
  · clear hp
    rintro ⟨v4_0, v4_1, v4_2⟩ hp
    replace hp := dd hp
    refine kq [0, 2, 3] ?_
    refine W_jn (σ := Int × Int × ByteArray) GT.dat (fun ((v7_0, v7_1, v7_2) : Int × Int × ByteArray) => []) (fun ((v7_0, v7_1, v7_2) : Int × Int × ByteArray) => [blk b0_ [(TL.hdr a0_1), .int .i64 v7_0, .int .i64 v7_1] 144, blk bk3 [.int .i64 v4_2, .int .i64 (IntKind.wrap .i64 (1 + y2x0)), .int .i64 (IntKind.wrap .i64 (1 + y3x0)), .string v7_2, .string ByteArray.empty, .string ByteArray.empty, .int .i64 0, (TL.hdr (TL.nil ByteArray 0))] 79]) [(0, .pointer (some ⟨b0_, 0, none⟩)), (2, .pointer (some ⟨bk2, 0, none⟩)), (3, .pointer (some ⟨bk3, 0, none⟩))] [blk bk2 [.int .i64 0, .int .i64 0, .int .i64 0, .string ByteArray.empty, .string ByteArray.empty, .string ByteArray.empty, .int .i64 0, (TL.hdr (TL.nil ByteArray 0))] 79] hp ?_ ?_
    · clear hp
      intro x7 hp hx7
      refine s6 ?_
      refine kp [0, 2, 3, 20] ?_
      refine W_cond rfl (fun hc8 => ?_) (fun hc8 => ?_)
      · replace hp := cond_t hc8 hp
        refine s2 ?_
        replace hp := ba hp; obtain ⟨y9, hy9, hp⟩ := hp
        refine L_bsN ([(ByteArray.mk #[97]), (ByteArray.mk #[98]), (ByteArray.mk #[97, 98])] : List ByteArray) (xs := [(0, .const (.string (ByteArray.mk #[97]))), (1, .const (.string (ByteArray.mk #[98]))), (2, .const (.string (ByteArray.mk #[97, 98])))]) rfl rfl el25.h rfl rfl rfl rfl rfl rfl rfl hy9 (fun X10 hdX10 => ?_)
        subst hdX10
        replace hp := ba hp; obtain ⟨y11, hy11, hp⟩ := hp
        refine L_callM [blk b0_ _ _] _ rfl fn132.h rfl pc (by exact fun w hw => s_l1Pick_walk w b0_ (a0_1, v4_0, v4_1) X10 ((RdX.tree mm) w hw) ((RdX.old h0_0) w hw) _ hy11) ?_
        rintro _ _ ⟨y11x0, ⟨y11y0_1, y11y0_2, y11y0_3⟩, rfl, rfl, rfl, hey11_0⟩
        obtain rfl : a0_1 = y11y0_1 := hey11_0.symm
        refine sc ?_
        replace hp := dd hp
        refine s3 ?_
        exact ⟨(y11y0_2, y11y0_3, y11x0), sb, (.sub ms), some_eq hp⟩
      · replace hp := cond_f hc8 hp
        refine s1 ?_
        exact ⟨(v4_0, v4_1, ByteArray.empty), sb, (.sub ms), some_eq hp⟩
    · clear hp
      rintro ⟨v7_0, v7_1, v7_2⟩ hp
      replace hp := dd hp
      refine kq [0, 2, 3] ?_
      refine W_jn (σ := Int × Int × ByteArray) GT.dat (fun ((v12_0, v12_1, v12_2) : Int × Int × ByteArray) => []) (fun ((v12_0, v12_1, v12_2) : Int × Int × ByteArray) => [blk b0_ [(TL.hdr a0_1), .int .i64 v12_0, .int .i64 v12_1] 144, blk bk3 [.int .i64 v4_2, .int .i64 (IntKind.wrap .i64 (1 + y2x0)), .int .i64 (IntKind.wrap .i64 (1 + y3x0)), .string v7_2, .string v12_2, .string ByteArray.empty, .int .i64 0, (TL.hdr (TL.nil ByteArray 0))] 79]) [(0, .pointer (some ⟨b0_, 0, none⟩)), (2, .pointer (some ⟨bk2, 0, none⟩)), (3, .pointer (some ⟨bk3, 0, none⟩))] [blk bk2 [.int .i64 0, .int .i64 0, .int .i64 0, .string ByteArray.empty, .string ByteArray.empty, .string ByteArray.empty, .int .i64 0, (TL.hdr (TL.nil ByteArray 0))] 79] hp ?_ ?_
      · clear hp
        intro x12 hp hx12
        refine s1 ?_
        refine W_D0 [32] mix (by kernel_rfl) rfl ?_
        refine s18 ?_
        refine kp [0, 2, 3, 32] ?_
        refine W_cond rfl (fun hc13 => ?_) (fun hc13 => ?_)
        · replace hp := cond_t hc13 hp
          refine s2 ?_
          replace hp := ba hp; obtain ⟨y14, hy14, hp⟩ := hp
          refine L_bsN ([(ByteArray.mk #[120]), (ByteArray.mk #[121]), (ByteArray.mk #[122])] : List ByteArray) (xs := [(0, .const (.string (ByteArray.mk #[120]))), (1, .const (.string (ByteArray.mk #[121]))), (2, .const (.string (ByteArray.mk #[122])))]) rfl rfl el25.h rfl rfl rfl rfl rfl rfl rfl hy14 (fun X15 hdX15 => ?_)
          subst hdX15
          replace hp := ba hp; obtain ⟨y16, hy16, hp⟩ := hp
          refine L_callM [blk b0_ _ _] _ rfl fn132.h rfl pc (by exact fun w hw => s_l1Pick_walk w b0_ (a0_1, v7_0, v7_1) X15 ((RdX.tree mm) w hw) ((RdX.old h0_0) w hw) _ hy16) ?_
          rintro _ _ ⟨y16x0, ⟨y16y0_1, y16y0_2, y16y0_3⟩, rfl, rfl, rfl, hey16_0⟩
          obtain rfl : a0_1 = y16y0_1 := hey16_0.symm
          refine sc ?_
          replace hp := dd hp
          refine s3 ?_
          exact ⟨(y16y0_2, y16y0_3, y16x0), sb, (.sub ms), some_eq hp⟩
        · replace hp := cond_f hc13 hp
          refine s1 ?_
          exact ⟨(v7_0, v7_1, ByteArray.empty), sb, (.sub ms), some_eq hp⟩
      · clear hp
        rintro ⟨v12_0, v12_1, v12_2⟩ hp
        replace hp := dd hp
        refine kq [0, 2, 3] ?_
        refine W_jn (σ := Int × Int × ByteArray) GT.dat (fun ((v17_0, v17_1, v17_2) : Int × Int × ByteArray) => []) (fun ((v17_0, v17_1, v17_2) : Int × Int × ByteArray) => [blk b0_ [(TL.hdr a0_1), .int .i64 v17_0, .int .i64 v17_1] 144, blk bk3 [.int .i64 v4_2, .int .i64 (IntKind.wrap .i64 (1 + y2x0)), .int .i64 (IntKind.wrap .i64 (1 + y3x0)), .string v7_2, .string v12_2, .string v17_2, .int .i64 0, (TL.hdr (TL.nil ByteArray 0))] 79]) [(0, .pointer (some ⟨b0_, 0, none⟩)), (2, .pointer (some ⟨bk2, 0, none⟩)), (3, .pointer (some ⟨bk3, 0, none⟩))] [blk bk2 [.int .i64 0, .int .i64 0, .int .i64 0, .string ByteArray.empty, .string ByteArray.empty, .string ByteArray.empty, .int .i64 0, (TL.hdr (TL.nil ByteArray 0))] 79] hp ?_ ?_
        · clear hp
          intro x17 hp hx17
          refine s6 ?_
          refine kp [0, 2, 3, 39] ?_
          refine W_cond rfl (fun hc18 => ?_) (fun hc18 => ?_)
          · replace hp := cond_t hc18 hp
            refine s2 ?_
            replace hp := ba hp; obtain ⟨y19, hy19, hp⟩ := hp
            refine L_bsN ([(ByteArray.mk #[107, 101, 101, 112]), (ByteArray.mk #[116])] : List ByteArray) (xs := [(0, .const (.string (ByteArray.mk #[107, 101, 101, 112]))), (1, .const (.string (ByteArray.mk #[116])))]) rfl rfl el25.h rfl rfl rfl rfl rfl rfl rfl hy19 (fun X20 hdX20 => ?_)
            subst hdX20
            replace hp := ba hp; obtain ⟨y21, hy21, hp⟩ := hp
            refine L_callM [blk b0_ _ _] _ rfl fn132.h rfl pc (by exact fun w hw => s_l1Pick_walk w b0_ (a0_1, v12_0, v12_1) X20 ((RdX.tree mm) w hw) ((RdX.old h0_0) w hw) _ hy21) ?_
            rintro _ _ ⟨y21x0, ⟨y21y0_1, y21y0_2, y21y0_3⟩, rfl, rfl, rfl, hey21_0⟩
            obtain rfl : a0_1 = y21y0_1 := hey21_0.symm
            refine sc ?_
            replace hp := dd hp
            refine s3 ?_
            exact ⟨(y21y0_2, y21y0_3, y21x0), sb, (.sub ms), some_eq hp⟩
          · replace hp := cond_f hc18 hp
            refine s1 ?_
            exact ⟨(v12_0, v12_1, ByteArray.empty), sb, (.sub ms), some_eq hp⟩
        · clear hp
          rintro ⟨v17_0, v17_1, v17_2⟩ hp
          replace hp := dd hp
          refine kq [0, 2, 3] ?_
          refine W_jn (σ := Int × Int × Int) GT.dat (fun ((v22_0, v22_1, v22_2) : Int × Int × Int) => []) (fun ((v22_0, v22_1, v22_2) : Int × Int × Int) => [blk b0_ [(TL.hdr a0_1), .int .i64 v22_0, .int .i64 v22_1] 144, blk bk3 [.int .i64 v4_2, .int .i64 (IntKind.wrap .i64 (1 + y2x0)), .int .i64 (IntKind.wrap .i64 (1 + y3x0)), .string v7_2, .string v12_2, .string v17_2, .int .i64 v22_2, (TL.hdr (TL.nil ByteArray 0))] 79]) [(0, .pointer (some ⟨b0_, 0, none⟩)), (2, .pointer (some ⟨bk2, 0, none⟩)), (3, .pointer (some ⟨bk3, 0, none⟩))] [blk bk2 [.int .i64 0, .int .i64 0, .int .i64 0, .string ByteArray.empty, .string ByteArray.empty, .string ByteArray.empty, .int .i64 0, (TL.hdr (TL.nil ByteArray 0))] 79] hp ?_ ?_
          · clear hp
            intro x22 hp hx22
            refine s6 ?_
            refine kp [0, 2, 3, 46] ?_
            refine W_cond rfl (fun hc23 => ?_) (fun hc23 => ?_)
            · replace hp := cond_t hc23 hp
              refine s2 ?_
              replace hp := ba hp; obtain ⟨y24, hy24, hp⟩ := hp
              refine L_callM [blk b0_ _ _] _ rfl fn59.h rfl pc (by exact fun w hw => s_l1Below_walk w b0_ (a0_1, v17_0, v17_1) 4 ((RdX.old h0_0) w hw) _ hy24) ?_
              rintro _ _ ⟨y24x0, ⟨y24y0_1, y24y0_2, y24y0_3⟩, rfl, rfl, rfl, hey24_0⟩
              obtain rfl : a0_1 = y24y0_1 := hey24_0.symm
              refine sc ?_
              replace hp := dd hp
              refine s3 ?_
              exact ⟨(y24y0_2, y24y0_3, y24x0), sb, (.sub ms), some_eq hp⟩
            · replace hp := cond_f hc23 hp
              refine s1 ?_
              exact ⟨(v17_0, v17_1, 0), sb, (.sub ms), some_eq hp⟩
          · clear hp
            rintro ⟨v22_0, v22_1, v22_2⟩ hp
            replace hp := dd hp
            refine kq [0, 2, 3] ?_
            refine s7 ?_
            refine kp [0, 2, 3, 52] ?_
            refine W_cond rfl (fun hc25 => ?_) (fun hc25 => ?_)
            · replace hp := cond_t hc25 hp
              refine s3 ?_
              replace hp := ba hp; obtain ⟨y26, hy26, hp⟩ := hp
              refine L_callM [blk b0_ _ _] _ rfl fn59.h rfl pc (by exact fun w hw => s_l1Below_walk w b0_ (a0_1, v22_0, v22_1) 3 ((RdX.old h0_0) w hw) _ hy26) ?_
              rintro _ _ ⟨y26x0, ⟨y26y0_1, y26y0_2, y26y0_3⟩, rfl, rfl, rfl, hey26_0⟩
              obtain rfl : a0_1 = y26y0_1 := hey26_0.symm
              refine sc ?_
              replace hp := dd hp
              refine s4 ?_
              refine W_conv (M' := treeH (TL.nil ByteArray 0) :: _) (fun w h => addNilT (τ := ByteArray) 0 h) ?_
              refine W_while (σ := Int × Int × Int × (TL ByteArray)) GT.dat (fun ((v27_0, v27_1, v27_2, v27_3) : Int × Int × Int × (TL ByteArray)) => [(4, .int .i64 v27_0)]) (fun ((v27_0, v27_1, v27_2, v27_3) : Int × Int × Int × (TL ByteArray)) => [blk b0_ [(TL.hdr a0_1), .int .i64 v27_1, .int .i64 v27_2] 144, blk bk3 [.int .i64 v4_2, .int .i64 (IntKind.wrap .i64 (1 + y2x0)), .int .i64 (IntKind.wrap .i64 (1 + y3x0)), .string v7_2, .string v12_2, .string v17_2, .int .i64 v22_2, (TL.hdr v27_3)] 79, treeH v27_3]) [(0, _), (2, _), (3, _)] [blk bk2 _ _] (IntKind.wrap .i64 (1 + y26x0), y26y0_2, y26y0_3, (TL.nil ByteArray 0)) hp sb ms ?_
              clear hp
              rintro ⟨v27_0, v27_1, v27_2, v27_3⟩ x27 hp hx27
              replace hp := dd hp
              refine kq [0, 2, 3, 4] ?_
              refine s6 ?_
              refine kp [0, 2, 3, 4, 57] ?_
              refine W_cond rfl (fun hc28 => ?_) (fun hc28 => ?_)
              · replace hp := cond_t hc28 hp
                refine s3 ?_
                replace hp := ba hp; obtain ⟨y29, hy29, hp⟩ := hp
                replace hp := ba hp; obtain ⟨y30, hy30, hp⟩ := hp
                have ey30 := u8P_some hy30
                try simp only [dat_u8] at ey30
                try simp only [ey30]
                replace hp := ba hp; obtain ⟨y31, hy31, hp⟩ := hp
                replace hp := ba hp; obtain ⟨y33, hy33, hp⟩ := hp
                refine W_DS (pre := [_, _, _, _, _, _, _, _, _]) (suf := [_, _, _]) [61, 63, 68] [blk b0_ _ 144] _ pc mix (by kernel_rfl) (by kernel_rfl) rfl ?_
                refine s3 ?_
                refine D_callM (fun v M => ∃ (x0 : Int) (y0 : T_l1Cur), v = .int .i64 x0 ∧ (GT.dat x0, GT.dat y0) = y29 ∧ M = [blk b0_ (GT.cells y0) 144] ∧ y0.1 = a0_1) [blk b0_ _ 144] pc fn59.h (OpVs.cons (OpV.t rfl) (OpVs.cons OpV.c (OpVs.nil))) (by exact fun w F hw hM => s_l1Below_walk w b0_ (a0_1, v27_1, v27_2) 4 ((RdX.old h0_0) w hw) _ hy29) ?_
                refine D_convInt GC.none (show OpV _ _ _ (.int .i64 y29.1) from ⟨_, rfl, fun u M h hc => by obtain ⟨x0, z0, hv, hd, _⟩ := h; subst hd; exact hv⟩) und5.h (by rw [und3.h]; rfl) ?_
                refine D_bsN ([y30] : List UInt8) (xs := [(0, .tmp 64)]) (ps := [(0, .int .u8 (y30.toNat : Int))]) (OpVp.cons (by rw [← ey30]; exact (OpV.t rfl)) (OpVp.nil)) el22.h rfl rfl rfl rfl rfl rfl rfl hy31 ?_
                refine D_toStrO (r := y31) (t := 65) rfl und22.h und5.h und9.h (by kernel_rfl) ?_
                refine D_callX GC.none fn111.h (OpVs.cons (OpV.t rfl) (OpVs.nil)) (by exact fun hg w F hF hM => s_Short_walk w (strP y31)  _ hy33) ?_
                refine D_bs1 (OpV.t rfl) el25.h rfl (by decide) (by decide) rfl ?_
                refine s1 ?_
                refine Give_R rfl rfl ?_
                rintro _ _ ⟨bb68, rfl, rfl⟩
                simp only [List.cons_append, List.nil_append]
                refine s4 ?_
                refine Give_R rfl rfl ?_
                rintro _ _ ⟨y29x0, ⟨y29y0_1, y29y0_2, y29y0_3⟩, rfl, rfl, rfl, hey29_0⟩
                obtain rfl : a0_1 = y29y0_1 := hey29_0.symm
                refine s4 ?_
                refine sc ?_
                replace hp := dd hp
                replace hp := ba hp; obtain ⟨y35, hy35, hp⟩ := hp
                refine L_app1F (X := v27_3) (y33 : ByteArray) rfl rfl rfl el25.h rfl rfl pk mm  hy35 (by decide) (fun X34 hdX34 => ?_)
                subst hdX34
                refine s8 ?_
                exact ⟨(IntKind.wrap .i64 (v27_0 - 1), y29y0_2, y29y0_3, X34), sb, (.sub ms), some_eq hp⟩
              · replace hp := cond_f hc28 hp
                refine W_exit ?_
                replace hp := map_any hp; obtain ⟨a36, hp, hx_a36⟩ := hp
                obtain rfl := hx27 _ hx_a36
                refine s5 ?_
                obtain rfl := Option.some.inj hp
                refine jW ((v4_2, IntKind.wrap .i64 (1 + y2x0), IntKind.wrap .i64 (1 + y3x0), v7_2, v12_2, v17_2, v22_2, v27_3) : T_Cmd) ?_
                refine s1 ?_
                refine res1 rfl (ResOK.cell rfl mm (by exact agg79.h)) ⟨(v4_2, IntKind.wrap .i64 (1 + y2x0), IntKind.wrap .i64 (1 + y3x0), v7_2, v12_2, v17_2, v22_2, v27_3), (a0_1, v27_1, v27_2), rfl, rfl, rfl, rfl⟩ ms
            · replace hp := cond_f hc25 hp
              refine s6 ?_
              obtain rfl := Option.some.inj hp
              refine W_conv (M' := treeH (TL.nil ByteArray 0) :: _) (fun w h => addNilT (τ := ByteArray) 0 h) ?_
              refine jW ((v4_2, IntKind.wrap .i64 (1 + y2x0), IntKind.wrap .i64 (1 + y3x0), v7_2, v12_2, v17_2, v22_2, (TL.nil ByteArray 0)) : T_Cmd) ?_
              refine s1 ?_
              refine res1 rfl (ResOK.cell rfl mm (by exact agg79.h)) ⟨(v4_2, IntKind.wrap .i64 (1 + y2x0), IntKind.wrap .i64 (1 + y3x0), v7_2, v12_2, v17_2, v22_2, (TL.nil ByteArray 0)), (a0_1, v22_0, v22_1), rfl, rfl, rfl, rfl⟩ ms
noncomputable def s_l4Cmd (a0 : D_l1Cur) : Option (D_Cmd × D_l1Cur) :=
  Option.bind (s_l1Once (a0.1, a0.2.1, a0.2.2) 12) (fun y1 => cond y1.1 (some ((0, 0, 0, ByteArray.empty, ByteArray.empty, ByteArray.empty, 0, ([] : List ByteArray)), (y1.2.1, y1.2.2.1, y1.2.2.2))) (Option.bind (s_l4Right (y1.2.1, y1.2.2.1, y1.2.2.2)) (fun y3 => Option.bind (s_l1Once (y3.2.1, y3.2.2.1, y3.2.2.2) 8) (fun y4 => cond y4.1 (Option.bind (s_l1Below (y4.2.1, y4.2.2.1, y4.2.2.2) 6) (fun y6 => cond (decide (y6.1 = 0)) (Option.bind (some ([(-1), 0, 8, 3] : List Int)) (fun y8 => Option.bind (s_l1PickInt (y6.2.1, y6.2.2.1, y6.2.2.2) y8) (fun y10 => some ((y10.1, y3.1.2.1, y3.1.2.2.1, y3.1.2.2.2.1, y3.1.2.2.2.2.1, y3.1.2.2.2.2.2.1, y3.1.2.2.2.2.2.2.1, y3.1.2.2.2.2.2.2.2), (y10.2.1, y10.2.2.1, y10.2.2.2))))) (cond (decide (y6.1 = 1)) (Option.bind (some ([0, 9, 10] : List Int)) (fun y12 => Option.bind (s_l1PickInt (y6.2.1, y6.2.2.1, y6.2.2.2) y12) (fun y14 => some ((y3.1.1, y14.1, y3.1.2.2.1, y3.1.2.2.2.1, y3.1.2.2.2.2.1, y3.1.2.2.2.2.2.1, y3.1.2.2.2.2.2.2.1, y3.1.2.2.2.2.2.2.2), (y14.2.1, y14.2.2.1, y14.2.2.2))))) (cond (decide (y6.1 = 2)) (Option.bind (some ([0, 1000, 1001] : List Int)) (fun y16 => Option.bind (s_l1PickInt (y6.2.1, y6.2.2.1, y6.2.2.2) y16) (fun y18 => some ((y3.1.1, y3.1.2.1, y18.1, y3.1.2.2.2.1, y3.1.2.2.2.2.1, y3.1.2.2.2.2.2.1, y3.1.2.2.2.2.2.2.1, y3.1.2.2.2.2.2.2.2), (y18.2.1, y18.2.2.1, y18.2.2.2))))) (cond (decide (y6.1 = 3)) (Option.bind (some ([ByteArray.empty, (ByteArray.mk #[65]), (ByteArray.mk #[97, 98, 99, 100, 101, 102, 103, 104]), (ByteArray.mk #[97, 98, 99, 100, 101, 102, 103, 104, 105])] : List ByteArray)) (fun y20 => Option.bind (s_l1Pick (y6.2.1, y6.2.2.1, y6.2.2.2) y20) (fun y22 => some ((y3.1.1, y3.1.2.1, y3.1.2.2.1, y22.1, y3.1.2.2.2.2.1, y3.1.2.2.2.2.2.1, y3.1.2.2.2.2.2.2.1, y3.1.2.2.2.2.2.2.2), (y22.2.1, y22.2.2.1, y22.2.2.2))))) (cond (decide (y6.1 = 4)) (Option.bind (some ([(-1), 9, 10] : List Int)) (fun y24 => Option.bind (s_l1PickInt (y6.2.1, y6.2.2.1, y6.2.2.2) y24) (fun y26 => some ((y3.1.1, y3.1.2.1, y3.1.2.2.1, y3.1.2.2.2.1, y3.1.2.2.2.2.1, y3.1.2.2.2.2.2.1, y26.1, y3.1.2.2.2.2.2.2.2), (y26.2.1, y26.2.2.1, y26.2.2.2))))) (Option.bind (s_l1Text (y6.2.1, y6.2.2.1, y6.2.2.2) 9) (fun y27 => Option.bind (appP y3.1.2.2.2.2.2.2.2 [y27.1]) (fun y29 => some ((y3.1.1, y3.1.2.1, y3.1.2.2.1, y3.1.2.2.2.1, y3.1.2.2.2.2.1, y3.1.2.2.2.2.2.1, y3.1.2.2.2.2.2.2.1, y29), (y27.2.1, y27.2.2.1, y27.2.2.2))))))))))) (some ((y3.1.1, y3.1.2.1, y3.1.2.2.1, y3.1.2.2.2.1, y3.1.2.2.2.2.1, y3.1.2.2.2.2.2.1, y3.1.2.2.2.2.2.2.1, y3.1.2.2.2.2.2.2.2), (y4.2.1, y4.2.2.1, y4.2.2.2)))))))
theorem s_l4Cmd_walk (w : World) (b0_ : Nat) (a0 : T_l1Cur) (h0_0 : GT.rd w (fps [blk b0_ (GT.cells a0) 144]) a0.1) (r : D_Cmd × D_l1Cur) (hp : s_l4Cmd (GT.dat a0) = some r) : Spec Try.prog 110 [Value.pointer (some ⟨b0_, 0, none⟩)].toArray w [blk b0_ (GT.cells a0) 144] (fun v M => ∃ (x0 : T_Cmd) (y0 : T_l1Cur), v = .agg (GT.cells x0).toArray ∧ (GT.dat x0, GT.dat y0) = r ∧ M = [treeH x0, blk b0_ (GT.cells y0) 144] ∧ y0.1 = a0.1) := by
  obtain ⟨a0_1, a0_2, a0_3⟩ := a0
  change Spec _ _ ([Value.pointer (some ⟨b0_, 0, none⟩)] : List Value).toArray w _ _
  refine Spec.intro Try.func110 rfl Try.ntmps110 rfl ?_
  unfold s_l4Cmd at hp
  replace hp := dd hp
  refine s2 ?_
  refine al fun bk2 => ?_
  refine s5 ?_
  replace hp := ba hp; obtain ⟨y1, hy1, hp⟩ := hp
  refine L_callM [blk b0_ _ _] _ rfl fn89.h rfl pc (by exact fun w hw => s_l1Once_walk w b0_ (a0_1, a0_2, a0_3) 12 ((RdX.old h0_0) w hw) _ hy1) ?_
  rintro _ _ ⟨y1x0, ⟨y1y0_1, y1y0_2, y1y0_3⟩, rfl, rfl, rfl, hey1_0⟩
  obtain rfl : a0_1 = y1y0_1 := hey1_0.symm
  refine sc ?_
  replace hp := dd hp
  refine s1 ?_
  refine kp [0, 2, 5] ?_
  refine W_cond rfl (fun hc2 => ?_) (fun hc2 => ?_)
  · replace hp := cond_t hc2 hp
    refine s2 ?_
    refine L_build (xs := []) (cs := [.int .i64 0, .int .i64 0, .int .i64 0, .string ByteArray.empty, .string ByteArray.empty, .string ByteArray.empty, .int .i64 0, (TL.hdr (TL.nil ByteArray 0))]) rfl rfl bld79.h rfl ?_
    refine s2 ?_
    obtain rfl := Option.some.inj hp
    refine W_conv (M' := treeH (TL.nil ByteArray 0) :: _) (fun w h => addNilT (τ := ByteArray) 0 h) ?_
    refine jW ((0, 0, 0, ByteArray.empty, ByteArray.empty, ByteArray.empty, 0, (TL.nil ByteArray 0)) : T_Cmd) ?_
    refine s1 ?_
    refine res1 rfl (ResOK.cell rfl mm (by exact agg79.h)) ⟨(0, 0, 0, ByteArray.empty, ByteArray.empty, ByteArray.empty, 0, (TL.nil ByteArray 0)), (a0_1, y1y0_2, y1y0_3), rfl, rfl, rfl, rfl⟩ ms
  · replace hp := cond_f hc2 hp
    refine s4 ?_
    replace hp := ba hp; obtain ⟨y3, hy3, hp⟩ := hp
    refine L_callM [blk b0_ _ _] _ rfl fn145.h rfl pc (by exact fun w hw => s_l4Right_walk w b0_ (a0_1, y1y0_2, y1y0_3) ((RdX.old h0_0) w hw) _ hy3) ?_
    rintro _ _ ⟨⟨y3x0_1, y3x0_2, y3x0_3, y3x0_4, y3x0_5, y3x0_6, y3x0_7, y3x0_8⟩, ⟨y3y0_1, y3y0_2, y3y0_3⟩, rfl, rfl, rfl, hey3_0⟩
    obtain rfl : a0_1 = y3y0_1 := hey3_0.symm
    refine sc ?_
    replace hp := dd hp
    refine xL ((y3x0_1, y3x0_2, y3x0_3, y3x0_4, y3x0_5, y3x0_6, y3x0_7, y3x0_8) : T_Cmd) ?_
    refine al fun bk3 => ?_
    refine s6 ?_
    replace hp := ba hp; obtain ⟨y4, hy4, hp⟩ := hp
    refine L_callM [blk b0_ _ _] _ rfl fn89.h rfl pc (by exact fun w hw => s_l1Once_walk w b0_ (a0_1, y3y0_2, y3y0_3) 8 ((RdX.old h0_0) w hw) _ hy4) ?_
    rintro _ _ ⟨y4x0, ⟨y4y0_1, y4y0_2, y4y0_3⟩, rfl, rfl, rfl, hey4_0⟩
    obtain rfl : a0_1 = y4y0_1 := hey4_0.symm
    refine sc ?_
    replace hp := dd hp
    refine s1 ?_
    refine kp [0, 2, 3, 10] ?_
    refine W_cond rfl (fun hc5 => ?_) (fun hc5 => ?_)
    · replace hp := cond_t hc5 hp
      refine s3 ?_
      replace hp := ba hp; obtain ⟨y6, hy6, hp⟩ := hp
      refine L_callM [blk b0_ _ _] _ rfl fn59.h rfl pc (by exact fun w hw => s_l1Below_walk w b0_ (a0_1, y4y0_2, y4y0_3) 6 ((RdX.old h0_0) w hw) _ hy6) ?_
      rintro _ _ ⟨y6x0, ⟨y6y0_1, y6y0_2, y6y0_3⟩, rfl, rfl, rfl, hey6_0⟩
      obtain rfl : a0_1 = y6y0_1 := hey6_0.symm
      refine sc ?_
      replace hp := dd hp
      refine s7 ?_
      refine kp [0, 2, 3, 12, 20] ?_
      refine W_cond rfl (fun hc7 => ?_) (fun hc7 => ?_)
      · replace hp := cond_t hc7 hp
        refine s2 ?_
        replace hp := ba hp; obtain ⟨y8, hy8, hp⟩ := hp
        refine L_bsN ([(-1), 0, 8, 3] : List Int) (xs := [(0, .const (.int .i64 (-1))), (1, .const (.int .i64 0)), (2, .const (.int .i64 8)), (3, .const (.int .i64 3))]) rfl rfl el34.h rfl rfl rfl rfl rfl rfl rfl hy8 (fun X9 hdX9 => ?_)
        subst hdX9
        replace hp := ba hp; obtain ⟨y10, hy10, hp⟩ := hp
        refine L_callM [blk b0_ _ _] _ rfl fn90.h rfl pc (by exact fun w hw => s_l1PickInt_walk w b0_ (a0_1, y6y0_2, y6y0_3) X9 ((RdX.tree mm) w hw) ((RdX.old h0_0) w hw) _ hy10) ?_
        rintro _ _ ⟨y10x0, ⟨y10y0_1, y10y0_2, y10y0_3⟩, rfl, rfl, rfl, hey10_0⟩
        obtain rfl : a0_1 = y10y0_1 := hey10_0.symm
        refine sc ?_
        replace hp := dd hp
        refine s8 ?_
        obtain rfl := Option.some.inj hp
        refine jW ((y10x0, y3x0_2, y3x0_3, y3x0_4, y3x0_5, y3x0_6, y3x0_7, y3x0_8) : T_Cmd) ?_
        refine s1 ?_
        refine res1 rfl (ResOK.cell rfl mm (by exact agg79.h)) ⟨(y10x0, y3x0_2, y3x0_3, y3x0_4, y3x0_5, y3x0_6, y3x0_7, y3x0_8), (a0_1, y10y0_2, y10y0_3), rfl, rfl, rfl, rfl⟩ ms
      · replace hp := cond_f hc7 hp
        refine s5 ?_
        refine kp [0, 2, 3, 12, 26] ?_
        refine W_cond rfl (fun hc11 => ?_) (fun hc11 => ?_)
        · replace hp := cond_t hc11 hp
          refine s2 ?_
          replace hp := ba hp; obtain ⟨y12, hy12, hp⟩ := hp
          refine L_bsN ([0, 9, 10] : List Int) (xs := [(0, .const (.int .i64 0)), (1, .const (.int .i64 9)), (2, .const (.int .i64 10))]) rfl rfl el34.h rfl rfl rfl rfl rfl rfl rfl hy12 (fun X13 hdX13 => ?_)
          subst hdX13
          replace hp := ba hp; obtain ⟨y14, hy14, hp⟩ := hp
          refine L_callM [blk b0_ _ _] _ rfl fn90.h rfl pc (by exact fun w hw => s_l1PickInt_walk w b0_ (a0_1, y6y0_2, y6y0_3) X13 ((RdX.tree mm) w hw) ((RdX.old h0_0) w hw) _ hy14) ?_
          rintro _ _ ⟨y14x0, ⟨y14y0_1, y14y0_2, y14y0_3⟩, rfl, rfl, rfl, hey14_0⟩
          obtain rfl : a0_1 = y14y0_1 := hey14_0.symm
          refine sc ?_
          replace hp := dd hp
          refine s8 ?_
          obtain rfl := Option.some.inj hp
          refine jW ((y3x0_1, y14x0, y3x0_3, y3x0_4, y3x0_5, y3x0_6, y3x0_7, y3x0_8) : T_Cmd) ?_
          refine s1 ?_
          refine res1 rfl (ResOK.cell rfl mm (by exact agg79.h)) ⟨(y3x0_1, y14x0, y3x0_3, y3x0_4, y3x0_5, y3x0_6, y3x0_7, y3x0_8), (a0_1, y14y0_2, y14y0_3), rfl, rfl, rfl, rfl⟩ ms
        · replace hp := cond_f hc11 hp
          refine s5 ?_
          refine kp [0, 2, 3, 12, 32] ?_
          refine W_cond rfl (fun hc15 => ?_) (fun hc15 => ?_)
          · replace hp := cond_t hc15 hp
            refine s2 ?_
            replace hp := ba hp; obtain ⟨y16, hy16, hp⟩ := hp
            refine L_bsN ([0, 1000, 1001] : List Int) (xs := [(0, .const (.int .i64 0)), (1, .const (.int .i64 1000)), (2, .const (.int .i64 1001))]) rfl rfl el34.h rfl rfl rfl rfl rfl rfl rfl hy16 (fun X17 hdX17 => ?_)
            subst hdX17
            replace hp := ba hp; obtain ⟨y18, hy18, hp⟩ := hp
            refine L_callM [blk b0_ _ _] _ rfl fn90.h rfl pc (by exact fun w hw => s_l1PickInt_walk w b0_ (a0_1, y6y0_2, y6y0_3) X17 ((RdX.tree mm) w hw) ((RdX.old h0_0) w hw) _ hy18) ?_
            rintro _ _ ⟨y18x0, ⟨y18y0_1, y18y0_2, y18y0_3⟩, rfl, rfl, rfl, hey18_0⟩
            obtain rfl : a0_1 = y18y0_1 := hey18_0.symm
            refine sc ?_
            replace hp := dd hp
            refine s8 ?_
            obtain rfl := Option.some.inj hp
            refine jW ((y3x0_1, y3x0_2, y18x0, y3x0_4, y3x0_5, y3x0_6, y3x0_7, y3x0_8) : T_Cmd) ?_
            refine s1 ?_
            refine res1 rfl (ResOK.cell rfl mm (by exact agg79.h)) ⟨(y3x0_1, y3x0_2, y18x0, y3x0_4, y3x0_5, y3x0_6, y3x0_7, y3x0_8), (a0_1, y18y0_2, y18y0_3), rfl, rfl, rfl, rfl⟩ ms
          · replace hp := cond_f hc15 hp
            refine s5 ?_
            refine kp [0, 2, 3, 12, 38] ?_
            refine W_cond rfl (fun hc19 => ?_) (fun hc19 => ?_)
            · replace hp := cond_t hc19 hp
              refine s2 ?_
              replace hp := ba hp; obtain ⟨y20, hy20, hp⟩ := hp
              refine L_bsN ([ByteArray.empty, (ByteArray.mk #[65]), (ByteArray.mk #[97, 98, 99, 100, 101, 102, 103, 104]), (ByteArray.mk #[97, 98, 99, 100, 101, 102, 103, 104, 105])] : List ByteArray) (xs := [(0, .const (.string ByteArray.empty)), (1, .const (.string (ByteArray.mk #[65]))), (2, .const (.string (ByteArray.mk #[97, 98, 99, 100, 101, 102, 103, 104]))), (3, .const (.string (ByteArray.mk #[97, 98, 99, 100, 101, 102, 103, 104, 105])))]) rfl rfl el25.h rfl rfl rfl rfl rfl rfl rfl hy20 (fun X21 hdX21 => ?_)
              subst hdX21
              replace hp := ba hp; obtain ⟨y22, hy22, hp⟩ := hp
              refine L_callM [blk b0_ _ _] _ rfl fn132.h rfl pc (by exact fun w hw => s_l1Pick_walk w b0_ (a0_1, y6y0_2, y6y0_3) X21 ((RdX.tree mm) w hw) ((RdX.old h0_0) w hw) _ hy22) ?_
              rintro _ _ ⟨y22x0, ⟨y22y0_1, y22y0_2, y22y0_3⟩, rfl, rfl, rfl, hey22_0⟩
              obtain rfl : a0_1 = y22y0_1 := hey22_0.symm
              refine sc ?_
              replace hp := dd hp
              refine s8 ?_
              obtain rfl := Option.some.inj hp
              refine jW ((y3x0_1, y3x0_2, y3x0_3, y22x0, y3x0_5, y3x0_6, y3x0_7, y3x0_8) : T_Cmd) ?_
              refine s1 ?_
              refine res1 rfl (ResOK.cell rfl mm (by exact agg79.h)) ⟨(y3x0_1, y3x0_2, y3x0_3, y22x0, y3x0_5, y3x0_6, y3x0_7, y3x0_8), (a0_1, y22y0_2, y22y0_3), rfl, rfl, rfl, rfl⟩ ms
            · replace hp := cond_f hc19 hp
              refine s5 ?_
              refine kp [0, 2, 3, 44] ?_
              refine W_cond rfl (fun hc23 => ?_) (fun hc23 => ?_)
              · replace hp := cond_t hc23 hp
                refine s2 ?_
                replace hp := ba hp; obtain ⟨y24, hy24, hp⟩ := hp
                refine L_bsN ([(-1), 9, 10] : List Int) (xs := [(0, .const (.int .i64 (-1))), (1, .const (.int .i64 9)), (2, .const (.int .i64 10))]) rfl rfl el34.h rfl rfl rfl rfl rfl rfl rfl hy24 (fun X25 hdX25 => ?_)
                subst hdX25
                replace hp := ba hp; obtain ⟨y26, hy26, hp⟩ := hp
                refine L_callM [blk b0_ _ _] _ rfl fn90.h rfl pc (by exact fun w hw => s_l1PickInt_walk w b0_ (a0_1, y6y0_2, y6y0_3) X25 ((RdX.tree mm) w hw) ((RdX.old h0_0) w hw) _ hy26) ?_
                rintro _ _ ⟨y26x0, ⟨y26y0_1, y26y0_2, y26y0_3⟩, rfl, rfl, rfl, hey26_0⟩
                obtain rfl : a0_1 = y26y0_1 := hey26_0.symm
                refine sc ?_
                replace hp := dd hp
                refine s8 ?_
                obtain rfl := Option.some.inj hp
                refine jW ((y3x0_1, y3x0_2, y3x0_3, y3x0_4, y3x0_5, y3x0_6, y26x0, y3x0_8) : T_Cmd) ?_
                refine s1 ?_
                refine res1 rfl (ResOK.cell rfl mm (by exact agg79.h)) ⟨(y3x0_1, y3x0_2, y3x0_3, y3x0_4, y3x0_5, y3x0_6, y26x0, y3x0_8), (a0_1, y26y0_2, y26y0_3), rfl, rfl, rfl, rfl⟩ ms
              · replace hp := cond_f hc23 hp
                replace hp := ba hp; obtain ⟨y27, hy27, hp⟩ := hp
                refine W_DS (pre := [_, _, _, _, _]) (suf := [_, _, _]) [14, 16, 17] [blk b0_ _ 144] _ pc mix (by kernel_rfl) (by kernel_rfl) rfl ?_
                refine s3 ?_
                refine D_callM (fun v M => ∃ (x0 : ByteArray) (y0 : T_l1Cur), v = .string x0 ∧ (GT.dat x0, GT.dat y0) = y27 ∧ M = [blk b0_ (GT.cells y0) 144] ∧ y0.1 = a0_1) [blk b0_ _ 144] pc fn60.h (OpVs.cons (OpV.t rfl) (OpVs.cons OpV.c (OpVs.nil))) (by exact fun w F hw hM => s_l1Text_walk w b0_ (a0_1, y6y0_2, y6y0_3) 9 ((RdX.old h0_0) w hw) _ hy27) ?_
                refine D_bs1 (show OpV _ _ _ (.string y27.1) from ⟨_, rfl, fun u M h hc => by obtain ⟨x0, z0, hv, hd, _⟩ := h; subst hd; exact hv⟩) el25.h rfl (by decide) (by decide) rfl ?_
                refine s1 ?_
                refine Give_R rfl rfl ?_
                rintro _ _ ⟨bb17, rfl, rfl⟩
                simp only [List.cons_append, List.nil_append]
                refine Give_R rfl rfl ?_
                rintro _ _ ⟨y27x0, ⟨y27y0_1, y27y0_2, y27y0_3⟩, rfl, rfl, rfl, hey27_0⟩
                obtain rfl : a0_1 = y27y0_1 := hey27_0.symm
                refine s4 ?_
                refine sc ?_
                replace hp := dd hp
                replace hp := ba hp; obtain ⟨y29, hy29, hp⟩ := hp
                refine L_app1F (X := y3x0_8) (y27x0 : ByteArray) rfl rfl rfl el25.h rfl rfl pk mm  hy29 (by decide) (fun X28 hdX28 => ?_)
                subst hdX28
                refine s8 ?_
                obtain rfl := Option.some.inj hp
                refine jW ((y3x0_1, y3x0_2, y3x0_3, y3x0_4, y3x0_5, y3x0_6, y3x0_7, X28) : T_Cmd) ?_
                refine s1 ?_
                refine res1 rfl (ResOK.cell rfl mm (by exact agg79.h)) ⟨(y3x0_1, y3x0_2, y3x0_3, y3x0_4, y3x0_5, y3x0_6, y3x0_7, X28), (a0_1, y27y0_2, y27y0_3), rfl, rfl, rfl, rfl⟩ ms
    · replace hp := cond_f hc5 hp
      refine s6 ?_
      obtain rfl := Option.some.inj hp
      refine jW ((y3x0_1, y3x0_2, y3x0_3, y3x0_4, y3x0_5, y3x0_6, y3x0_7, y3x0_8) : T_Cmd) ?_
      refine s1 ?_
      refine res1 rfl (ResOK.cell rfl mm (by exact agg79.h)) ⟨(y3x0_1, y3x0_2, y3x0_3, y3x0_4, y3x0_5, y3x0_6, y3x0_7, y3x0_8), (a0_1, y4y0_2, y4y0_3), rfl, rfl, rfl, rfl⟩ ms
noncomputable def s_l4Texts (a0 : List ByteArray) (a1 : List ByteArray) : Option Bool :=
  cond (!decide ((a0.length : Int) = (a1.length : Int))) (some false) (whileP (fun s2 : Int => cond (decide (s2 < (a0.length : Int))) (Option.bind (idx a0 s2) (fun y4 => Option.bind (idx a1 s2) (fun y5 => cond (!decide (y4 = y5)) (Option.map .inr (some false)) (some (.inl (IntKind.wrap .i64 (s2 + 1))))))) (Option.map .inr (some true))) 0)
theorem s_l4Texts_walk (w : World) (a0 : TL ByteArray) (a1 : TL ByteArray) (h0 : GT.rd w [] a0) (h1 : GT.rd w [] a1) (r : Bool) (hp : s_l4Texts (GT.dat a0) (GT.dat a1) = some r) : Spec Try.prog 147 [(TL.hdr a0), (TL.hdr a1)].toArray w [] (IsV (.bool r)) := by
  refine Spec.intro Try.func147 rfl Try.ntmps147 rfl ?_
  unfold s_l4Texts at hp
  replace hp := dd hp
  refine s13 ?_
  refine kp [0, 1, 10] ?_
  refine W_cond rfl (fun hc1 => ?_) (fun hc1 => ?_)
  · replace hp := cond_t hc1 hp
    refine s4 ?_
    obtain rfl := Option.some.inj hp
    refine s1 ?_
    refine res1 rfl (ResOK.tmp rfl) ⟨rfl, rfl⟩ ms
  · replace hp := cond_f hc1 hp
    refine s7 ?_
    refine W_while (σ := Int) GT.dat (fun (v2_0 : Int) => [(5, .int .i64 v2_0)]) (fun (v2_0 : Int) => []) [(0, _), (1, _)] [] 0 hp sb ms ?_
    clear hp
    rintro v2_0 x2 hp hx2
    replace hp := dd hp
    refine kq [0, 1, 5] ?_
    refine s8 ?_
    refine kp [0, 1, 5, 14] ?_
    refine W_cond rfl (fun hc3 => ?_) (fun hc3 => ?_)
    · replace hp := cond_t hc3 hp
      refine s4 ?_
      replace hp := idx_bind hp; obtain ⟨u4, hy4, hp⟩ := hp
      replace hp := idx_bind hp; obtain ⟨u5, hy5, hp⟩ := hp
      refine W_D0 [25] mix (by kernel_rfl) rfl ?_
      refine s2 ?_
      refine D_idxA (X := a0) GC.none (OpV.t rfl) (OpV.t rfl) el25.h (RdT.old h0) (fun _ => hy4) ?_
      refine D_load0 GC.none (OpV.t rfl) (fun hg => RdT.at (RdT.old h0) (hy4).2) one9.h rfl ?_
      refine s2 ?_
      refine D_idxA (X := a1) GC.none (OpV.t rfl) (OpV.t rfl) el25.h (RdT.old h1) (fun _ => hy5) ?_
      refine D_load0 GC.none (OpV.t rfl) (fun hg => RdT.at (RdT.old h1) (hy5).2) one9.h rfl ?_
      refine s12 ?_
      refine kp [0, 1, 5, 25] ?_
      refine W_cond rfl (fun hc6 => ?_) (fun hc6 => ?_)
      · replace hp := cond_t hc6 hp
        refine s4 ?_
        replace hp := map_any hp; obtain ⟨a7, hp, hx_a7⟩ := hp
        obtain rfl := hx2 _ hx_a7
        obtain rfl := Option.some.inj hp
        refine s1 ?_
        refine res1 rfl (ResOK.tmp rfl) ⟨rfl, rfl⟩ ms
      · replace hp := cond_f hc6 hp
        refine s6 ?_
        exact ⟨IntKind.wrap .i64 (v2_0 + 1), sb, (.sub ms), some_eq hp⟩
    · replace hp := cond_f hc3 hp
      refine W_exit ?_
      replace hp := map_any hp; obtain ⟨a8, hp, hx_a8⟩ := hp
      obtain rfl := hx2 _ hx_a8
      refine s4 ?_
      obtain rfl := Option.some.inj hp
      refine s1 ?_
      refine res1 rfl (ResOK.tmp rfl) ⟨rfl, rfl⟩ ms
noncomputable def s_SameCmd (a0 : D_Cmd) (a1 : D_Cmd) : Option Bool :=
  gb (((((((decide (a0.1 = a1.1)) && (decide (a0.2.1 = a1.2.1))) && (decide (a0.2.2.1 = a1.2.2.1))) && (decide (a0.2.2.2.1 = a1.2.2.2.1))) && (decide (a0.2.2.2.2.1 = a1.2.2.2.2.1))) && (decide (a0.2.2.2.2.2.1 = a1.2.2.2.2.2.1))) && (decide (a0.2.2.2.2.2.2.1 = a1.2.2.2.2.2.2.1))) (s_l4Texts a0.2.2.2.2.2.2.2 a1.2.2.2.2.2.2.2) (fun y1 => some ((((((((decide (a0.1 = a1.1)) && (decide (a0.2.1 = a1.2.1))) && (decide (a0.2.2.1 = a1.2.2.1))) && (decide (a0.2.2.2.1 = a1.2.2.2.1))) && (decide (a0.2.2.2.2.1 = a1.2.2.2.2.1))) && (decide (a0.2.2.2.2.2.1 = a1.2.2.2.2.2.1))) && (decide (a0.2.2.2.2.2.2.1 = a1.2.2.2.2.2.2.1))) && y1))
theorem s_SameCmd_walk (w : World) (a0 : T_Cmd) (a1 : T_Cmd) (h0 : GT.rd w [] a0) (h1 : GT.rd w [] a1) (r : Bool) (hp : s_SameCmd (GT.dat a0) (GT.dat a1) = some r) : Spec Try.prog 112 [.agg (GT.cells a0).toArray, .agg (GT.cells a1).toArray].toArray w [] (IsV (.bool r)) := by
  obtain ⟨a0_1, a0_2, a0_3, a0_4, a0_5, a0_6, a0_7, a0_8⟩ := a0
  obtain ⟨a1_1, a1_2, a1_3, a1_4, a1_5, a1_6, a1_7, a1_8⟩ := a1
  change Spec _ _ ([Value.agg #[.int .i64 a0_1, .int .i64 a0_2, .int .i64 a0_3, .string a0_4, .string a0_5, .string a0_6, .int .i64 a0_7, (TL.hdr a0_8)], Value.agg #[.int .i64 a1_1, .int .i64 a1_2, .int .i64 a1_3, .string a1_4, .string a1_5, .string a1_6, .int .i64 a1_7, (TL.hdr a1_8)]] : List Value).toArray w [] _
  refine Spec.intro Try.func112 rfl Try.ntmps112 rfl ?_
  unfold s_SameCmd at hp
  replace hp := dd hp
  refine s2 ?_
  refine bx fun bk2 => ?_
  refine bx fun bk3 => ?_
  refine s3 ?_
  replace hp := gb_any hp; obtain ⟨y1, hy1, hp⟩ := hp
  refine W_D0 [4] mix (by kernel_rfl) rfl ?_
  refine s20 ?_
  refine s20 ?_
  refine s12 ?_
  refine D_callX (GC.some rfl rfl) fn147.h (OpVs.cons (OpV.s rfl) (OpVs.cons (OpV.s rfl) (OpVs.nil))) (by exact fun hg w F hF hM => s_l4Texts_walk w a0_8 a1_8 (RdT.nowS (RdT.old h0.2.2.2.2.2.2.2) hF hM) (RdT.nowS (RdT.old h1.2.2.2.2.2.2.2) hF hM) _ (hy1 hg.2)) ?_
  refine s20 ?_
  refine s20 ?_
  refine s19 ?_
  obtain rfl := Option.some.inj hp
  refine s1 ?_
  refine res1 rfl (ResOK.tmp rfl) ⟨rfl, rfl⟩ ms
noncomputable def s_l4May (a0 : ByteArray) (a1 : Bool) : Option Bool :=
  cond a1 (Option.bind (s_l4Word a0) (fun y2 => some y2)) (some (decide (a0 = ByteArray.empty)))
theorem s_l4May_walk (w : World) (a0 : ByteArray) (a1 : Bool)  (r : Bool) (hp : s_l4May a0 a1 = some r) : Spec Try.prog 113 [.string a0, .bool a1].toArray w [] (IsV (.bool r)) := by
  refine Spec.intro Try.func113 rfl Try.ntmps113 rfl ?_
  unfold s_l4May at hp
  replace hp := dd hp
  refine s9 ?_
  refine kp [0, 5] ?_
  refine W_cond rfl (fun hc1 => ?_) (fun hc1 => ?_)
  · replace hp := cond_t hc1 hp
    refine s3 ?_
    replace hp := ba hp; obtain ⟨y2, hy2, hp⟩ := hp
    refine L_callX rfl fn148.h rfl (by exact fun w hw => s_l4Word_walk w a0  _ hy2) ?_
    refine s2 ?_
    obtain rfl := Option.some.inj hp
    refine s1 ?_
    refine res1 rfl (ResOK.tmp rfl) ⟨rfl, rfl⟩ ms
  · replace hp := cond_f hc1 hp
    refine s7 ?_
    obtain rfl := Option.some.inj hp
    refine s1 ?_
    refine res1 rfl (ResOK.tmp rfl) ⟨rfl, rfl⟩ ms
noncomputable def s_CmdOk (a0 : D_Cmd) : Option Bool :=
  Option.bind (s_l1In a0.1 0 7) (fun y1 => cond (!y1) (some false) (cond (decide (a0.1 = 0)) (Option.bind (s_SameCmd (a0.1, a0.2.1, a0.2.2.1, a0.2.2.2.1, a0.2.2.2.2.1, a0.2.2.2.2.2.1, a0.2.2.2.2.2.2.1, a0.2.2.2.2.2.2.2) (0, 0, 0, ByteArray.empty, ByteArray.empty, ByteArray.empty, 0, ([] : List ByteArray))) (fun y4 => some y4)) (Option.bind (s_l1In a0.2.1 1 9) (fun y5 => gb (!(!y5)) (s_l1In a0.2.2.1 1 1000) (fun y6 => gb (!((!y5) || (!y6))) (s_l4May a0.2.2.2.1 (!decide (a0.1 = 7))) (fun y7 => gb (!(((!y5) || (!y6)) || (!y7))) (s_l4May a0.2.2.2.2.1 ((decide (a0.1 = 3)) || (decide (a0.1 = 4)))) (fun y8 => gb (!((((!y5) || (!y6)) || (!y7)) || (!y8))) (s_l4May a0.2.2.2.2.2.1 (decide (a0.1 = 4))) (fun y9 => gb (((!(((((!y5) || (!y6)) || (!y7)) || (!y8)) || (!y9))) && (!decide (a0.2.2.2.2.2.2.1 = 0))) && (!(!decide (a0.1 = 5)))) (s_l1In a0.2.2.2.2.2.2.1 0 9) (fun y10 => cond ((((((!y5) || (!y6)) || (!y7)) || (!y8)) || (!y9)) || ((!decide (a0.2.2.2.2.2.2.1 = 0)) && ((!decide (a0.1 = 5)) || (!y10)))) (some false) (cond (!decide (a0.1 = 3)) (some (decide ((a0.2.2.2.2.2.2.2.length : Int) = 0))) (Option.bind (s_l1In (a0.2.2.2.2.2.2.2.length : Int) 1 4) (fun y13 => cond (!y13) (some false) (whileP (fun s15 : Int => cond (decide (s15 < (a0.2.2.2.2.2.2.2.length : Int))) (Option.bind (idx a0.2.2.2.2.2.2.2 s15) (fun y17 => cond (!decide ((y17.size : Int) = 8)) (Option.map .inr (some false)) (some (.inl (IntKind.wrap .i64 (s15 + 1)))))) (Option.map .inr (some true))) 0)))))))))))))
theorem s_CmdOk_walk (w : World) (a0 : T_Cmd) (h0 : GT.rd w [] a0) (r : Bool) (hp : s_CmdOk (GT.dat a0) = some r) : Spec Try.prog 51 [.agg (GT.cells a0).toArray].toArray w [] (IsV (.bool r)) := by
  obtain ⟨a0_1, a0_2, a0_3, a0_4, a0_5, a0_6, a0_7, a0_8⟩ := a0
  change Spec _ _ ([Value.agg #[.int .i64 a0_1, .int .i64 a0_2, .int .i64 a0_3, .string a0_4, .string a0_5, .string a0_6, .int .i64 a0_7, (TL.hdr a0_8)]] : List Value).toArray w [] _
  refine Spec.intro Try.func51 rfl Try.ntmps51 rfl ?_
  unfold s_CmdOk at hp
  replace hp := dd hp
  refine s2 ?_
  refine bx fun bk1 => ?_
  refine s7 ?_
  replace hp := ba hp; obtain ⟨y1, hy1, hp⟩ := hp
  refine L_callX rfl fn77.h rfl (by exact fun w hw => s_l1In_walk w a0_1 0 7  _ hy1) ?_
  refine s2 ?_
  refine kp [1, 8] ?_
  refine W_cond rfl (fun hc2 => ?_) (fun hc2 => ?_)
  · replace hp := cond_t hc2 hp
    refine s4 ?_
    obtain rfl := Option.some.inj hp
    refine s1 ?_
    refine res1 rfl (ResOK.tmp rfl) ⟨rfl, rfl⟩ ms
  · replace hp := cond_f hc2 hp
    refine s8 ?_
    refine kp [1, 11] ?_
    refine W_cond rfl (fun hc3 => ?_) (fun hc3 => ?_)
    · replace hp := cond_t hc3 hp
      refine s3 ?_
      refine L_build (xs := []) (cs := [.int .i64 0, .int .i64 0, .int .i64 0, .string ByteArray.empty, .string ByteArray.empty, .string ByteArray.empty, .int .i64 0, (TL.hdr (TL.nil ByteArray 0))]) rfl rfl bld79.h rfl ?_
      replace hp := ba hp; obtain ⟨y4, hy4, hp⟩ := hp
      refine L_callX rfl fn112.h rfl (by exact fun w hw => s_SameCmd_walk w (a0_1, a0_2, a0_3, a0_4, a0_5, a0_6, a0_7, a0_8) (0, 0, 0, ByteArray.empty, ByteArray.empty, ByteArray.empty, 0, (TL.nil ByteArray 0)) (RdT.now (RdT.pair RdT.int (RdT.pair RdT.int (RdT.pair RdT.int (RdT.pair RdT.str (RdT.pair RdT.str (RdT.pair RdT.str (RdT.pair RdT.int (RdT.old h0.2.2.2.2.2.2.2)))))))) hw) (RdT.now (RdT.pair RdT.int (RdT.pair RdT.int (RdT.pair RdT.int (RdT.pair RdT.str (RdT.pair RdT.str (RdT.pair RdT.str (RdT.pair RdT.int (RdT.nil 0)))))))) hw) _ hy4) ?_
      refine s2 ?_
      obtain rfl := Option.some.inj hp
      refine s1 ?_
      refine res1 rfl (ResOK.tmp rfl) ⟨rfl, rfl⟩ ms
    · replace hp := cond_f hc3 hp
      refine s9 ?_
      replace hp := ba hp; obtain ⟨y5, hy5, hp⟩ := hp
      replace hp := gb_any hp; obtain ⟨y6, hy6, hp⟩ := hp
      replace hp := gb_any hp; obtain ⟨y7, hy7, hp⟩ := hp
      replace hp := gb_any hp; obtain ⟨y8, hy8, hp⟩ := hp
      replace hp := gb_any hp; obtain ⟨y9, hy9, hp⟩ := hp
      replace hp := gb_any hp; obtain ⟨y10, hy10, hp⟩ := hp
      refine W_D0 [69] mix (by kernel_rfl) rfl ?_
      refine s2 ?_
      refine D_callX GC.none fn77.h (OpVs.cons (OpV.t rfl) (OpVs.cons OpV.c (OpVs.cons OpV.c (OpVs.nil)))) (by exact fun hg w F hF hM => s_l1In_walk w a0_2 1 9  _ hy5) ?_
      refine s4 ?_
      refine D_callX (GC.some rfl rfl) fn77.h (OpVs.cons (OpV.s rfl) (OpVs.cons OpV.c (OpVs.cons OpV.c (OpVs.nil)))) (by exact fun hg w F hF hM => s_l1In_walk w a0_3 1 1000  _ (hy6 (gnot hg.2))) ?_
      refine s7 ?_
      refine D_callX (GC.some rfl rfl) fn113.h (OpVs.cons (OpV.s rfl) (OpVs.cons (OpV.s rfl) (OpVs.nil))) (by exact fun hg w F hF hM => s_l4May_walk w a0_4 (!decide (a0_1 = 7))  _ (hy7 (gnot hg.2))) ?_
      refine s11 ?_
      refine D_callX (GC.some rfl rfl) fn113.h (OpVs.cons (OpV.s rfl) (OpVs.cons (OpV.s rfl) (OpVs.nil))) (by exact fun hg w F hF hM => s_l4May_walk w a0_5 ((decide (a0_1 = 3)) || (decide (a0_1 = 4)))  _ (hy8 (gnot hg.2))) ?_
      refine s7 ?_
      refine D_callX (GC.some rfl rfl) fn113.h (OpVs.cons (OpV.s rfl) (OpVs.cons (OpV.s rfl) (OpVs.nil))) (by exact fun hg w F hF hM => s_l4May_walk w a0_6 (decide (a0_1 = 4))  _ (hy9 (gnot hg.2))) ?_
      refine s12 ?_
      refine D_callX (GC.some rfl rfl) fn77.h (OpVs.cons (OpV.s rfl) (OpVs.cons OpV.c (OpVs.cons OpV.c (OpVs.nil)))) (by exact fun hg w F hF hM => s_l1In_walk w a0_7 0 9  _ (hy10 (gand (gand (gnot hg.1.1.2) hg.1.2) (gnot hg.2)))) ?_
      refine s20 ?_
      refine s20 ?_
      refine s19 ?_
      refine kp [1, 3, 69] ?_
      refine W_cond rfl (fun hc11 => ?_) (fun hc11 => ?_)
      · replace hp := cond_t hc11 hp
        refine s4 ?_
        obtain rfl := Option.some.inj hp
        refine s1 ?_
        refine res1 rfl (ResOK.tmp rfl) ⟨rfl, rfl⟩ ms
      · replace hp := cond_f hc11 hp
        refine s7 ?_
        refine kp [1, 71] ?_
        refine W_cond rfl (fun hc12 => ?_) (fun hc12 => ?_)
        · replace hp := cond_t hc12 hp
          refine s8 ?_
          obtain rfl := Option.some.inj hp
          refine s1 ?_
          refine res1 rfl (ResOK.tmp rfl) ⟨rfl, rfl⟩ ms
        · replace hp := cond_f hc12 hp
          refine s7 ?_
          replace hp := ba hp; obtain ⟨y13, hy13, hp⟩ := hp
          refine L_callX rfl fn77.h rfl (by exact fun w hw => s_l1In_walk w ((GT.dat a0_8).length : Int) 1 4  _ hy13) ?_
          refine s2 ?_
          refine kp [1, 80] ?_
          refine W_cond rfl (fun hc14 => ?_) (fun hc14 => ?_)
          · replace hp := cond_t hc14 hp
            refine s4 ?_
            obtain rfl := Option.some.inj hp
            refine s1 ?_
            refine res1 rfl (ResOK.tmp rfl) ⟨rfl, rfl⟩ ms
          · replace hp := cond_f hc14 hp
            refine s7 ?_
            refine W_while (σ := Int) GT.dat (fun (v15_0 : Int) => [(4, .int .i64 v15_0)]) (fun (v15_0 : Int) => []) [(1, _)] [blk bk1 _ _] 0 hp sb ms ?_
            clear hp
            rintro v15_0 x15 hp hx15
            replace hp := dd hp
            refine kq [1, 4] ?_
            refine s9 ?_
            refine kp [1, 4, 85] ?_
            refine W_cond rfl (fun hc16 => ?_) (fun hc16 => ?_)
            · replace hp := cond_t hc16 hp
              refine s8 ?_
              replace hp := idx_bind hp; obtain ⟨u17, hy17, hp⟩ := hp
              refine L_idxA (X := a0_8) rfl rfl rfl el25.h (RdT.old h0.2.2.2.2.2.2.2) hy17 ?_
              refine L_load0 rfl rfl (RdT.at (RdT.old h0.2.2.2.2.2.2.2) (hy17).2) one9.h rfl ?_
              refine s3 ?_
              refine kp [1, 4, 94] ?_
              refine W_cond rfl (fun hc18 => ?_) (fun hc18 => ?_)
              · replace hp := cond_t hc18 hp
                refine s4 ?_
                replace hp := map_any hp; obtain ⟨a19, hp, hx_a19⟩ := hp
                obtain rfl := hx15 _ hx_a19
                obtain rfl := Option.some.inj hp
                refine s1 ?_
                refine res1 rfl (ResOK.tmp rfl) ⟨rfl, rfl⟩ ms
              · replace hp := cond_f hc18 hp
                refine s6 ?_
                exact ⟨IntKind.wrap .i64 (v15_0 + 1), sb, (.sub ms), some_eq hp⟩
            · replace hp := cond_f hc16 hp
              refine W_exit ?_
              replace hp := map_any hp; obtain ⟨a20, hp, hx_a20⟩ := hp
              obtain rfl := hx15 _ hx_a20
              refine s4 ?_
              obtain rfl := Option.some.inj hp
              refine s1 ?_
              refine res1 rfl (ResOK.tmp rfl) ⟨rfl, rfl⟩ ms
noncomputable def sl_Equal_stringstring (a0 : List ByteArray) (a1 : List ByteArray) : Option Bool :=
  cond (!decide ((a0.length : Int) = (a1.length : Int))) (some false) (whileP (fun s2 : Int => cond (decide (s2 < (a0.length : Int))) (Option.bind (idx a0 s2) (fun y4 => Option.bind (idx a1 s2) (fun y5 => cond (!decide (y4 = y5)) (Option.map .inr (some false)) (some (.inl (IntKind.wrap .i64 (s2 + 1))))))) (Option.map .inr (some true))) 0)
theorem sl_Equal_stringstring_walk (w : World) (a0 : TL ByteArray) (a1 : TL ByteArray) (h0 : GT.rd w [] a0) (h1 : GT.rd w [] a1) (r : Bool) (hp : sl_Equal_stringstring (GT.dat a0) (GT.dat a1) = some r) : Spec Try.prog 169 [(TL.hdr a0), (TL.hdr a1)].toArray w [] (IsV (.bool r)) := by
  refine Spec.intro Try.func169 rfl Try.ntmps169 rfl ?_
  unfold sl_Equal_stringstring at hp
  replace hp := dd hp
  refine s13 ?_
  refine kp [0, 1, 10] ?_
  refine W_cond rfl (fun hc1 => ?_) (fun hc1 => ?_)
  · replace hp := cond_t hc1 hp
    refine s4 ?_
    obtain rfl := Option.some.inj hp
    refine s1 ?_
    refine res1 rfl (ResOK.tmp rfl) ⟨rfl, rfl⟩ ms
  · replace hp := cond_f hc1 hp
    refine s9 ?_
    refine W_while (σ := Int) GT.dat (fun (v2_0 : Int) => [(13, .int .i64 v2_0)]) (fun (v2_0 : Int) => []) [(0, _), (1, _), (12, _)] [] 0 hp sb ms ?_
    clear hp
    rintro v2_0 x2 hp hx2
    replace hp := dd hp
    refine kq [0, 1, 12, 13] ?_
    refine s5 ?_
    refine kp [0, 1, 12, 13, 14] ?_
    refine W_cond rfl (fun hc3 => ?_) (fun hc3 => ?_)
    · replace hp := cond_t hc3 hp
      refine s9 ?_
      replace hp := idx_bind hp; obtain ⟨u4, hy4, hp⟩ := hp
      replace hp := idx_bind hp; obtain ⟨u5, hy5, hp⟩ := hp
      refine W_D0 [24] mix (by kernel_rfl) rfl ?_
      refine s2 ?_
      refine D_idxA (X := a0) GC.none (OpV.t rfl) (OpV.t rfl) el25.h (RdT.old h0) (fun _ => hy4) ?_
      refine D_load0 GC.none (OpV.t rfl) (fun hg => RdT.at (RdT.old h0) (hy4).2) one9.h rfl ?_
      refine s2 ?_
      refine D_idxA (X := a1) GC.none (OpV.t rfl) (OpV.t rfl) el25.h (RdT.old h1) (fun _ => hy5) ?_
      refine D_load0 GC.none (OpV.t rfl) (fun hg => RdT.at (RdT.old h1) (hy5).2) one9.h rfl ?_
      refine s12 ?_
      refine kp [0, 1, 12, 13, 24] ?_
      refine W_cond rfl (fun hc6 => ?_) (fun hc6 => ?_)
      · replace hp := cond_t hc6 hp
        refine s4 ?_
        replace hp := map_any hp; obtain ⟨a7, hp, hx_a7⟩ := hp
        obtain rfl := hx2 _ hx_a7
        obtain rfl := Option.some.inj hp
        refine s1 ?_
        refine res1 rfl (ResOK.tmp rfl) ⟨rfl, rfl⟩ ms
      · replace hp := cond_f hc6 hp
        refine s5 ?_
        exact ⟨IntKind.wrap .i64 (v2_0 + 1), sb, (.sub ms), some_eq hp⟩
    · replace hp := cond_f hc3 hp
      refine W_exit ?_
      replace hp := map_any hp; obtain ⟨a8, hp, hx_a8⟩ := hp
      obtain rfl := hx2 _ hx_a8
      refine s4 ?_
      obtain rfl := Option.some.inj hp
      refine s1 ?_
      refine res1 rfl (ResOK.tmp rfl) ⟨rfl, rfl⟩ ms
noncomputable def i_SameCmd (a0 : D_Cmd) (a1 : D_Cmd) : Option Bool :=
  gb (((((((decide (a0.1 = a1.1)) && (decide (a0.2.1 = a1.2.1))) && (decide (a0.2.2.1 = a1.2.2.1))) && (decide (a0.2.2.2.1 = a1.2.2.2.1))) && (decide (a0.2.2.2.2.1 = a1.2.2.2.2.1))) && (decide (a0.2.2.2.2.2.1 = a1.2.2.2.2.2.1))) && (decide (a0.2.2.2.2.2.2.1 = a1.2.2.2.2.2.2.1))) (sl_Equal_stringstring a0.2.2.2.2.2.2.2 a1.2.2.2.2.2.2.2) (fun y1 => some ((((((((decide (a0.1 = a1.1)) && (decide (a0.2.1 = a1.2.1))) && (decide (a0.2.2.1 = a1.2.2.1))) && (decide (a0.2.2.2.1 = a1.2.2.2.1))) && (decide (a0.2.2.2.2.1 = a1.2.2.2.2.1))) && (decide (a0.2.2.2.2.2.1 = a1.2.2.2.2.2.1))) && (decide (a0.2.2.2.2.2.2.1 = a1.2.2.2.2.2.2.1))) && y1))
theorem i_SameCmd_walk (w : World) (a0 : T_Cmd) (a1 : T_Cmd) (h0 : GT.rd w [] a0) (h1 : GT.rd w [] a1) (r : Bool) (hp : i_SameCmd (GT.dat a0) (GT.dat a1) = some r) : Spec Try.prog 149 [.agg (GT.cells a0).toArray, .agg (GT.cells a1).toArray].toArray w [] (IsV (.bool r)) := by
  obtain ⟨a0_1, a0_2, a0_3, a0_4, a0_5, a0_6, a0_7, a0_8⟩ := a0
  obtain ⟨a1_1, a1_2, a1_3, a1_4, a1_5, a1_6, a1_7, a1_8⟩ := a1
  change Spec _ _ ([Value.agg #[.int .i64 a0_1, .int .i64 a0_2, .int .i64 a0_3, .string a0_4, .string a0_5, .string a0_6, .int .i64 a0_7, (TL.hdr a0_8)], Value.agg #[.int .i64 a1_1, .int .i64 a1_2, .int .i64 a1_3, .string a1_4, .string a1_5, .string a1_6, .int .i64 a1_7, (TL.hdr a1_8)]] : List Value).toArray w [] _
  refine Spec.intro Try.func149 rfl Try.ntmps149 rfl ?_
  unfold i_SameCmd at hp
  replace hp := dd hp
  refine s2 ?_
  refine bx fun bk2 => ?_
  refine bx fun bk3 => ?_
  refine s3 ?_
  replace hp := gb_any hp; obtain ⟨y1, hy1, hp⟩ := hp
  refine W_D0 [4] mix (by kernel_rfl) rfl ?_
  refine s20 ?_
  refine s20 ?_
  refine s12 ?_
  refine D_callX (GC.some rfl rfl) fn169.h (OpVs.cons (OpV.s rfl) (OpVs.cons (OpV.s rfl) (OpVs.nil))) (by exact fun hg w F hF hM => sl_Equal_stringstring_walk w a0_8 a1_8 (RdT.nowS (RdT.old h0.2.2.2.2.2.2.2) hF hM) (RdT.nowS (RdT.old h1.2.2.2.2.2.2.2) hF hM) _ (hy1 hg.2)) ?_
  refine s20 ?_
  refine s20 ?_
  refine s19 ?_
  obtain rfl := Option.some.inj hp
  refine s1 ?_
  refine res1 rfl (ResOK.tmp rfl) ⟨rfl, rfl⟩ ms
noncomputable def i_isWord (a0 : ByteArray) : Option Bool :=
  whileP (fun s1 : Int => cond (decide (s1 < (a0.size : Int))) (Option.bind (sidx a0 s1) (fun y3 => gb (!(decide (y3 < 97))) (sidx a0 s1) (fun y4 => cond ((decide (y3 < 97)) || (decide (122 < y4))) (Option.map .inr (some false)) (some (.inl (IntKind.wrap .i64 (s1 + 1))))))) (Option.map .inr (Option.bind (i_within (a0.size : Int) 1 8) (fun y8 => some y8)))) 0
theorem i_isWord_walk (w : World) (a0 : ByteArray)  (r : Bool) (hp : i_isWord a0 = some r) : Spec Try.prog 170 [.string a0].toArray w [] (IsV (.bool r)) := by
  refine Spec.intro Try.func170 rfl Try.ntmps170 rfl ?_
  unfold i_isWord at hp
  replace hp := dd hp
  refine s10 ?_
  refine W_while (σ := Int) GT.dat (fun (v1_0 : Int) => [(3, .int .i64 v1_0)]) (fun (v1_0 : Int) => []) [(0, _)] [] 0 hp sb ms ?_
  clear hp
  rintro v1_0 x1 hp hx1
  replace hp := dd hp
  refine kq [0, 3] ?_
  refine s8 ?_
  refine kp [0, 3, 7] ?_
  refine W_cond rfl (fun hc2 => ?_) (fun hc2 => ?_)
  · replace hp := cond_t hc2 hp
    refine s4 ?_
    replace hp := ba hp; obtain ⟨y3, hy3, hp⟩ := hp
    replace hp := gb_any hp; obtain ⟨y4, hy4, hp⟩ := hp
    refine W_D0 [19] mix (by kernel_rfl) rfl ?_
    refine s2 ?_
    refine D_idxS GC.none (OpV.t rfl) (OpV.t rfl) str9.h (fun hg => hy3) ?_
    refine s4 ?_
    refine D_idxS (GC.some rfl rfl) (OpV.s rfl) (OpV.s rfl) str9.h (fun hg => (hy4 (gnot hg.2))) ?_
    refine s14 ?_
    refine kp [0, 3, 19] ?_
    refine W_cond rfl (fun hc5 => ?_) (fun hc5 => ?_)
    · replace hp := cond_t hc5 hp
      refine s4 ?_
      replace hp := map_any hp; obtain ⟨a6, hp, hx_a6⟩ := hp
      obtain rfl := hx1 _ hx_a6
      obtain rfl := Option.some.inj hp
      refine s1 ?_
      refine res1 rfl (ResOK.tmp rfl) ⟨rfl, rfl⟩ ms
    · replace hp := cond_f hc5 hp
      refine s6 ?_
      exact ⟨IntKind.wrap .i64 (v1_0 + 1), sb, (.sub ms), some_eq hp⟩
  · replace hp := cond_f hc2 hp
    refine W_exit ?_
    replace hp := map_any hp; obtain ⟨a7, hp, hx_a7⟩ := hp
    obtain rfl := hx1 _ hx_a7
    refine s4 ?_
    replace hp := ba hp; obtain ⟨y8, hy8, hp⟩ := hp
    refine L_callX rfl fn73.h rfl (by exact fun w hw => i_within_walk w (a0.size : Int) 1 8  _ hy8) ?_
    refine s2 ?_
    obtain rfl := Option.some.inj hp
    refine s1 ?_
    refine res1 rfl (ResOK.tmp rfl) ⟨rfl, rfl⟩ ms
noncomputable def i_wordIf (a0 : ByteArray) (a1 : Bool) : Option Bool :=
  cond a1 (Option.bind (i_isWord a0) (fun y2 => some y2)) (some (decide (a0 = ByteArray.empty)))
theorem i_wordIf_walk (w : World) (a0 : ByteArray) (a1 : Bool)  (r : Bool) (hp : i_wordIf a0 a1 = some r) : Spec Try.prog 150 [.string a0, .bool a1].toArray w [] (IsV (.bool r)) := by
  refine Spec.intro Try.func150 rfl Try.ntmps150 rfl ?_
  unfold i_wordIf at hp
  replace hp := dd hp
  refine s9 ?_
  refine kp [0, 5] ?_
  refine W_cond rfl (fun hc1 => ?_) (fun hc1 => ?_)
  · replace hp := cond_t hc1 hp
    refine s3 ?_
    replace hp := ba hp; obtain ⟨y2, hy2, hp⟩ := hp
    refine L_callX rfl fn170.h rfl (by exact fun w hw => i_isWord_walk w a0  _ hy2) ?_
    refine s2 ?_
    obtain rfl := Option.some.inj hp
    refine s1 ?_
    refine res1 rfl (ResOK.tmp rfl) ⟨rfl, rfl⟩ ms
  · replace hp := cond_f hc1 hp
    refine s7 ?_
    obtain rfl := Option.some.inj hp
    refine s1 ?_
    refine res1 rfl (ResOK.tmp rfl) ⟨rfl, rfl⟩ ms
noncomputable def i_areChunks (a0 : List ByteArray) : Option Bool :=
  whileP (fun s1 : Int => cond (decide (s1 < (a0.length : Int))) (Option.bind (idx a0 s1) (fun y3 => cond (!decide ((y3.size : Int) = 8)) (Option.map .inr (some false)) (some (.inl (IntKind.wrap .i64 (s1 + 1)))))) (Option.map .inr (some true))) 0
theorem i_areChunks_walk (w : World) (a0 : TL ByteArray) (h0 : GT.rd w [] a0) (r : Bool) (hp : i_areChunks (GT.dat a0) = some r) : Spec Try.prog 151 [(TL.hdr a0)].toArray w [] (IsV (.bool r)) := by
  refine Spec.intro Try.func151 rfl Try.ntmps151 rfl ?_
  unfold i_areChunks at hp
  replace hp := dd hp
  refine s12 ?_
  refine W_while (σ := Int) GT.dat (fun (v1_0 : Int) => [(7, .int .i64 v1_0)]) (fun (v1_0 : Int) => []) [(5, _), (6, _)] [] 0 hp sb ms ?_
  clear hp
  rintro v1_0 x1 hp hx1
  replace hp := dd hp
  refine kq [5, 6, 7] ?_
  refine s5 ?_
  refine kp [5, 6, 7, 8] ?_
  refine W_cond rfl (fun hc2 => ?_) (fun hc2 => ?_)
  · replace hp := cond_t hc2 hp
    refine s5 ?_
    replace hp := idx_bind hp; obtain ⟨u3, hy3, hp⟩ := hp
    refine L_idxA (X := a0) rfl rfl rfl el25.h (RdT.old h0) hy3 ?_
    refine L_load0 rfl rfl (RdT.at (RdT.old h0) (hy3).2) one9.h rfl ?_
    refine s8 ?_
    refine kp [5, 6, 7, 13] ?_
    refine W_cond rfl (fun hc4 => ?_) (fun hc4 => ?_)
    · replace hp := cond_t hc4 hp
      refine s4 ?_
      replace hp := map_any hp; obtain ⟨a5, hp, hx_a5⟩ := hp
      obtain rfl := hx1 _ hx_a5
      obtain rfl := Option.some.inj hp
      refine s1 ?_
      refine res1 rfl (ResOK.tmp rfl) ⟨rfl, rfl⟩ ms
    · replace hp := cond_f hc4 hp
      refine s5 ?_
      exact ⟨IntKind.wrap .i64 (v1_0 + 1), sb, (.sub ms), some_eq hp⟩
  · replace hp := cond_f hc2 hp
    refine W_exit ?_
    replace hp := map_any hp; obtain ⟨a6, hp, hx_a6⟩ := hp
    obtain rfl := hx1 _ hx_a6
    refine s4 ?_
    obtain rfl := Option.some.inj hp
    refine s1 ?_
    refine res1 rfl (ResOK.tmp rfl) ⟨rfl, rfl⟩ ms
noncomputable def i_CmdOk (a0 : D_Cmd) : Option Bool :=
  cond (decide (a0.1 = 0)) (Option.bind (i_SameCmd (a0.1, a0.2.1, a0.2.2.1, a0.2.2.2.1, a0.2.2.2.2.1, a0.2.2.2.2.2.1, a0.2.2.2.2.2.2.1, a0.2.2.2.2.2.2.2) (0, 0, 0, ByteArray.empty, ByteArray.empty, ByteArray.empty, 0, ([] : List ByteArray))) (fun y2 => some y2)) (Option.bind (i_within a0.1 1 7) (fun y3 => gb (!(!y3)) (i_within a0.2.1 1 9) (fun y4 => gb (!((!y3) || (!y4))) (i_within a0.2.2.1 1 1000) (fun y5 => cond (((!y3) || (!y4)) || (!y5)) (some false) (Option.bind (i_wordIf a0.2.2.2.1 (!decide (a0.1 = 7))) (fun y7 => gb (!(!y7)) (i_wordIf a0.2.2.2.2.1 ((decide (a0.1 = 3)) || (decide (a0.1 = 4)))) (fun y8 => gb (!((!y7) || (!y8))) (i_wordIf a0.2.2.2.2.2.1 (decide (a0.1 = 4))) (fun y9 => cond (((!y7) || (!y8)) || (!y9)) (some false) (gb ((!decide (a0.2.2.2.2.2.2.1 = 0)) && (!(!decide (a0.1 = 5)))) (i_within a0.2.2.2.2.2.2.1 0 9) (fun y11 => cond ((!decide (a0.2.2.2.2.2.2.1 = 0)) && ((!decide (a0.1 = 5)) || (!y11))) (some false) (cond (decide (a0.1 = 3)) (Option.bind (i_within (a0.2.2.2.2.2.2.2.length : Int) 1 4) (fun y14 => gb y14 (i_areChunks a0.2.2.2.2.2.2.2) (fun y15 => some (y14 && y15)))) (some (decide ((a0.2.2.2.2.2.2.2.length : Int) = 0))))))))))))))
theorem i_CmdOk_walk (w : World) (a0 : T_Cmd) (h0 : GT.rd w [] a0) (r : Bool) (hp : i_CmdOk (GT.dat a0) = some r) : Spec Try.prog 114 [.agg (GT.cells a0).toArray].toArray w [] (IsV (.bool r)) := by
  obtain ⟨a0_1, a0_2, a0_3, a0_4, a0_5, a0_6, a0_7, a0_8⟩ := a0
  change Spec _ _ ([Value.agg #[.int .i64 a0_1, .int .i64 a0_2, .int .i64 a0_3, .string a0_4, .string a0_5, .string a0_6, .int .i64 a0_7, (TL.hdr a0_8)]] : List Value).toArray w [] _
  refine Spec.intro Try.func114 rfl Try.ntmps114 rfl ?_
  unfold i_CmdOk at hp
  replace hp := dd hp
  refine s2 ?_
  refine bx fun bk1 => ?_
  refine s9 ?_
  refine kp [1, 5] ?_
  refine W_cond rfl (fun hc1 => ?_) (fun hc1 => ?_)
  · replace hp := cond_t hc1 hp
    refine s3 ?_
    refine L_build (xs := []) (cs := [.int .i64 0, .int .i64 0, .int .i64 0, .string ByteArray.empty, .string ByteArray.empty, .string ByteArray.empty, .int .i64 0, (TL.hdr (TL.nil ByteArray 0))]) rfl rfl bld79.h rfl ?_
    replace hp := ba hp; obtain ⟨y2, hy2, hp⟩ := hp
    refine L_callX rfl fn149.h rfl (by exact fun w hw => i_SameCmd_walk w (a0_1, a0_2, a0_3, a0_4, a0_5, a0_6, a0_7, a0_8) (0, 0, 0, ByteArray.empty, ByteArray.empty, ByteArray.empty, 0, (TL.nil ByteArray 0)) (RdT.now (RdT.pair RdT.int (RdT.pair RdT.int (RdT.pair RdT.int (RdT.pair RdT.str (RdT.pair RdT.str (RdT.pair RdT.str (RdT.pair RdT.int (RdT.old h0.2.2.2.2.2.2.2)))))))) hw) (RdT.now (RdT.pair RdT.int (RdT.pair RdT.int (RdT.pair RdT.int (RdT.pair RdT.str (RdT.pair RdT.str (RdT.pair RdT.str (RdT.pair RdT.int (RdT.nil 0)))))))) hw) _ hy2) ?_
    refine s2 ?_
    obtain rfl := Option.some.inj hp
    refine s1 ?_
    refine res1 rfl (ResOK.tmp rfl) ⟨rfl, rfl⟩ ms
  · replace hp := cond_f hc1 hp
    refine s3 ?_
    replace hp := ba hp; obtain ⟨y3, hy3, hp⟩ := hp
    replace hp := gb_any hp; obtain ⟨y4, hy4, hp⟩ := hp
    replace hp := gb_any hp; obtain ⟨y5, hy5, hp⟩ := hp
    refine W_D0 [24] mix (by kernel_rfl) rfl ?_
    refine s2 ?_
    refine D_callX GC.none fn73.h (OpVs.cons (OpV.t rfl) (OpVs.cons OpV.c (OpVs.cons OpV.c (OpVs.nil)))) (by exact fun hg w F hF hM => i_within_walk w a0_1 1 7  _ hy3) ?_
    refine s4 ?_
    refine D_callX (GC.some rfl rfl) fn73.h (OpVs.cons (OpV.s rfl) (OpVs.cons OpV.c (OpVs.cons OpV.c (OpVs.nil)))) (by exact fun hg w F hF hM => i_within_walk w a0_2 1 9  _ (hy4 (gnot hg.2))) ?_
    refine s5 ?_
    refine D_callX (GC.some rfl rfl) fn73.h (OpVs.cons (OpV.s rfl) (OpVs.cons OpV.c (OpVs.cons OpV.c (OpVs.nil)))) (by exact fun hg w F hF hM => i_within_walk w a0_3 1 1000  _ (hy5 (gnot hg.2))) ?_
    refine s20 ?_
    refine kp [1, 24] ?_
    refine W_cond rfl (fun hc6 => ?_) (fun hc6 => ?_)
    · replace hp := cond_t hc6 hp
      refine s4 ?_
      obtain rfl := Option.some.inj hp
      refine s1 ?_
      refine res1 rfl (ResOK.tmp rfl) ⟨rfl, rfl⟩ ms
    · replace hp := cond_f hc6 hp
      refine s3 ?_
      replace hp := ba hp; obtain ⟨y7, hy7, hp⟩ := hp
      replace hp := gb_any hp; obtain ⟨y8, hy8, hp⟩ := hp
      replace hp := gb_any hp; obtain ⟨y9, hy9, hp⟩ := hp
      refine W_D0 [54] mix (by kernel_rfl) rfl ?_
      refine s5 ?_
      refine D_callX GC.none fn150.h (OpVs.cons (OpV.t rfl) (OpVs.cons (OpV.t rfl) (OpVs.nil))) (by exact fun hg w F hF hM => i_wordIf_walk w a0_4 (!decide (a0_1 = 7))  _ hy7) ?_
      refine s12 ?_
      refine D_callX (GC.some rfl rfl) fn150.h (OpVs.cons (OpV.s rfl) (OpVs.cons (OpV.s rfl) (OpVs.nil))) (by exact fun hg w F hF hM => i_wordIf_walk w a0_5 ((decide (a0_1 = 3)) || (decide (a0_1 = 4)))  _ (hy8 (gnot hg.2))) ?_
      refine s8 ?_
      refine D_callX (GC.some rfl rfl) fn150.h (OpVs.cons (OpV.s rfl) (OpVs.cons (OpV.s rfl) (OpVs.nil))) (by exact fun hg w F hF hM => i_wordIf_walk w a0_6 (decide (a0_1 = 4))  _ (hy9 (gnot hg.2))) ?_
      refine s20 ?_
      refine s14 ?_
      refine kp [1, 54] ?_
      refine W_cond rfl (fun hc10 => ?_) (fun hc10 => ?_)
      · replace hp := cond_t hc10 hp
        refine s4 ?_
        obtain rfl := Option.some.inj hp
        refine s1 ?_
        refine res1 rfl (ResOK.tmp rfl) ⟨rfl, rfl⟩ ms
      · replace hp := cond_f hc10 hp
        refine s3 ?_
        replace hp := gb_any hp; obtain ⟨y11, hy11, hp⟩ := hp
        refine W_D0 [68] mix (by kernel_rfl) rfl ?_
        refine s10 ?_
        refine D_callX (GC.some rfl rfl) fn73.h (OpVs.cons (OpV.s rfl) (OpVs.cons OpV.c (OpVs.cons OpV.c (OpVs.nil)))) (by exact fun hg w F hF hM => i_within_walk w a0_7 0 9  _ (hy11 (gand hg.1.2 (gnot hg.2)))) ?_
        refine s19 ?_
        refine kp [1, 68] ?_
        refine W_cond rfl (fun hc12 => ?_) (fun hc12 => ?_)
        · replace hp := cond_t hc12 hp
          refine s4 ?_
          obtain rfl := Option.some.inj hp
          refine s1 ?_
          refine res1 rfl (ResOK.tmp rfl) ⟨rfl, rfl⟩ ms
        · replace hp := cond_f hc12 hp
          refine s8 ?_
          refine kp [1, 71] ?_
          refine W_cond rfl (fun hc13 => ?_) (fun hc13 => ?_)
          · replace hp := cond_t hc13 hp
            refine s1 ?_
            replace hp := ba hp; obtain ⟨y14, hy14, hp⟩ := hp
            replace hp := gb_any hp; obtain ⟨y15, hy15, hp⟩ := hp
            refine W_D0 [2] mix (by kernel_rfl) rfl ?_
            refine s2 ?_
            refine D_lenP (X := a0_8) GC.none (OpV.t rfl) el25.h ?_
            refine D_callX GC.none fn73.h (OpVs.cons (OpV.t rfl) (OpVs.cons OpV.c (OpVs.cons OpV.c (OpVs.nil)))) (by exact fun hg w F hF hM => i_within_walk w ((GT.dat a0_8).length : Int) 1 4  _ hy14) ?_
            refine s3 ?_
            refine D_callX (GC.some rfl rfl) fn151.h (OpVs.cons (OpV.s rfl) (OpVs.nil)) (by exact fun hg w F hF hM => i_areChunks_walk w a0_8 (RdT.nowS (RdT.old h0.2.2.2.2.2.2.2) hF hM) _ (hy15 hg.2)) ?_
            refine s14 ?_
            obtain rfl := Option.some.inj hp
            refine s1 ?_
            refine res1 rfl (ResOK.tmp rfl) ⟨rfl, rfl⟩ ms
          · replace hp := cond_f hc13 hp
            refine s9 ?_
            obtain rfl := Option.some.inj hp
            refine s1 ?_
            refine res1 rfl (ResOK.tmp rfl) ⟨rfl, rfl⟩ ms
end Go.Proofs.SL
namespace Go.Proofs.SL
open Go
set_option maxHeartbeats 2000000
instance fn136 : FnF Try.prog 136 := ⟨⟨_, Try.func136, by kernel_rfl, rfl⟩⟩
instance fn93 : FnF Try.prog 93 := ⟨⟨_, Try.func93, by kernel_rfl, rfl⟩⟩
instance fn46 : FnF Try.prog 46 := ⟨⟨_, Try.func46, by kernel_rfl, rfl⟩⟩
instance fn43 : FnF Try.prog 43 := ⟨⟨_, Try.func43, by kernel_rfl, rfl⟩⟩
instance fn58 : FnF Try.prog 58 := ⟨⟨_, Try.func58, by kernel_rfl, rfl⟩⟩
instance fn92 : FnF Try.prog 92 := ⟨⟨_, Try.func92, by kernel_rfl, rfl⟩⟩
instance fn110 : FnF Try.prog 110 := ⟨⟨_, Try.func110, by kernel_rfl, rfl⟩⟩
instance fn47 : FnF Try.prog 47 := ⟨⟨_, Try.func47, by kernel_rfl, rfl⟩⟩
instance fn114 : FnF Try.prog 114 := ⟨⟨_, Try.func114, by kernel_rfl, rfl⟩⟩
instance fn9 : FnF Try.prog 9 := ⟨⟨_, Try.func9, by kernel_rfl, rfl⟩⟩
instance fn41 : FnF Try.prog 41 := ⟨⟨_, Try.func41, by kernel_rfl, rfl⟩⟩
instance fn42 : FnF Try.prog 42 := ⟨⟨_, Try.func42, by kernel_rfl, rfl⟩⟩
instance fn44 : FnF Try.prog 44 := ⟨⟨_, Try.func44, by kernel_rfl, rfl⟩⟩
instance fn45 : FnF Try.prog 45 := ⟨⟨_, Try.func45, by kernel_rfl, rfl⟩⟩
instance und4 : UndF Try.prog 4 (.bool) := ⟨by kernel_rfl⟩
instance fn49 : FnF Try.prog 49 := ⟨⟨_, Try.func49, by kernel_rfl, rfl⟩⟩
instance fn50 : FnF Try.prog 50 := ⟨⟨_, Try.func50, by kernel_rfl, rfl⟩⟩
instance fn51 : FnF Try.prog 51 := ⟨⟨_, Try.func51, by kernel_rfl, rfl⟩⟩
instance fn52 : FnF Try.prog 52 := ⟨⟨_, Try.func52, by kernel_rfl, rfl⟩⟩
noncomputable def s_UpNext (a0 : D_Ups) : Option (D_Ups × Bool) :=
  Option.bind (s_UpsOk (a0.1, a0.2)) (fun y1 => cond (!y1) (some ((0, ([] : List D_Up)), false)) (Option.bind (s_l18Copy (a0.1, a0.2)) (fun y3 => cond (decide (1000 ≤ a0.1)) (some ((y3.1, y3.2), false)) (some ((IntKind.wrap .i64 (y3.1 + 1), y3.2), true)))))
theorem s_UpNext_walk (w : World) (a0 : T_Ups) (h0 : GT.rd w [] a0) (r : D_Ups × Bool) (hp : s_UpNext (GT.dat a0) = some r) : Spec Try.prog 136 [.agg (GT.cells a0).toArray].toArray w [] (fun v M => ∃ (x0 : T_Ups) (x1 : Bool), v = .tuple #[.agg (GT.cells x0).toArray, .bool x1] ∧ (GT.dat x0, GT.dat x1) = r ∧ M = [treeH x0]) := by
  obtain ⟨a0_1, a0_2⟩ := a0
  change Spec _ _ ([Value.agg #[.int .i64 a0_1, (TL.hdr a0_2)]] : List Value).toArray w [] _
  refine Spec.intro Try.func136 rfl Try.ntmps136 rfl ?_
  unfold s_UpNext at hp
  replace hp := dd hp
  refine s2 ?_
  refine bx fun bk1 => ?_
  refine al fun bk2 => ?_
  refine s6 ?_
  replace hp := ba hp; obtain ⟨y1, hy1, hp⟩ := hp
  refine L_callX rfl fn48.h rfl (by exact fun w hw => s_UpsOk_walk w (a0_1, a0_2) (RdT.now (RdT.pair RdT.int (RdT.old h0.2)) hw) _ hy1) ?_
  refine s2 ?_
  refine kp [1, 2, 7] ?_
  refine W_cond rfl (fun hc2 => ?_) (fun hc2 => ?_)
  · replace hp := cond_t hc2 hp
    refine s2 ?_
    refine L_build (xs := []) (cs := [.int .i64 0, (TL.hdr (TL.nil T_Up 0))]) rfl rfl bld71.h rfl ?_
    refine s3 ?_
    obtain rfl := Option.some.inj hp
    refine W_conv (M' := treeH (TL.nil T_Up 0) :: _) (fun w h => addNilT (τ := T_Up) 0 h) ?_
    refine jW ((0, (TL.nil T_Up 0)) : T_Ups) ?_
    refine s1 ?_
    refine res2 rfl (ResOK.cell rfl mm (by exact agg71.h)) (ResOK.tmp rfl) ⟨(0, (TL.nil T_Up 0)), false, rfl, rfl, rfl⟩ ms
  · replace hp := cond_f hc2 hp
    refine s4 ?_
    replace hp := ba hp; obtain ⟨y3, hy3, hp⟩ := hp
    refine L_callR rfl fn103.h rfl (by exact fun w hw => s_l18Copy_walk w (a0_1, a0_2) (RdT.now (RdT.pair RdT.int (RdT.old h0.2)) hw) _ hy3) ?_
    rintro _ _ ⟨⟨y3x0_1, y3x0_2⟩, rfl, rfl, rfl⟩
    refine sc ?_
    replace hp := dd hp
    refine xL ((y3x0_1, y3x0_2) : T_Ups) ?_
    refine al fun bk4 => ?_
    refine s9 ?_
    refine kp [2, 4, 13] ?_
    refine W_cond rfl (fun hc4 => ?_) (fun hc4 => ?_)
    · replace hp := cond_t hc4 hp
      refine s6 ?_
      obtain rfl := Option.some.inj hp
      refine jW ((y3x0_1, y3x0_2) : T_Ups) ?_
      refine s1 ?_
      refine res2 rfl (ResOK.cell rfl mm (by exact agg71.h)) (ResOK.tmp rfl) ⟨(y3x0_1, y3x0_2), false, rfl, rfl, rfl⟩ ms
    · replace hp := cond_f hc4 hp
      refine s15 ?_
      obtain rfl := Option.some.inj hp
      refine jW ((IntKind.wrap .i64 (y3x0_1 + 1), y3x0_2) : T_Ups) ?_
      refine s1 ?_
      refine res2 rfl (ResOK.cell rfl mm (by exact agg71.h)) (ResOK.tmp rfl) ⟨(IntKind.wrap .i64 (y3x0_1 + 1), y3x0_2), true, rfl, rfl, rfl⟩ ms
noncomputable def s_l18Chunk (a0 : D_l1Cur) : Option (ByteArray × D_l1Cur) :=
  Option.bind (s_l1Once (a0.1, a0.2.1, a0.2.2) 25) (fun y1 => cond y1.1 (Option.bind (s_l1Text (y1.2.1, y1.2.2.1, y1.2.2.2) 9) (fun y3 => some (y3.1, (y3.2.1, y3.2.2.1, y3.2.2.2)))) (Option.bind (s_l1Below (y1.2.1, y1.2.2.1, y1.2.2.2) 5) (fun y4 => Option.bind (u8P (IntKind.wrap .u8 y4.1)) (fun y5 => Option.bind (some ([y5] : List UInt8)) (fun y6 => Option.bind (s_Short (strP y6)) (fun y8 => some (y8, (y4.2.1, y4.2.2.1, y4.2.2.2))))))))
theorem s_l18Chunk_walk (w : World) (b0_ : Nat) (a0 : T_l1Cur) (h0_0 : GT.rd w (fps [blk b0_ (GT.cells a0) 144]) a0.1) (r : ByteArray × D_l1Cur) (hp : s_l18Chunk (GT.dat a0) = some r) : Spec Try.prog 93 [Value.pointer (some ⟨b0_, 0, none⟩)].toArray w [blk b0_ (GT.cells a0) 144] (fun v M => ∃ (x0 : ByteArray) (y0 : T_l1Cur), v = .string x0 ∧ (GT.dat x0, GT.dat y0) = r ∧ M = [blk b0_ (GT.cells y0) 144] ∧ y0.1 = a0.1) := by
  obtain ⟨a0_1, a0_2, a0_3⟩ := a0
  change Spec _ _ ([Value.pointer (some ⟨b0_, 0, none⟩)] : List Value).toArray w _ _
  refine Spec.intro Try.func93 rfl Try.ntmps93 rfl ?_
  unfold s_l18Chunk at hp
  replace hp := dd hp
  refine s8 ?_
  replace hp := ba hp; obtain ⟨y1, hy1, hp⟩ := hp
  refine L_callM [blk b0_ _ _] _ rfl fn89.h rfl pc (by exact fun w hw => s_l1Once_walk w b0_ (a0_1, a0_2, a0_3) 25 ((RdX.old h0_0) w hw) _ hy1) ?_
  rintro _ _ ⟨y1x0, ⟨y1y0_1, y1y0_2, y1y0_3⟩, rfl, rfl, rfl, hey1_0⟩
  obtain rfl : a0_1 = y1y0_1 := hey1_0.symm
  refine sc ?_
  replace hp := dd hp
  refine s1 ?_
  refine kp [0, 4] ?_
  refine W_cond rfl (fun hc2 => ?_) (fun hc2 => ?_)
  · replace hp := cond_t hc2 hp
    refine s3 ?_
    replace hp := ba hp; obtain ⟨y3, hy3, hp⟩ := hp
    refine L_callM [blk b0_ _ _] _ rfl fn60.h rfl pc (by exact fun w hw => s_l1Text_walk w b0_ (a0_1, y1y0_2, y1y0_3) 9 ((RdX.old h0_0) w hw) _ hy3) ?_
    rintro _ _ ⟨y3x0, ⟨y3y0_1, y3y0_2, y3y0_3⟩, rfl, rfl, rfl, hey3_0⟩
    obtain rfl : a0_1 = y3y0_1 := hey3_0.symm
    refine sc ?_
    replace hp := dd hp
    refine s2 ?_
    obtain rfl := Option.some.inj hp
    refine s1 ?_
    refine res1 rfl (ResOK.tmp rfl) ⟨y3x0, (a0_1, y3y0_2, y3y0_3), rfl, rfl, rfl, rfl⟩ ms
  · replace hp := cond_f hc2 hp
    refine s4 ?_
    replace hp := ba hp; obtain ⟨y4, hy4, hp⟩ := hp
    refine L_callM [blk b0_ _ _] _ rfl fn59.h rfl pc (by exact fun w hw => s_l1Below_walk w b0_ (a0_1, y1y0_2, y1y0_3) 5 ((RdX.old h0_0) w hw) _ hy4) ?_
    rintro _ _ ⟨y4x0, ⟨y4y0_1, y4y0_2, y4y0_3⟩, rfl, rfl, rfl, hey4_0⟩
    obtain rfl : a0_1 = y4y0_1 := hey4_0.symm
    refine sc ?_
    replace hp := dd hp
    refine L_convInt rfl rfl und5.h (by rw [und3.h]; rfl) ?_
    replace hp := ba hp; obtain ⟨y5, hy5, hp⟩ := hp
    have ey5 := u8P_some hy5
    try simp only [dat_u8] at ey5
    try simp only [ey5]
    replace hp := ba hp; obtain ⟨y6, hy6, hp⟩ := hp
    refine L_bsN ([y5] : List UInt8) (xs := [(0, .tmp 9)]) rfl rfl el22.h rfl rfl rfl rfl rfl rfl rfl hy6 (fun X7 hdX7 => ?_)
    subst hdX7
    refine L_toStr (X := X7) rfl rfl und22.h und5.h und9.h (RdT.tree mm) ?_
    replace hp := ba hp; obtain ⟨y8, hy8, hp⟩ := hp
    refine L_callX rfl fn111.h rfl (by exact fun w hw => s_Short_walk w (strP (GT.dat X7))  _ hy8) ?_
    refine s2 ?_
    obtain rfl := Option.some.inj hp
    refine s1 ?_
    refine res1 rfl (ResOK.tmp rfl) ⟨y8, (a0_1, y4y0_2, y4y0_3), rfl, rfl, rfl, rfl⟩ ms
noncomputable def s_l18Some (a0 : D_l1Cur) : Option (D_Ups × D_l1Cur) :=
  Option.bind (s_l1Below (a0.1, a0.2.1, a0.2.2) 16) (fun y1 => whileP (fun s2 : Int × Int × Int × Int × (List D_Up) => cond (decide (0 < s2.1)) (Option.bind (s_l1Below (y1.2.1, s2.2.1, s2.2.2.1) 6) (fun y4 => cond (decide (y4.1 = 0)) (Option.bind (s_UpNext (s2.2.2.2.1, s2.2.2.2.2)) (fun y6 => some (.inl ((IntKind.wrap .i64 (s2.1 - 1), y4.2.2.1, y4.2.2.2, y6.1.1, y6.1.2))))) (cond (decide (y4.1 = 1)) (Option.bind (s_l18Chunk (y4.2.1, y4.2.2.1, y4.2.2.2)) (fun y9 => Option.bind (s_l1Below (y9.2.1, y9.2.2.1, y9.2.2.2) 3) (fun y11 => Option.bind (s_UpLost (s2.2.2.2.1, s2.2.2.2.2) y9.1 y11.1) (fun y13 => some (.inl ((IntKind.wrap .i64 (s2.1 - 1), y11.2.2.1, y11.2.2.2, y13.1.1, y13.1.2))))))) (Option.bind (s_l18Chunk (y4.2.1, y4.2.2.1, y4.2.2.2)) (fun y15 => Option.bind (s_l1Below (y15.2.1, y15.2.2.1, y15.2.2.2) 3) (fun y17 => Option.bind (s_UpAck (s2.2.2.2.1, s2.2.2.2.2) y15.1 y17.1) (fun y19 => some (.inl ((IntKind.wrap .i64 (s2.1 - 1), y17.2.2.1, y17.2.2.2, y19.1.1, y19.1.2)))))))))) (Option.map .inr (Option.bind (s_l1Once (y1.2.1, s2.2.1, s2.2.2.1) 10) (fun y21 => cond y21.1 (Option.bind (s_l1Below (y21.2.1, y21.2.2.1, y21.2.2.2) 3) (fun y23 => cond (decide (y23.1 = 0)) (Option.bind (some ([(-1), 0, 1000, 1001] : List Int)) (fun y25 => Option.bind (s_l1PickInt (y23.2.1, y23.2.2.1, y23.2.2.2) y25) (fun y27 => some ((y27.1, s2.2.2.2.2), (y27.2.1, y27.2.2.1, y27.2.2.2))))) (cond (decide (y23.1 = 1)) (Option.bind (s_l18Chunk (y23.2.1, y23.2.2.1, y23.2.2.2)) (fun y29 => Option.bind (s_l1Below (y29.2.1, y29.2.2.1, y29.2.2.2) 4) (fun y30 => Option.bind (some ([y30.1] : List Int)) (fun y31 => Option.bind (appP s2.2.2.2.2 [(y29.1, y31, 0)]) (fun y34 => some ((s2.2.2.2.1, y34), (y30.2.1, y30.2.2.1, y30.2.2.2))))))) (cond (decide (0 < (s2.2.2.2.2.length : Int))) (Option.bind (some ([] : List Int)) (fun y37 => Option.bind (idx s2.2.2.2.2 0) (fun y38 => Option.bind (some (s2.2.2.2.2.set ((0 : Int).toNat) (y38.1, y37, y38.2.2))) (fun y39 => some ((s2.2.2.2.1, y39), (y23.2.1, y23.2.2.1, y23.2.2.2)))))) (some ((s2.2.2.2.1, s2.2.2.2.2), (y23.2.1, y23.2.2.1, y23.2.2.2))))))) (some ((s2.2.2.2.1, s2.2.2.2.2), (y21.2.1, y21.2.2.1, y21.2.2.2))))))) (y1.1, y1.2.2.1, y1.2.2.2, 0, ([] : List D_Up)))
theorem s_l18Some_walk (w : World) (b0_ : Nat) (a0 : T_l1Cur) (h0_0 : GT.rd w (fps [blk b0_ (GT.cells a0) 144]) a0.1) (r : D_Ups × D_l1Cur) (hp : s_l18Some (GT.dat a0) = some r) : Spec Try.prog 92 [Value.pointer (some ⟨b0_, 0, none⟩)].toArray w [blk b0_ (GT.cells a0) 144] (fun v M => ∃ (x0 : T_Ups) (y0 : T_l1Cur), v = .agg (GT.cells x0).toArray ∧ (GT.dat x0, GT.dat y0) = r ∧ M = [treeH x0, blk b0_ (GT.cells y0) 144] ∧ y0.1 = a0.1) := by
  obtain ⟨a0_1, a0_2, a0_3⟩ := a0
  change Spec _ _ ([Value.pointer (some ⟨b0_, 0, none⟩)] : List Value).toArray w _ _
  refine Spec.intro Try.func92 rfl Try.ntmps92 rfl ?_
  unfold s_l18Some at hp
  replace hp := dd hp
  refine s2 ?_
  refine al fun bk2 => ?_
  refine s3 ?_
  refine L_build (xs := []) (cs := [.int .i64 0, (TL.hdr (TL.nil T_Up 0))]) rfl rfl bld71.h rfl ?_
  refine al fun bk3 => ?_
  refine s6 ?_
  replace hp := ba hp; obtain ⟨y1, hy1, hp⟩ := hp
  refine L_callM [blk b0_ _ _] _ rfl fn59.h rfl pc (by exact fun w hw => s_l1Below_walk w b0_ (a0_1, a0_2, a0_3) 16 ((RdX.old h0_0) w hw) _ hy1) ?_
  rintro _ _ ⟨y1x0, ⟨y1y0_1, y1y0_2, y1y0_3⟩, rfl, rfl, rfl, hey1_0⟩
  obtain rfl : a0_1 = y1y0_1 := hey1_0.symm
  refine sc ?_
  replace hp := dd hp
  refine s3 ?_
  refine W_conv (M' := treeH (TL.nil T_Up 0) :: _) (fun w h => addNilT (τ := T_Up) 0 h) ?_
  refine W_while (σ := Int × Int × Int × Int × (TL T_Up)) GT.dat (fun ((v2_0, v2_1, v2_2, v2_3, v2_4) : Int × Int × Int × Int × (TL T_Up)) => [(4, .int .i64 v2_0)]) (fun ((v2_0, v2_1, v2_2, v2_3, v2_4) : Int × Int × Int × Int × (TL T_Up)) => [blk b0_ [(TL.hdr a0_1), .int .i64 v2_1, .int .i64 v2_2] 144, blk bk3 [.int .i64 v2_3, (TL.hdr v2_4)] 71, treeH v2_4]) [(0, _), (2, _), (3, _)] [blk bk2 _ _] (y1x0, y1y0_2, y1y0_3, 0, (TL.nil T_Up 0)) hp sb ms ?_
  clear hp
  rintro ⟨v2_0, v2_1, v2_2, v2_3, v2_4⟩ x2 hp hx2
  replace hp := dd hp
  refine kq [0, 2, 3, 4] ?_
  refine s6 ?_
  refine kp [0, 2, 3, 4, 15] ?_
  refine W_cond rfl (fun hc3 => ?_) (fun hc3 => ?_)
  · replace hp := cond_t hc3 hp
    refine s6 ?_
    replace hp := ba hp; obtain ⟨y4, hy4, hp⟩ := hp
    refine L_callM [blk b0_ _ _] _ rfl fn59.h rfl pc (by exact fun w hw => s_l1Below_walk w b0_ (a0_1, v2_1, v2_2) 6 ((RdX.old h0_0) w hw) _ hy4) ?_
    rintro _ _ ⟨y4x0, ⟨y4y0_1, y4y0_2, y4y0_3⟩, rfl, rfl, rfl, hey4_0⟩
    obtain rfl : a0_1 = y4y0_1 := hey4_0.symm
    refine sc ?_
    replace hp := dd hp
    refine s7 ?_
    refine kp [0, 2, 3, 4, 19, 30] ?_
    refine W_cond rfl (fun hc5 => ?_) (fun hc5 => ?_)
    · replace hp := cond_t hc5 hp
      refine s3 ?_
      replace hp := ba hp; obtain ⟨y6, hy6, hp⟩ := hp
      refine L_callR rfl fn136.h rfl (by exact fun w hw => s_UpNext_walk w (v2_3, v2_4) (RdT.now (RdT.pair RdT.int (RdT.tree mm)) hw) _ hy6) ?_
      rintro _ _ ⟨⟨y6x0_1, y6x0_2⟩, y6x1, rfl, rfl, rfl⟩
      refine sc ?_
      replace hp := dd hp
      refine xL ((y6x0_1, y6x0_2) : T_Ups) ?_
      refine s3 ?_
      refine al fun bk5 => ?_
      refine s12 ?_
      exact ⟨(IntKind.wrap .i64 (v2_0 - 1), y4y0_2, y4y0_3, y6x0_1, y6x0_2), sb, (.sub ms), some_eq hp⟩
    · replace hp := cond_f hc5 hp
      refine s5 ?_
      refine kp [0, 2, 3, 4, 38] ?_
      refine W_cond rfl (fun hc7 => ?_) (fun hc7 => ?_)
      · replace hp := cond_t hc7 hp
        refine s1 ?_
        refine W_AP [] 9 7 [.int .i64 0, .slice none 0 0] 71 11 mix rfl ?_
        refine AP_A [blk bk3 [.int .i64 v2_3, (TL.hdr v2_4)] 71] trivial ?_
        refine AP_take 0 rfl (PU_loadW rfl rfl (RdC.blk mm) (by exact agg71.h)) (by kernel_rfl) (by kernel_rfl) (by kernel_rfl) (by kernel_rfl) (by kernel_rfl) rfl rfl rfl ⟨mm, trivial⟩ ?_
        refine AP_take 1 rfl (PU_move rfl rfl) (by kernel_rfl) (by kernel_rfl) (by kernel_rfl) (by kernel_rfl) (by kernel_rfl) rfl rfl rfl ⟨mm, trivial⟩ ?_
        refine AP_take 3 rfl (PU_move rfl rfl) (by kernel_rfl) (by kernel_rfl) (by kernel_rfl) (by kernel_rfl) (by kernel_rfl) rfl rfl rfl ⟨mm, trivial⟩ ?_
        refine AP_step 2 rfl rfl (by first | exact .inl (by kernel_rfl) | exact .inr (by kernel_rfl)) (by kernel_rfl) rfl rfl rfl rfl rfl (fun l M => L_alloc rfl zero71.h (fun b => L_nil ⟨b, rfl, rfl⟩)) ⟨mm, trivial⟩ (fun fr8 => ?_)
        replace hp := ba hp; obtain ⟨y9, hy9, hp⟩ := hp
        refine L_callM [blk b0_ _ _] _ rfl fn93.h rfl pc (by exact fun w hw => s_l18Chunk_walk w b0_ (a0_1, y4y0_2, y4y0_3) ((RdX.old h0_0) w hw) _ hy9) ?_
        rintro _ _ ⟨y9x0, ⟨y9y0_1, y9y0_2, y9y0_3⟩, rfl, rfl, rfl, hey9_0⟩
        obtain rfl : a0_1 = y9y0_1 := hey9_0.symm
        refine sc ?_
        replace hp := dd hp
        refine L_nil ⟨_, pk, ⟨mm, trivial⟩, rfl, ?_⟩
        refine AP_step 4 rfl rfl (by first | exact .inl (by kernel_rfl) | exact .inr (by kernel_rfl)) (by kernel_rfl) rfl rfl rfl rfl rfl (fun l M => L_alloc rfl zero71.h (fun b => L_nil ⟨b, rfl, rfl⟩)) ⟨mm, trivial⟩ (fun fr10 => ?_)
        replace hp := ba hp; obtain ⟨y11, hy11, hp⟩ := hp
        refine L_callM [blk b0_ _ _] _ rfl fn59.h rfl pc (by exact fun w hw => s_l1Below_walk w b0_ (a0_1, y9y0_2, y9y0_3) 3 ((RdX.old h0_0) w hw) _ hy11) ?_
        rintro _ _ ⟨y11x0, ⟨y11y0_1, y11y0_2, y11y0_3⟩, rfl, rfl, rfl, hey11_0⟩
        obtain rfl : a0_1 = y11y0_1 := hey11_0.symm
        refine sc ?_
        replace hp := dd hp
        refine L_nil ⟨_, pk, ⟨mm, trivial⟩, rfl, ?_⟩
        refine AP_step 5 rfl rfl (by first | exact .inl (by kernel_rfl) | exact .inr (by kernel_rfl)) (by kernel_rfl) rfl rfl rfl rfl rfl (fun l M => L_alloc rfl zero71.h (fun b => L_nil ⟨b, rfl, rfl⟩)) ⟨mm, trivial⟩ (fun fr12 => ?_)
        replace hp := ba hp; obtain ⟨y13, hy13, hp⟩ := hp
        refine L_callR rfl fn46.h rfl (by exact fun w hw => s_UpLost_walk w (v2_3, v2_4) y9x0 y11x0 (RdT.now (RdT.pair RdT.int (RdT.tree mm)) hw) _ hy13) ?_
        rintro _ _ ⟨⟨y13x0_1, y13x0_2⟩, y13x1, rfl, rfl, rfl⟩
        refine sc ?_
        replace hp := dd hp
        refine xL ((y13x0_1, y13x0_2) : T_Ups) ?_
        refine L_nil ⟨_, pk, ⟨mm, trivial⟩, rfl, ?_⟩
        refine AP_take 6 rfl (PU_move rfl rfl) (by kernel_rfl) (by kernel_rfl) (by kernel_rfl) (by kernel_rfl) (by kernel_rfl) rfl rfl rfl ⟨mm, trivial⟩ ?_
        refine AP_take 7 rfl (PU_extract rfl rfl rfl) (by kernel_rfl) (by kernel_rfl) (by kernel_rfl) (by kernel_rfl) (by kernel_rfl) rfl rfl rfl ⟨mm, trivial⟩ ?_
        refine AP_take 8 rfl (PU_extract rfl rfl rfl) (by kernel_rfl) (by kernel_rfl) (by kernel_rfl) (by kernel_rfl) (by kernel_rfl) rfl rfl rfl ⟨mm, trivial⟩ ?_
        refine AP_end (by kernel_rfl) rfl rfl (fun l M => L_alloc rfl zero71.h (fun b => L_nil ⟨b, rfl, rfl⟩)) ⟨mm, trivial⟩ (fun bk7 => ?_)
        refine AH_one 10 rfl rfl (by kernel_rfl) ?_
        refine s1 ?_
        refine L_nil ⟨⟨mm, trivial⟩, ?_⟩
        refine AH_one 11 rfl rfl (by kernel_rfl) ?_
        refine s1 ?_
        refine L_nil ⟨⟨mm, trivial⟩, ?_⟩
        refine AH_done (by kernel_rfl) ?_
        refine s9 ?_
        exact ⟨(IntKind.wrap .i64 (v2_0 - 1), y11y0_2, y11y0_3, y13x0_1, y13x0_2), sb, (.sub ms), some_eq hp⟩
      · replace hp := cond_f hc7 hp
        refine s1 ?_
        refine W_AP [] 9 9 [.int .i64 0, .slice none 0 0] 71 11 mix rfl ?_
        refine AP_A [blk bk3 [.int .i64 v2_3, (TL.hdr v2_4)] 71] trivial ?_
        refine AP_take 0 rfl (PU_loadW rfl rfl (RdC.blk mm) (by exact agg71.h)) (by kernel_rfl) (by kernel_rfl) (by kernel_rfl) (by kernel_rfl) (by kernel_rfl) rfl rfl rfl ⟨mm, trivial⟩ ?_
        refine AP_take 1 rfl (PU_move rfl rfl) (by kernel_rfl) (by kernel_rfl) (by kernel_rfl) (by kernel_rfl) (by kernel_rfl) rfl rfl rfl ⟨mm, trivial⟩ ?_
        refine AP_take 3 rfl (PU_move rfl rfl) (by kernel_rfl) (by kernel_rfl) (by kernel_rfl) (by kernel_rfl) (by kernel_rfl) rfl rfl rfl ⟨mm, trivial⟩ ?_
        refine AP_step 2 rfl rfl (by first | exact .inl (by kernel_rfl) | exact .inr (by kernel_rfl)) (by kernel_rfl) rfl rfl rfl rfl rfl (fun l M => L_alloc rfl zero71.h (fun b => L_nil ⟨b, rfl, rfl⟩)) ⟨mm, trivial⟩ (fun fr14 => ?_)
        replace hp := ba hp; obtain ⟨y15, hy15, hp⟩ := hp
        refine L_callM [blk b0_ _ _] _ rfl fn93.h rfl pc (by exact fun w hw => s_l18Chunk_walk w b0_ (a0_1, y4y0_2, y4y0_3) ((RdX.old h0_0) w hw) _ hy15) ?_
        rintro _ _ ⟨y15x0, ⟨y15y0_1, y15y0_2, y15y0_3⟩, rfl, rfl, rfl, hey15_0⟩
        obtain rfl : a0_1 = y15y0_1 := hey15_0.symm
        refine sc ?_
        replace hp := dd hp
        refine L_nil ⟨_, pk, ⟨mm, trivial⟩, rfl, ?_⟩
        refine AP_step 4 rfl rfl (by first | exact .inl (by kernel_rfl) | exact .inr (by kernel_rfl)) (by kernel_rfl) rfl rfl rfl rfl rfl (fun l M => L_alloc rfl zero71.h (fun b => L_nil ⟨b, rfl, rfl⟩)) ⟨mm, trivial⟩ (fun fr16 => ?_)
        replace hp := ba hp; obtain ⟨y17, hy17, hp⟩ := hp
        refine L_callM [blk b0_ _ _] _ rfl fn59.h rfl pc (by exact fun w hw => s_l1Below_walk w b0_ (a0_1, y15y0_2, y15y0_3) 3 ((RdX.old h0_0) w hw) _ hy17) ?_
        rintro _ _ ⟨y17x0, ⟨y17y0_1, y17y0_2, y17y0_3⟩, rfl, rfl, rfl, hey17_0⟩
        obtain rfl : a0_1 = y17y0_1 := hey17_0.symm
        refine sc ?_
        replace hp := dd hp
        refine L_nil ⟨_, pk, ⟨mm, trivial⟩, rfl, ?_⟩
        refine AP_step 5 rfl rfl (by first | exact .inl (by kernel_rfl) | exact .inr (by kernel_rfl)) (by kernel_rfl) rfl rfl rfl rfl rfl (fun l M => L_alloc rfl zero71.h (fun b => L_nil ⟨b, rfl, rfl⟩)) ⟨mm, trivial⟩ (fun fr18 => ?_)
        replace hp := ba hp; obtain ⟨y19, hy19, hp⟩ := hp
        refine L_callR rfl fn43.h rfl (by exact fun w hw => s_UpAck_walk w (v2_3, v2_4) y15x0 y17x0 (RdT.now (RdT.pair RdT.int (RdT.tree mm)) hw) _ hy19) ?_
        rintro _ _ ⟨⟨y19x0_1, y19x0_2⟩, y19x1, rfl, rfl, rfl⟩
        refine sc ?_
        replace hp := dd hp
        refine xL ((y19x0_1, y19x0_2) : T_Ups) ?_
        refine L_nil ⟨_, pk, ⟨mm, trivial⟩, rfl, ?_⟩
        refine AP_take 6 rfl (PU_move rfl rfl) (by kernel_rfl) (by kernel_rfl) (by kernel_rfl) (by kernel_rfl) (by kernel_rfl) rfl rfl rfl ⟨mm, trivial⟩ ?_
        refine AP_take 7 rfl (PU_extract rfl rfl rfl) (by kernel_rfl) (by kernel_rfl) (by kernel_rfl) (by kernel_rfl) (by kernel_rfl) rfl rfl rfl ⟨mm, trivial⟩ ?_
        refine AP_take 8 rfl (PU_extract rfl rfl rfl) (by kernel_rfl) (by kernel_rfl) (by kernel_rfl) (by kernel_rfl) (by kernel_rfl) rfl rfl rfl ⟨mm, trivial⟩ ?_
        refine AP_end (by kernel_rfl) rfl rfl (fun l M => L_alloc rfl zero71.h (fun b => L_nil ⟨b, rfl, rfl⟩)) ⟨mm, trivial⟩ (fun bk9 => ?_)
        refine AH_one 10 rfl rfl (by kernel_rfl) ?_
        refine s1 ?_
        refine L_nil ⟨⟨mm, trivial⟩, ?_⟩
        refine AH_one 11 rfl rfl (by kernel_rfl) ?_
        refine s1 ?_
        refine L_nil ⟨⟨mm, trivial⟩, ?_⟩
        refine AH_done (by kernel_rfl) ?_
        refine s9 ?_
        exact ⟨(IntKind.wrap .i64 (v2_0 - 1), y17y0_2, y17y0_3, y19x0_1, y19x0_2), sb, (.sub ms), some_eq hp⟩
  · replace hp := cond_f hc3 hp
    refine W_exit ?_
    replace hp := map_any hp; obtain ⟨a20, hp, hx_a20⟩ := hp
    obtain rfl := hx2 _ hx_a20
    refine s4 ?_
    replace hp := ba hp; obtain ⟨y21, hy21, hp⟩ := hp
    refine L_callM [blk b0_ _ _] _ rfl fn89.h rfl pc (by exact fun w hw => s_l1Once_walk w b0_ (a0_1, v2_1, v2_2) 10 ((RdX.old h0_0) w hw) _ hy21) ?_
    rintro _ _ ⟨y21x0, ⟨y21y0_1, y21y0_2, y21y0_3⟩, rfl, rfl, rfl, hey21_0⟩
    obtain rfl : a0_1 = y21y0_1 := hey21_0.symm
    refine sc ?_
    replace hp := dd hp
    refine s1 ?_
    refine kp [0, 2, 3, 51] ?_
    refine W_cond rfl (fun hc22 => ?_) (fun hc22 => ?_)
    · replace hp := cond_t hc22 hp
      refine s3 ?_
      replace hp := ba hp; obtain ⟨y23, hy23, hp⟩ := hp
      refine L_callM [blk b0_ _ _] _ rfl fn59.h rfl pc (by exact fun w hw => s_l1Below_walk w b0_ (a0_1, y21y0_2, y21y0_3) 3 ((RdX.old h0_0) w hw) _ hy23) ?_
      rintro _ _ ⟨y23x0, ⟨y23y0_1, y23y0_2, y23y0_3⟩, rfl, rfl, rfl, hey23_0⟩
      obtain rfl : a0_1 = y23y0_1 := hey23_0.symm
      refine sc ?_
      replace hp := dd hp
      refine s7 ?_
      refine kp [0, 2, 3, 53, 63] ?_
      refine W_cond rfl (fun hc24 => ?_) (fun hc24 => ?_)
      · replace hp := cond_t hc24 hp
        refine s2 ?_
        replace hp := ba hp; obtain ⟨y25, hy25, hp⟩ := hp
        refine L_bsN ([(-1), 0, 1000, 1001] : List Int) (xs := [(0, .const (.int .i64 (-1))), (1, .const (.int .i64 0)), (2, .const (.int .i64 1000)), (3, .const (.int .i64 1001))]) rfl rfl el34.h rfl rfl rfl rfl rfl rfl rfl hy25 (fun X26 hdX26 => ?_)
        subst hdX26
        replace hp := ba hp; obtain ⟨y27, hy27, hp⟩ := hp
        refine L_callM [blk b0_ _ _] _ rfl fn90.h rfl pc (by exact fun w hw => s_l1PickInt_walk w b0_ (a0_1, y23y0_2, y23y0_3) X26 ((RdX.tree mm) w hw) ((RdX.old h0_0) w hw) _ hy27) ?_
        rintro _ _ ⟨y27x0, ⟨y27y0_1, y27y0_2, y27y0_3⟩, rfl, rfl, rfl, hey27_0⟩
        obtain rfl : a0_1 = y27y0_1 := hey27_0.symm
        refine sc ?_
        replace hp := dd hp
        refine s8 ?_
        obtain rfl := Option.some.inj hp
        refine jW ((y27x0, v2_4) : T_Ups) ?_
        refine s1 ?_
        refine res1 rfl (ResOK.cell rfl mm (by exact agg71.h)) ⟨(y27x0, v2_4), (a0_1, y27y0_2, y27y0_3), rfl, rfl, rfl, rfl⟩ ms
      · replace hp := cond_f hc24 hp
        refine s5 ?_
        refine kp [0, 2, 3, 69] ?_
        refine W_cond rfl (fun hc28 => ?_) (fun hc28 => ?_)
        · replace hp := cond_t hc28 hp
          refine W_AG [] 11 mix ?_
          refine AG_take 0 [] rfl (PU_fieldAddr rfl rfl fld71_1.h) (by kernel_rfl) (by kernel_rfl) (by kernel_rfl) (by kernel_rfl) rfl (by kernel_rfl) trivial ?_
          refine AG_A [blk bk3 [.int .i64 v2_3, (TL.hdr v2_4)] 71] trivial ?_
          refine AG_take 1 [] rfl (PU_load rfl rfl (RdC.blk mm) one69.h rfl) (by kernel_rfl) (by kernel_rfl) (by kernel_rfl) (by kernel_rfl) rfl (by kernel_rfl) ⟨mm, trivial⟩ ?_
          refine AG_take 2 [] rfl (PU_move rfl rfl) (by kernel_rfl) (by kernel_rfl) (by kernel_rfl) (by kernel_rfl) rfl (by kernel_rfl) ⟨mm, trivial⟩ ?_
          refine AG_take 4 [] rfl (PU_move rfl rfl) (by kernel_rfl) (by kernel_rfl) (by kernel_rfl) (by kernel_rfl) rfl (by kernel_rfl) ⟨mm, trivial⟩ ?_
          refine AG_one 3 rfl rfl (by kernel_rfl) ?_
          replace hp := ba hp; obtain ⟨y29, hy29, hp⟩ := hp
          refine L_callM [blk b0_ _ _] _ rfl fn93.h rfl pc (by exact fun w hw => s_l18Chunk_walk w b0_ (a0_1, y23y0_2, y23y0_3) ((RdX.old h0_0) w hw) _ hy29) ?_
          rintro _ _ ⟨y29x0, ⟨y29y0_1, y29y0_2, y29y0_3⟩, rfl, rfl, rfl, hey29_0⟩
          obtain rfl : a0_1 = y29y0_1 := hey29_0.symm
          refine sc ?_
          replace hp := dd hp
          refine L_nil ⟨⟨mm, trivial⟩, ?_⟩
          refine AG_one 5 rfl rfl (by kernel_rfl) ?_
          replace hp := ba hp; obtain ⟨y30, hy30, hp⟩ := hp
          refine L_callM [blk b0_ _ _] _ rfl fn59.h rfl pc (by exact fun w hw => s_l1Below_walk w b0_ (a0_1, y29y0_2, y29y0_3) 4 ((RdX.old h0_0) w hw) _ hy30) ?_
          rintro _ _ ⟨y30x0, ⟨y30y0_1, y30y0_2, y30y0_3⟩, rfl, rfl, rfl, hey30_0⟩
          obtain rfl : a0_1 = y30y0_1 := hey30_0.symm
          refine sc ?_
          replace hp := dd hp
          refine L_nil ⟨⟨mm, trivial⟩, ?_⟩
          refine AG_one 6 rfl rfl (by kernel_rfl) ?_
          replace hp := ba hp; obtain ⟨y31, hy31, hp⟩ := hp
          refine L_bsN ([y30x0] : List Int) (xs := [(0, .tmp 76)]) rfl rfl el34.h rfl rfl rfl rfl rfl rfl rfl hy31 (fun X32 hdX32 => ?_)
          subst hdX32
          refine L_nil ⟨⟨mm, trivial⟩, ?_⟩
          refine AG_one 7 rfl rfl (by kernel_rfl) ?_
          refine L_build (xs := [(0, .tmp 74), (1, .tmp 77)]) (cs := [.string y29x0, (TL.hdr X32), .int .i64 0]) rfl rfl bld129.h rfl ?_
          refine L_nil ⟨⟨mm, trivial⟩, ?_⟩
          refine AG_one 8 rfl rfl (by kernel_rfl) ?_
          refine L_buildSlice1 rfl rfl el69.h rfl (by decide) (by decide) rfl (fun bb79 => ?_)
          refine L_nil ⟨⟨mm, trivial⟩, ?_⟩
          refine AG_one 9 rfl rfl (by kernel_rfl) ?_
          replace hp := ba hp; obtain ⟨y34, hy34, hp⟩ := hp
          refine jL ((y29x0, X32, 0) : T_Up) ?_
          refine L_app1 (X := v2_4) ((y29x0, X32, 0) : T_Up) rfl rfl rfl el69.h rfl rfl pk mm pk hy34 (by decide) (fun X33 hdX33 => ?_)
          subst hdX33
          refine L_nil ⟨⟨mm, trivial⟩, ?_⟩
          refine AG_take 10 [] rfl (PU_fieldAddr rfl rfl fld71_1.h) (by kernel_rfl) (by kernel_rfl) (by kernel_rfl) (by kernel_rfl) rfl (by kernel_rfl) ⟨mm, trivial⟩ ?_
          refine AG_last 11 rfl rfl (by kernel_rfl) (by kernel_rfl) ?_
          refine s2 ?_
          refine AG_done (by kernel_rfl) ?_
          refine s5 ?_
          obtain rfl := Option.some.inj hp
          refine jW ((v2_3, X33) : T_Ups) ?_
          refine s1 ?_
          refine res1 rfl (ResOK.cell rfl mm (by exact agg71.h)) ⟨(v2_3, X33), (a0_1, y30y0_2, y30y0_3), rfl, rfl, rfl, rfl⟩ ms
        · replace hp := cond_f hc28 hp
          refine s7 ?_
          refine kp [2, 3, 57] ?_
          refine W_cond rfl (fun hc35 => ?_) (fun hc35 => ?_)
          · replace hp := cond_t hc35 hp
            refine s3 ?_
            replace hp := ba hp; obtain ⟨y37, hy37, hp⟩ := hp
            refine L_mk0 Int rfl el34.h (fun X36 hdX36 => ?_)
            obtain rfl : GT.dat X36 = y37 := hdX36.trans (Option.some.inj hy37)
            clear hy37 hdX36
            replace hp := idx_bind hp; obtain ⟨⟨u38_1, u38_2, u38_3⟩, hy38, hp⟩ := hp
            refine L_idxA (X := v2_4) rfl rfl rfl el69.h (RdT.tree mm) hy38 ?_
            refine s1 ?_
            refine L_conv (M' := treeH (u38_1, u38_2, u38_3) :: holeH v2_4 ((0 : Int).toNat) (GT.cells (u38_1, u38_2, u38_3)) :: _) (fun w h => hole_open hy38.2 pk h) ?_
            refine xL ((u38_1, u38_2, u38_3) : T_Up) ?_
            refine L_stH (X := v2_4) (i := (0 : Int).toNat) (sz := 3) (fo := 1) (n := 1) rfl rfl pk rfl (.inr ⟨one34.h, rfl⟩) rfl (allOne rfl) (Nat.le_of_ble_eq_true rfl) ?_
            refine jL ((u38_1, X36, u38_3) : T_Up) ?_
            replace hp := ba hp; obtain ⟨y39, hy39, hp⟩ := hp
            refine L_close (X := v2_4) ((u38_1, X36, u38_3) : T_Up) rfl pk pk hy39 (fun X40 hdX40 hhX40 => ?_)
            subst hdX40
            try rw [← hhX40]
            try rw [← g_of_hdr hhX40]
            try rw [← o_of_hdr hhX40]
            refine s6 ?_
            obtain rfl := Option.some.inj hp
            refine jW ((v2_3, X40) : T_Ups) ?_
            refine s1 ?_
            refine res1 rfl (ResOK.cell rfl mm (by exact agg71.h)) ⟨(v2_3, X40), (a0_1, y23y0_2, y23y0_3), rfl, rfl, rfl, rfl⟩ ms
          · replace hp := cond_f hc35 hp
            refine s6 ?_
            obtain rfl := Option.some.inj hp
            refine jW ((v2_3, v2_4) : T_Ups) ?_
            refine s1 ?_
            refine res1 rfl (ResOK.cell rfl mm (by exact agg71.h)) ⟨(v2_3, v2_4), (a0_1, y23y0_2, y23y0_3), rfl, rfl, rfl, rfl⟩ ms
    · replace hp := cond_f hc22 hp
      refine s6 ?_
      obtain rfl := Option.some.inj hp
      refine jW ((v2_3, v2_4) : T_Ups) ?_
      refine s1 ?_
      refine res1 rfl (ResOK.cell rfl mm (by exact agg71.h)) ⟨(v2_3, v2_4), (a0_1, y21y0_2, y21y0_3), rfl, rfl, rfl, rfl⟩ ms
noncomputable def s_DrawUpAck (a0 : List UInt8) : Option (D_Ups × ByteArray × Int) :=
  Option.bind (s_l1New a0) (fun y1 => Option.bind (s_l18Some (y1.1, y1.2.1, y1.2.2)) (fun y2 => Option.bind (s_l18Chunk (y2.2.1, y2.2.2.1, y2.2.2.2)) (fun y3 => Option.bind (s_l1Below (y3.2.1, y3.2.2.1, y3.2.2.2) 5) (fun y4 => some ((y2.1.1, y2.1.2), y3.1, IntKind.wrap .i64 (y4.1 - 1))))))
theorem s_DrawUpAck_walk (w : World) (a0 : TL UInt8) (h0 : GT.rd w [] a0) (r : D_Ups × ByteArray × Int) (hp : s_DrawUpAck (GT.dat a0) = some r) : Spec Try.prog 41 [(TL.hdr a0)].toArray w [] (fun v M => ∃ (x0 : T_Ups) (x1 : ByteArray) (x2 : Int), v = .tuple #[.agg (GT.cells x0).toArray, .string x1, .int .i64 x2] ∧ (GT.dat x0, GT.dat x1, GT.dat x2) = r ∧ M = [treeH x0]) := by
  refine Spec.intro Try.func41 rfl Try.ntmps41 rfl ?_
  unfold s_DrawUpAck at hp
  replace hp := dd hp
  refine s2 ?_
  refine al fun bk2 => ?_
  refine s6 ?_
  replace hp := ba hp; obtain ⟨y1, hy1, hp⟩ := hp
  refine L_callR rfl fn58.h rfl (by exact fun w hw => s_l1New_walk w a0 (RdT.now (RdT.old h0) hw) _ hy1) ?_
  rintro _ _ ⟨bky1, ⟨y1x_1, y1x_2, y1x_3⟩, rfl, rfl, rfl, hey1_0⟩
  obtain rfl : a0 = y1x_1 := hey1_0.symm
  refine sc ?_
  replace hp := dd hp
  refine s5 ?_
  replace hp := ba hp; obtain ⟨y2, hy2, hp⟩ := hp
  refine L_callM [blk bky1 _ _] _ rfl fn92.h rfl pc (by exact fun w hw => s_l18Some_walk w bky1 (a0, y1x_2, y1x_3) ((RdX.old h0) w hw) _ hy2) ?_
  rintro _ _ ⟨⟨y2x0_1, y2x0_2⟩, ⟨y2y0_1, y2y0_2, y2y0_3⟩, rfl, rfl, rfl, hey2_0⟩
  obtain rfl : a0 = y2y0_1 := hey2_0.symm
  refine sc ?_
  replace hp := dd hp
  refine xL ((y2x0_1, y2x0_2) : T_Ups) ?_
  refine al fun bk6 => ?_
  refine s5 ?_
  replace hp := ba hp; obtain ⟨y3, hy3, hp⟩ := hp
  refine L_callM [blk bky1 _ _] _ rfl fn93.h rfl pc (by exact fun w hw => s_l18Chunk_walk w bky1 (a0, y2y0_2, y2y0_3) ((RdX.old h0) w hw) _ hy3) ?_
  rintro _ _ ⟨y3x0, ⟨y3y0_1, y3y0_2, y3y0_3⟩, rfl, rfl, rfl, hey3_0⟩
  obtain rfl : a0 = y3y0_1 := hey3_0.symm
  refine sc ?_
  replace hp := dd hp
  refine s3 ?_
  replace hp := ba hp; obtain ⟨y4, hy4, hp⟩ := hp
  refine W_DS (pre := [_, _, _, _, _, _, _, _]) (suf := []) [3, 4, 17] [blk bky1 _ 144, blk bk2 _ _] _ pc mix (by kernel_rfl) (by kernel_rfl) rfl ?_
  refine s3 ?_
  refine D_callM (fun v M => ∃ (x0 : Int) (y0 : T_l1Cur), v = .int .i64 x0 ∧ (GT.dat x0, GT.dat y0) = y4 ∧ M = [blk bky1 (GT.cells y0) 144] ∧ y0.1 = a0) [blk bky1 _ 144] pc fn59.h (OpVs.cons (OpV.t rfl) (OpVs.cons OpV.c (OpVs.nil))) (by exact fun w F hw hM => s_l1Below_walk w bky1 (a0, y3y0_2, y3y0_3) 5 ((RdX.old h0) w hw) _ hy4) ?_
  refine D_bin GC.none (show OpV _ _ _ (.int .i64 y4.1) from ⟨_, rfl, fun u M h hc => by obtain ⟨x0, z0, hv, hd, _⟩ := h; subst hd; exact hv⟩) OpV.c (fun hg => bv_sub) ?_
  refine D_storeW (OpV.t rfl) (OpV.t rfl) pk (by exact agg71.h) (by rfl) ocs ?_
  refine s7 ?_
  refine Give_R rfl rfl ?_
  rintro _ _ ⟨y4x0, ⟨y4y0_1, y4y0_2, y4y0_3⟩, rfl, rfl, rfl, hey4_0⟩
  obtain rfl : a0 = y4y0_1 := hey4_0.symm
  refine s4 ?_
  refine sc ?_
  replace hp := dd hp
  refine s1 ?_
  obtain rfl := Option.some.inj hp
  refine jW ((y2x0_1, y2x0_2) : T_Ups) ?_
  refine s1 ?_
  refine res3 rfl (ResOK.cell rfl mm (by exact agg71.h)) (ResOK.tmp rfl) (ResOK.tmp rfl) ⟨(y2x0_1, y2x0_2), y3x0, IntKind.wrap .i64 (y4x0 - 1), rfl, rfl, rfl⟩ ms
noncomputable def s_DrawUpLost (a0 : List UInt8) : Option (D_Ups × ByteArray × Int) :=
  Option.bind (s_l1New a0) (fun y1 => Option.bind (s_l18Some (y1.1, y1.2.1, y1.2.2)) (fun y2 => Option.bind (s_l18Chunk (y2.2.1, y2.2.2.1, y2.2.2.2)) (fun y3 => Option.bind (s_l1Below (y3.2.1, y3.2.2.1, y3.2.2.2) 4) (fun y4 => some ((y2.1.1, y2.1.2), y3.1, y4.1)))))
theorem s_DrawUpLost_walk (w : World) (a0 : TL UInt8) (h0 : GT.rd w [] a0) (r : D_Ups × ByteArray × Int) (hp : s_DrawUpLost (GT.dat a0) = some r) : Spec Try.prog 44 [(TL.hdr a0)].toArray w [] (fun v M => ∃ (x0 : T_Ups) (x1 : ByteArray) (x2 : Int), v = .tuple #[.agg (GT.cells x0).toArray, .string x1, .int .i64 x2] ∧ (GT.dat x0, GT.dat x1, GT.dat x2) = r ∧ M = [treeH x0]) := by
  refine Spec.intro Try.func44 rfl Try.ntmps44 rfl ?_
  unfold s_DrawUpLost at hp
  replace hp := dd hp
  refine s2 ?_
  refine al fun bk2 => ?_
  refine s6 ?_
  replace hp := ba hp; obtain ⟨y1, hy1, hp⟩ := hp
  refine L_callR rfl fn58.h rfl (by exact fun w hw => s_l1New_walk w a0 (RdT.now (RdT.old h0) hw) _ hy1) ?_
  rintro _ _ ⟨bky1, ⟨y1x_1, y1x_2, y1x_3⟩, rfl, rfl, rfl, hey1_0⟩
  obtain rfl : a0 = y1x_1 := hey1_0.symm
  refine sc ?_
  replace hp := dd hp
  refine s5 ?_
  replace hp := ba hp; obtain ⟨y2, hy2, hp⟩ := hp
  refine L_callM [blk bky1 _ _] _ rfl fn92.h rfl pc (by exact fun w hw => s_l18Some_walk w bky1 (a0, y1x_2, y1x_3) ((RdX.old h0) w hw) _ hy2) ?_
  rintro _ _ ⟨⟨y2x0_1, y2x0_2⟩, ⟨y2y0_1, y2y0_2, y2y0_3⟩, rfl, rfl, rfl, hey2_0⟩
  obtain rfl : a0 = y2y0_1 := hey2_0.symm
  refine sc ?_
  replace hp := dd hp
  refine xL ((y2x0_1, y2x0_2) : T_Ups) ?_
  refine al fun bk6 => ?_
  refine s5 ?_
  replace hp := ba hp; obtain ⟨y3, hy3, hp⟩ := hp
  refine L_callM [blk bky1 _ _] _ rfl fn93.h rfl pc (by exact fun w hw => s_l18Chunk_walk w bky1 (a0, y2y0_2, y2y0_3) ((RdX.old h0) w hw) _ hy3) ?_
  rintro _ _ ⟨y3x0, ⟨y3y0_1, y3y0_2, y3y0_3⟩, rfl, rfl, rfl, hey3_0⟩
  obtain rfl : a0 = y3y0_1 := hey3_0.symm
  refine sc ?_
  replace hp := dd hp
  refine s3 ?_
  replace hp := ba hp; obtain ⟨y4, hy4, hp⟩ := hp
  refine W_DS (pre := [_, _, _, _, _, _, _]) (suf := []) [3, 4, 17] [blk bky1 _ 144, blk bk2 _ _] _ pc mix (by kernel_rfl) (by kernel_rfl) rfl ?_
  refine s3 ?_
  refine D_callM (fun v M => ∃ (x0 : Int) (y0 : T_l1Cur), v = .int .i64 x0 ∧ (GT.dat x0, GT.dat y0) = y4 ∧ M = [blk bky1 (GT.cells y0) 144] ∧ y0.1 = a0) [blk bky1 _ 144] pc fn59.h (OpVs.cons (OpV.t rfl) (OpVs.cons OpV.c (OpVs.nil))) (by exact fun w F hw hM => s_l1Below_walk w bky1 (a0, y3y0_2, y3y0_3) 4 ((RdX.old h0) w hw) _ hy4) ?_
  refine D_storeW (OpV.t rfl) (OpV.t rfl) pk (by exact agg71.h) (by rfl) ocs ?_
  refine s1 ?_
  refine D_assign GC.none (show OpV _ _ _ (.int .i64 y4.1) from ⟨_, rfl, fun u M h hc => by obtain ⟨x0, z0, hv, hd, _⟩ := h; subst hd; exact hv⟩) ?_
  refine s4 ?_
  refine Give_R rfl rfl ?_
  rintro _ _ ⟨y4x0, ⟨y4y0_1, y4y0_2, y4y0_3⟩, rfl, rfl, rfl, hey4_0⟩
  obtain rfl : a0 = y4y0_1 := hey4_0.symm
  refine s4 ?_
  refine sc ?_
  replace hp := dd hp
  refine s1 ?_
  obtain rfl := Option.some.inj hp
  refine jW ((y2x0_1, y2x0_2) : T_Ups) ?_
  refine s1 ?_
  refine res3 rfl (ResOK.cell rfl mm (by exact agg71.h)) (ResOK.tmp rfl) (ResOK.tmp rfl) ⟨(y2x0_1, y2x0_2), y3x0, y4x0, rfl, rfl, rfl⟩ ms
noncomputable def s_DrawUpGate (a0 : List UInt8) : Option (D_Ups × D_Cmd) :=
  Option.bind (s_l1New a0) (fun y1 => Option.bind (s_l18Some (y1.1, y1.2.1, y1.2.2)) (fun y2 => Option.bind (s_l4Cmd (y2.2.1, y2.2.2.1, y2.2.2.2)) (fun y3 => Option.bind (s_l1Once (y3.2.1, y3.2.2.1, y3.2.2.2) 2) (fun y4 => cond y4.1 (Option.bind (s_l1Below (y4.2.1, y4.2.2.1, y4.2.2.2) 4) (fun y6 => Option.bind (u8P (IntKind.wrap .u8 y6.1)) (fun y7 => Option.bind (some ([y7] : List UInt8)) (fun y8 => Option.bind (s_Short (strP y8)) (fun y10 => Option.bind (some ([y10] : List ByteArray)) (fun y11 => some ((y2.1.1, y2.1.2), (3, 1, 1, (ByteArray.mk #[97]), (ByteArray.mk #[120]), ByteArray.empty, 0, y11)))))))) (some ((y2.1.1, y2.1.2), (y3.1.1, y3.1.2.1, y3.1.2.2.1, y3.1.2.2.2.1, y3.1.2.2.2.2.1, y3.1.2.2.2.2.2.1, y3.1.2.2.2.2.2.2.1, y3.1.2.2.2.2.2.2.2)))))))
theorem s_DrawUpGate_walk (w : World) (a0 : TL UInt8) (h0 : GT.rd w [] a0) (r : D_Ups × D_Cmd) (hp : s_DrawUpGate (GT.dat a0) = some r) : Spec Try.prog 50 [(TL.hdr a0)].toArray w [] (fun v M => ∃ (x0 : T_Ups) (x1 : T_Cmd), v = .tuple #[.agg (GT.cells x0).toArray, .agg (GT.cells x1).toArray] ∧ (GT.dat x0, GT.dat x1) = r ∧ M = [treeH x0, treeH x1]) := by
  refine Spec.intro Try.func50 rfl Try.ntmps50 rfl ?_
  unfold s_DrawUpGate at hp
  replace hp := dd hp
  refine s2 ?_
  refine al fun bk2 => ?_
  refine al fun bk3 => ?_
  refine s4 ?_
  replace hp := ba hp; obtain ⟨y1, hy1, hp⟩ := hp
  refine L_callR rfl fn58.h rfl (by exact fun w hw => s_l1New_walk w a0 (RdT.now (RdT.old h0) hw) _ hy1) ?_
  rintro _ _ ⟨bky1, ⟨y1x_1, y1x_2, y1x_3⟩, rfl, rfl, rfl, hey1_0⟩
  obtain rfl : a0 = y1x_1 := hey1_0.symm
  refine sc ?_
  replace hp := dd hp
  refine s5 ?_
  replace hp := ba hp; obtain ⟨y2, hy2, hp⟩ := hp
  refine L_callM [blk bky1 _ _] _ rfl fn92.h rfl pc (by exact fun w hw => s_l18Some_walk w bky1 (a0, y1x_2, y1x_3) ((RdX.old h0) w hw) _ hy2) ?_
  rintro _ _ ⟨⟨y2x0_1, y2x0_2⟩, ⟨y2y0_1, y2y0_2, y2y0_3⟩, rfl, rfl, rfl, hey2_0⟩
  obtain rfl : a0 = y2y0_1 := hey2_0.symm
  refine sc ?_
  replace hp := dd hp
  refine xL ((y2x0_1, y2x0_2) : T_Ups) ?_
  refine al fun bk5 => ?_
  refine s5 ?_
  replace hp := ba hp; obtain ⟨y3, hy3, hp⟩ := hp
  refine L_callM [blk bky1 _ _] _ rfl fn110.h rfl pc (by exact fun w hw => s_l4Cmd_walk w bky1 (a0, y2y0_2, y2y0_3) ((RdX.old h0) w hw) _ hy3) ?_
  rintro _ _ ⟨⟨y3x0_1, y3x0_2, y3x0_3, y3x0_4, y3x0_5, y3x0_6, y3x0_7, y3x0_8⟩, ⟨y3y0_1, y3y0_2, y3y0_3⟩, rfl, rfl, rfl, hey3_0⟩
  obtain rfl : a0 = y3y0_1 := hey3_0.symm
  refine sc ?_
  replace hp := dd hp
  refine xL ((y3x0_1, y3x0_2, y3x0_3, y3x0_4, y3x0_5, y3x0_6, y3x0_7, y3x0_8) : T_Cmd) ?_
  refine al fun bk6 => ?_
  refine s6 ?_
  replace hp := ba hp; obtain ⟨y4, hy4, hp⟩ := hp
  refine L_callM [blk bky1 _ _] _ rfl fn89.h rfl pc (by exact fun w hw => s_l1Once_walk w bky1 (a0, y3y0_2, y3y0_3) 2 ((RdX.old h0) w hw) _ hy4) ?_
  rintro _ _ ⟨y4x0, ⟨y4y0_1, y4y0_2, y4y0_3⟩, rfl, rfl, rfl, hey4_0⟩
  obtain rfl : a0 = y4y0_1 := hey4_0.symm
  refine sc ?_
  replace hp := dd hp
  refine s1 ?_
  refine kp [2, 3, 4, 5, 6, 14] ?_
  refine W_cond rfl (fun hc5 => ?_) (fun hc5 => ?_)
  · replace hp := cond_t hc5 hp
    refine s2 ?_
    replace hp := ba hp; obtain ⟨y6, hy6, hp⟩ := hp
    refine L_callM [blk bky1 _ _] _ rfl fn59.h rfl pc (by exact fun w hw => s_l1Below_walk w bky1 (a0, y4y0_2, y4y0_3) 4 ((RdX.old h0) w hw) _ hy6) ?_
    rintro _ _ ⟨y6x0, ⟨y6y0_1, y6y0_2, y6y0_3⟩, rfl, rfl, rfl, hey6_0⟩
    obtain rfl : a0 = y6y0_1 := hey6_0.symm
    refine sc ?_
    replace hp := dd hp
    refine L_convInt rfl rfl und5.h (by rw [und3.h]; rfl) ?_
    replace hp := ba hp; obtain ⟨y7, hy7, hp⟩ := hp
    have ey7 := u8P_some hy7
    try simp only [dat_u8] at ey7
    try simp only [ey7]
    replace hp := ba hp; obtain ⟨y8, hy8, hp⟩ := hp
    refine L_bsN ([y7] : List UInt8) (xs := [(0, .tmp 17)]) rfl rfl el22.h rfl rfl rfl rfl rfl rfl rfl hy8 (fun X9 hdX9 => ?_)
    subst hdX9
    refine L_toStr (X := X9) rfl rfl und22.h und5.h und9.h (RdT.tree mm) ?_
    replace hp := ba hp; obtain ⟨y10, hy10, hp⟩ := hp
    refine L_callX rfl fn111.h rfl (by exact fun w hw => s_Short_walk w (strP (GT.dat X9))  _ hy10) ?_
    replace hp := ba hp; obtain ⟨y11, hy11, hp⟩ := hp
    refine L_bsN ([y10] : List ByteArray) (xs := [(0, .tmp 20)]) rfl rfl el25.h rfl rfl rfl rfl rfl rfl rfl hy11 (fun X12 hdX12 => ?_)
    subst hdX12
    refine L_build (xs := [(0, .const (.int .i64 3)), (1, .const (.int .i64 1)), (2, .const (.int .i64 1)), (3, .const (.string (ByteArray.mk #[97]))), (4, .const (.string (ByteArray.mk #[120]))), (7, .tmp 21)]) (cs := [.int .i64 3, .int .i64 1, .int .i64 1, .string (ByteArray.mk #[97]), .string (ByteArray.mk #[120]), .string ByteArray.empty, .int .i64 0, (TL.hdr X12)]) rfl rfl bld79.h rfl ?_
    refine s3 ?_
    refine W_DS (pre := [_, _, _]) (suf := [_]) [24] [blk bk2 _ _] _ pc mix (by kernel_rfl) (by kernel_rfl) rfl ?_
    refine s2 ?_
    refine D_storeW (OpV.t rfl) (OpV.t rfl) pk (by exact agg71.h) (by rfl) ocs ?_
    refine s7 ?_
    obtain rfl := Option.some.inj hp
    refine jW ((y2x0_1, y2x0_2) : T_Ups) ?_
    refine jW ((3, 1, 1, (ByteArray.mk #[97]), (ByteArray.mk #[120]), ByteArray.empty, 0, X12) : T_Cmd) ?_
    refine s1 ?_
    refine res2 rfl (ResOK.cell rfl mm (by exact agg71.h)) (ResOK.cell rfl mm (by exact agg79.h)) ⟨(y2x0_1, y2x0_2), (3, 1, 1, (ByteArray.mk #[97]), (ByteArray.mk #[120]), ByteArray.empty, 0, X12), rfl, rfl, rfl⟩ ms
  · replace hp := cond_f hc5 hp
    refine s2 ?_
    refine W_DS (pre := [_, _, _]) (suf := [_]) [24] [blk bk2 _ _] _ pc mix (by kernel_rfl) (by kernel_rfl) rfl ?_
    refine s2 ?_
    refine D_storeW (OpV.t rfl) (OpV.t rfl) pk (by exact agg71.h) (by rfl) ocs ?_
    refine s7 ?_
    obtain rfl := Option.some.inj hp
    refine jW ((y2x0_1, y2x0_2) : T_Ups) ?_
    refine jW ((y3x0_1, y3x0_2, y3x0_3, y3x0_4, y3x0_5, y3x0_6, y3x0_7, y3x0_8) : T_Cmd) ?_
    refine s1 ?_
    refine res2 rfl (ResOK.cell rfl mm (by exact agg71.h)) (ResOK.cell rfl mm (by exact agg79.h)) ⟨(y2x0_1, y2x0_2), (y3x0_1, y3x0_2, y3x0_3, y3x0_4, y3x0_5, y3x0_6, y3x0_7, y3x0_8), rfl, rfl, rfl⟩ ms
noncomputable def i_UpGate (a0 : D_Ups) (a1 : D_Cmd) : Option Bool :=
  whileP (fun s1 : Int => cond (decide (s1 < (a1.2.2.2.2.2.2.2.length : Int))) (Option.bind (idx a1.2.2.2.2.2.2.2 s1) (fun y3 => Option.bind (i_UpHas (a0.1, a0.2) y3) (fun y4 => cond (decide (y4 < 2)) (Option.map .inr (some false)) (some (.inl (IntKind.wrap .i64 (s1 + 1))))))) (Option.map .inr (Option.bind (i_UpsOk (a0.1, a0.2)) (fun y8 => gb y8 (i_CmdOk (a1.1, a1.2.1, a1.2.2.1, a1.2.2.2.1, a1.2.2.2.2.1, a1.2.2.2.2.2.1, a1.2.2.2.2.2.2.1, a1.2.2.2.2.2.2.2)) (fun y9 => some (y8 && y9)))))) 0
theorem i_UpGate_walk (w : World) (a0 : T_Ups) (a1 : T_Cmd) (h0 : GT.rd w [] a0) (h1 : GT.rd w [] a1) (r : Bool) (hp : i_UpGate (GT.dat a0) (GT.dat a1) = some r) : Spec Try.prog 52 [.agg (GT.cells a0).toArray, .agg (GT.cells a1).toArray].toArray w [] (IsV (.bool r)) := by
  obtain ⟨a0_1, a0_2⟩ := a0
  obtain ⟨a1_1, a1_2, a1_3, a1_4, a1_5, a1_6, a1_7, a1_8⟩ := a1
  change Spec _ _ ([Value.agg #[.int .i64 a0_1, (TL.hdr a0_2)], Value.agg #[.int .i64 a1_1, .int .i64 a1_2, .int .i64 a1_3, .string a1_4, .string a1_5, .string a1_6, .int .i64 a1_7, (TL.hdr a1_8)]] : List Value).toArray w [] _
  refine Spec.intro Try.func52 rfl Try.ntmps52 rfl ?_
  unfold i_UpGate at hp
  replace hp := dd hp
  refine s2 ?_
  refine bx fun bk2 => ?_
  refine bx fun bk3 => ?_
  refine s11 ?_
  refine W_while (σ := Int) GT.dat (fun (v1_0 : Int) => [(10, .int .i64 v1_0)]) (fun (v1_0 : Int) => []) [(2, _), (3, _), (8, _), (9, _)] [blk bk2 _ _, blk bk3 _ _] 0 hp sb ms ?_
  clear hp
  rintro v1_0 x1 hp hx1
  replace hp := dd hp
  refine kq [2, 3, 8, 9, 10] ?_
  refine s5 ?_
  refine kp [2, 3, 8, 9, 10, 11] ?_
  refine W_cond rfl (fun hc2 => ?_) (fun hc2 => ?_)
  · replace hp := cond_t hc2 hp
    refine s5 ?_
    replace hp := idx_bind hp; obtain ⟨u3, hy3, hp⟩ := hp
    refine L_idxA (X := a1_8) rfl rfl rfl el25.h (RdT.old h1.2.2.2.2.2.2.2) hy3 ?_
    refine L_load0 rfl rfl (RdT.at (RdT.old h1.2.2.2.2.2.2.2) (hy3).2) one9.h rfl ?_
    refine s6 ?_
    replace hp := ba hp; obtain ⟨y4, hy4, hp⟩ := hp
    refine L_callX rfl fn47.h rfl (by exact fun w hw => i_UpHas_walk w (a0_1, a0_2) u3 (RdT.now (RdT.pair RdT.int (RdT.old h0.2)) hw) _ hy4) ?_
    refine s2 ?_
    refine kp [2, 3, 8, 9, 10, 17] ?_
    refine W_cond rfl (fun hc5 => ?_) (fun hc5 => ?_)
    · replace hp := cond_t hc5 hp
      refine s4 ?_
      replace hp := map_any hp; obtain ⟨a6, hp, hx_a6⟩ := hp
      obtain rfl := hx1 _ hx_a6
      obtain rfl := Option.some.inj hp
      refine s1 ?_
      refine res1 rfl (ResOK.tmp rfl) ⟨rfl, rfl⟩ ms
    · replace hp := cond_f hc5 hp
      refine s5 ?_
      exact ⟨IntKind.wrap .i64 (v1_0 + 1), sb, (.sub ms), some_eq hp⟩
  · replace hp := cond_f hc2 hp
    refine W_exit ?_
    replace hp := map_any hp; obtain ⟨a7, hp, hx_a7⟩ := hp
    obtain rfl := hx1 _ hx_a7
    refine s1 ?_
    replace hp := ba hp; obtain ⟨y8, hy8, hp⟩ := hp
    replace hp := gb_any hp; obtain ⟨y9, hy9, hp⟩ := hp
    refine W_D0 [4] mix (by kernel_rfl) rfl ?_
    refine s1 ?_
    refine D_callX GC.none fn94.h (OpVs.cons (OpV.t rfl) (OpVs.nil)) (by exact fun hg w F hF hM => i_UpsOk_walk w (a0_1, a0_2) (RdT.nowS (RdT.pair RdT.int (RdT.old h0.2)) hF hM) _ hy8) ?_
    refine s2 ?_
    refine D_callX (GC.some rfl rfl) fn114.h (OpVs.cons (OpV.s rfl) (OpVs.nil)) (by exact fun hg w F hF hM => i_CmdOk_walk w (a1_1, a1_2, a1_3, a1_4, a1_5, a1_6, a1_7, a1_8) (RdT.nowS (RdT.pair RdT.int (RdT.pair RdT.int (RdT.pair RdT.int (RdT.pair RdT.str (RdT.pair RdT.str (RdT.pair RdT.str (RdT.pair RdT.int (RdT.old h1.2.2.2.2.2.2.2)))))))) hF hM) _ (hy9 hg.2)) ?_
    refine s11 ?_
    obtain rfl := Option.some.inj hp
    refine s1 ?_
    refine res1 rfl (ResOK.tmp rfl) ⟨rfl, rfl⟩ ms
noncomputable def w_FnUploads (a0 : List UInt8) : Option Bool :=
  Option.bind (w_big a0) (fun y1 => cond y1 (some true) (Option.bind (s_DrawUpAck a0) (fun y3 => Option.bind (i_UpAck (y3.1.1, y3.1.2) y3.2.1 y3.2.2) (fun y4 => Option.bind (s_UpAck (y3.1.1, y3.1.2) y3.2.1 y3.2.2) (fun y5 => Option.bind (s_DrawUpLost a0) (fun y6 => Option.bind (i_UpLost (y6.1.1, y6.1.2) y6.2.1 y6.2.2) (fun y7 => Option.bind (s_UpLost (y6.1.1, y6.1.2) y6.2.1 y6.2.2) (fun y8 => gb ((!((!(y4.2 == y5.2)) || (!(y7.2 == y8.2)))) && y4.2) (i_UpHas (y4.1.1, y4.1.2) y3.2.1) (fun y9 => gb (((!((!(y4.2 == y5.2)) || (!(y7.2 == y8.2)))) && y4.2) && (!(decide (y9 < 1)))) (s_UpsOk (y4.1.1, y4.1.2)) (fun y10 => gb ((!(((!(y4.2 == y5.2)) || (!(y7.2 == y8.2))) || (y4.2 && ((decide (y9 < 1)) || (!y10))))) && y7.2) (i_UpHas (y7.1.1, y7.1.2) y6.2.1) (fun y11 => gb ((!(((!(y4.2 == y5.2)) || (!(y7.2 == y8.2))) || (y4.2 && ((decide (y9 < 1)) || (!y10))))) && y7.2) (s_UpHas (y6.1.1, y6.1.2) y6.2.1) (fun y12 => cond ((((!(y4.2 == y5.2)) || (!(y7.2 == y8.2))) || (y4.2 && ((decide (y9 < 1)) || (!y10)))) || (y7.2 && (!decide (y11 = IntKind.wrap .i64 (y12 - 1))))) (some false) (jbind (cond y4.2 (Option.bind (i_UpLost (y4.1.1, y4.1.2) y3.2.1 y3.2.2) (fun y16 => gb (!(!y16.2)) (i_UpHas (y16.1.1, y16.1.2) y3.2.1) (fun y17 => gb (!(!y16.2)) (i_UpHas (y4.1.1, y4.1.2) y3.2.1) (fun y18 => cond ((!y16.2) || (!decide (y17 = IntKind.wrap .i64 (y18 - 1)))) (Option.map .inr (some false)) (some (.inl ((0 : Int)))))))) (some (.inl ((0 : Int))))) (fun s14 : Int => Option.bind (s_DrawUpGate a0) (fun y21 => Option.bind (s_UpsOk (y21.1.1, y21.1.2)) (fun y22 => gb y22 (s_CmdOk (y21.2.1, y21.2.2.1, y21.2.2.2.1, y21.2.2.2.2.1, y21.2.2.2.2.2.1, y21.2.2.2.2.2.2.1, y21.2.2.2.2.2.2.2.1, y21.2.2.2.2.2.2.2.2)) (fun y23 => whileP (fun s24 : Bool × Int => cond (decide (s24.2 < (y21.2.2.2.2.2.2.2.2.length : Int))) (gb s24.1 (idx y21.2.2.2.2.2.2.2.2 s24.2) (fun y26 => gb s24.1 (s_UpHas (y21.1.1, y21.1.2) y26) (fun y27 => some (.inl (((s24.1 && (decide (2 ≤ y27))), IntKind.wrap .i64 (s24.2 + 1))))))) (Option.map .inr (Option.bind (i_UpGate (y21.1.1, y21.1.2) (y21.2.1, y21.2.2.1, y21.2.2.2.1, y21.2.2.2.2.1, y21.2.2.2.2.2.1, y21.2.2.2.2.2.2.1, y21.2.2.2.2.2.2.2.1, y21.2.2.2.2.2.2.2.2)) (fun y29 => gb (y29 == s24.1) (s_UpsOk (y6.1.1, y6.1.2)) (fun y30 => gb ((y29 == s24.1) && (!(!y30))) (s_UpsOk (y7.1.1, y7.1.2)) (fun y31 => some ((y29 == s24.1) && ((!y30) || y31)))))))) ((y22 && y23), 0))))))))))))))))))
theorem w_FnUploads_walk (w : World) (a0 : TL UInt8) (h0 : GT.rd w [] a0) (r : Bool) (hp : w_FnUploads (GT.dat a0) = some r) : Spec Try.prog 7 [(TL.hdr a0)].toArray w [] (IsV (.bool r)) := by
  refine Spec.intro Try.func7 rfl Try.ntmps7 rfl ?_
  unfold w_FnUploads at hp
  replace hp := dd hp
  refine s8 ?_
  replace hp := ba hp; obtain ⟨y1, hy1, hp⟩ := hp
  refine L_callX rfl fn9.h rfl (by exact fun w hw => w_big_walk w a0 (RdT.now (RdT.old h0) hw) _ hy1) ?_
  refine s1 ?_
  refine kp [0, 24] ?_
  refine W_cond rfl (fun hc2 => ?_) (fun hc2 => ?_)
  · replace hp := cond_t hc2 hp
    refine s4 ?_
    obtain rfl := Option.some.inj hp
    refine s1 ?_
    refine res1 rfl (ResOK.tmp rfl) ⟨rfl, rfl⟩ ms
  · replace hp := cond_f hc2 hp
    refine s4 ?_
    replace hp := ba hp; obtain ⟨y3, hy3, hp⟩ := hp
    refine L_callR rfl fn41.h rfl (by exact fun w hw => s_DrawUpAck_walk w a0 (RdT.now (RdT.old h0) hw) _ hy3) ?_
    rintro _ _ ⟨⟨y3x0_1, y3x0_2⟩, y3x1, y3x2, rfl, rfl, rfl⟩
    refine sc ?_
    replace hp := dd hp
    refine xL ((y3x0_1, y3x0_2) : T_Ups) ?_
    refine s4 ?_
    refine al fun bk3 => ?_
    refine s9 ?_
    replace hp := ba hp; obtain ⟨y4, hy4, hp⟩ := hp
    refine L_callR rfl fn42.h rfl (by exact fun w hw => i_UpAck_walk w (y3x0_1, y3x0_2) y3x1 y3x2 (RdT.now (RdT.pair RdT.int (RdT.tree mm)) hw) _ hy4) ?_
    rintro _ _ ⟨⟨y4x0_1, y4x0_2⟩, y4x1, rfl, rfl, rfl⟩
    refine sc ?_
    replace hp := dd hp
    refine xL ((y4x0_1, y4x0_2) : T_Ups) ?_
    refine s3 ?_
    refine al fun bk6 => ?_
    refine s8 ?_
    replace hp := ba hp; obtain ⟨y5, hy5, hp⟩ := hp
    refine L_callR rfl fn43.h rfl (by exact fun w hw => s_UpAck_walk w (y3x0_1, y3x0_2) y3x1 y3x2 (RdT.now (RdT.pair RdT.int (RdT.tree mm)) hw) _ hy5) ?_
    rintro _ _ ⟨⟨y5x0_1, y5x0_2⟩, y5x1, rfl, rfl, rfl⟩
    refine sc ?_
    replace hp := dd hp
    refine xL ((y5x0_1, y5x0_2) : T_Ups) ?_
    refine s3 ?_
    refine al fun bk8 => ?_
    refine s6 ?_
    replace hp := ba hp; obtain ⟨y6, hy6, hp⟩ := hp
    refine L_callR rfl fn44.h rfl (by exact fun w hw => s_DrawUpLost_walk w a0 (RdT.now (RdT.old h0) hw) _ hy6) ?_
    rintro _ _ ⟨⟨y6x0_1, y6x0_2⟩, y6x1, y6x2, rfl, rfl, rfl⟩
    refine sc ?_
    replace hp := dd hp
    refine xL ((y6x0_1, y6x0_2) : T_Ups) ?_
    refine s4 ?_
    refine al fun bk10 => ?_
    refine s9 ?_
    replace hp := ba hp; obtain ⟨y7, hy7, hp⟩ := hp
    refine L_callR rfl fn45.h rfl (by exact fun w hw => i_UpLost_walk w (y6x0_1, y6x0_2) y6x1 y6x2 (RdT.now (RdT.pair RdT.int (RdT.tree mm)) hw) _ hy7) ?_
    rintro _ _ ⟨⟨y7x0_1, y7x0_2⟩, y7x1, rfl, rfl, rfl⟩
    refine sc ?_
    replace hp := dd hp
    refine xL ((y7x0_1, y7x0_2) : T_Ups) ?_
    refine s3 ?_
    refine al fun bk13 => ?_
    refine s8 ?_
    replace hp := ba hp; obtain ⟨y8, hy8, hp⟩ := hp
    refine L_callR rfl fn46.h rfl (by exact fun w hw => s_UpLost_walk w (y6x0_1, y6x0_2) y6x1 y6x2 (RdT.now (RdT.pair RdT.int (RdT.tree mm)) hw) _ hy8) ?_
    rintro _ _ ⟨⟨y8x0_1, y8x0_2⟩, y8x1, rfl, rfl, rfl⟩
    refine sc ?_
    replace hp := dd hp
    refine xL ((y8x0_1, y8x0_2) : T_Ups) ?_
    refine s3 ?_
    refine al fun bk15 => ?_
    refine s5 ?_
    replace hp := gb_any hp; obtain ⟨y9, hy9, hp⟩ := hp
    replace hp := gb_any hp; obtain ⟨y10, hy10, hp⟩ := hp
    replace hp := gb_any hp; obtain ⟨y11, hy11, hp⟩ := hp
    replace hp := gb_any hp; obtain ⟨y12, hy12, hp⟩ := hp
    refine W_D0 [99] mix (by kernel_rfl) rfl ?_
    refine s13 ?_
    refine D_callX (GC.some rfl rfl) fn47.h (OpVs.cons (OpV.s rfl) (OpVs.cons (OpV.s rfl) (OpVs.nil))) (by exact fun hg w F hF hM => i_UpHas_walk w (y4x0_1, y4x0_2) y3x1 (RdT.nowS (RdT.pair RdT.int (RdT.tree mm)) hF hM) _ (hy9 (gand (gnot hg.1.2) hg.2))) ?_
    refine s3 ?_
    refine D_callX (GC.some rfl rfl) fn48.h (OpVs.cons (OpV.s rfl) (OpVs.nil)) (by exact fun hg w F hF hM => s_UpsOk_walk w (y4x0_1, y4x0_2) (RdT.nowS (RdT.pair RdT.int (RdT.tree mm)) hF hM) _ (hy10 (gand (gand (gnot hg.1.1.2) hg.1.2) (gnot hg.2)))) ?_
    refine s9 ?_
    refine D_callX (GC.some rfl rfl) fn47.h (OpVs.cons (OpV.s rfl) (OpVs.cons (OpV.s rfl) (OpVs.nil))) (by exact fun hg w F hF hM => i_UpHas_walk w (y7x0_1, y7x0_2) y6x1 (RdT.nowS (RdT.pair RdT.int (RdT.tree mm)) hF hM) _ (hy11 (gand (gnot hg.1.2) hg.2))) ?_
    refine s2 ?_
    refine D_callX (GC.some rfl rfl) fn49.h (OpVs.cons (OpV.s rfl) (OpVs.cons (OpV.s rfl) (OpVs.nil))) (by exact fun hg w F hF hM => s_UpHas_walk w (y6x0_1, y6x0_2) y6x1 (RdT.nowS (RdT.pair RdT.int (RdT.tree mm)) hF hM) _ (hy12 (gand (gnot hg.1.2) hg.2))) ?_
    refine s20 ?_
    refine s20 ?_
    refine s1 ?_
    refine kp [0, 4, 5, 6, 7, 10, 13, 99] ?_
    refine W_cond rfl (fun hc13 => ?_) (fun hc13 => ?_)
    · replace hp := cond_t hc13 hp
      refine s4 ?_
      obtain rfl := Option.some.inj hp
      refine s1 ?_
      refine res1 rfl (ResOK.tmp rfl) ⟨rfl, rfl⟩ ms
    · replace hp := cond_f hc13 hp
      refine s1 ?_
      refine W_jn (σ := Int) GT.dat (fun (_z : Int) => []) (fun (_z : Int) => []) [(0, (TL.hdr a0)), (10, .pointer (some ⟨bk10, 0, none⟩)), (13, .pointer (some ⟨bk13, 0, none⟩))] [blk bk10 [.int .i64 y6x0_1, (TL.hdr y6x0_2)] 71, blk bk13 [.int .i64 y7x0_1, (TL.hdr y7x0_2)] 71, treeH y6x0_2, treeH y7x0_2] hp ?_ ?_
      · clear hp
        intro x14 hp hx14
        refine s4 ?_
        refine kp [0, 4, 5, 6, 10, 13, 100] ?_
        refine W_cond rfl (fun hc15 => ?_) (fun hc15 => ?_)
        · replace hp := cond_t hc15 hp
          refine s5 ?_
          replace hp := ba hp; obtain ⟨y16, hy16, hp⟩ := hp
          refine L_callR rfl fn45.h rfl (by exact fun w hw => i_UpLost_walk w (y4x0_1, y4x0_2) y3x1 y3x2 (RdT.now (RdT.pair RdT.int (RdT.tree mm)) hw) _ hy16) ?_
          rintro _ _ ⟨⟨y16x0_1, y16x0_2⟩, y16x1, rfl, rfl, rfl⟩
          refine sc ?_
          replace hp := dd hp
          refine xL ((y16x0_1, y16x0_2) : T_Ups) ?_
          refine s3 ?_
          refine al fun bk17 => ?_
          refine s4 ?_
          replace hp := gb_any hp; obtain ⟨y17, hy17, hp⟩ := hp
          replace hp := gb_any hp; obtain ⟨y18, hy18, hp⟩ := hp
          refine W_D0 [119] mix (by kernel_rfl) rfl ?_
          refine s5 ?_
          refine D_callX (GC.some rfl rfl) fn47.h (OpVs.cons (OpV.s rfl) (OpVs.cons (OpV.s rfl) (OpVs.nil))) (by exact fun hg w F hF hM => i_UpHas_walk w (y16x0_1, y16x0_2) y3x1 (RdT.nowS (RdT.pair RdT.int (RdT.tree mm)) hF hM) _ (hy17 (gnot hg.2))) ?_
          refine s2 ?_
          refine D_callX (GC.some rfl rfl) fn47.h (OpVs.cons (OpV.s rfl) (OpVs.cons (OpV.s rfl) (OpVs.nil))) (by exact fun hg w F hF hM => i_UpHas_walk w (y4x0_1, y4x0_2) y3x1 (RdT.nowS (RdT.pair RdT.int (RdT.tree mm)) hF hM) _ (hy18 (gnot hg.2))) ?_
          refine s17 ?_
          refine kp [0, 10, 13, 119] ?_
          refine W_cond rfl (fun hc19 => ?_) (fun hc19 => ?_)
          · replace hp := cond_t hc19 hp
            refine s4 ?_
            replace hp := map_any hp; obtain ⟨a20, hp, hx_a20⟩ := hp
            obtain rfl := hx14 _ hx_a20
            obtain rfl := Option.some.inj hp
            refine s1 ?_
            refine res1 rfl (ResOK.tmp rfl) ⟨rfl, rfl⟩ ms
          · replace hp := cond_f hc19 hp
            refine s1 ?_
            exact ⟨(0 : Int), sb, (.sub ms), some_eq hp⟩
        · replace hp := cond_f hc15 hp
          refine s1 ?_
          exact ⟨(0 : Int), sb, (.sub ms), some_eq hp⟩
      · clear hp
        rintro _ hp
        replace hp := dd hp
        refine kq [0, 10, 13] ?_
        refine s3 ?_
        replace hp := ba hp; obtain ⟨y21, hy21, hp⟩ := hp
        refine L_callR rfl fn50.h rfl (by exact fun w hw => s_DrawUpGate_walk w a0 (RdT.now (RdT.old h0) hw) _ hy21) ?_
        rintro _ _ ⟨⟨y21x0_1, y21x0_2⟩, ⟨y21x1_1, y21x1_2, y21x1_3, y21x1_4, y21x1_5, y21x1_6, y21x1_7, y21x1_8⟩, rfl, rfl, rfl⟩
        refine sc ?_
        replace hp := dd hp
        refine xL ((y21x0_1, y21x0_2) : T_Ups) ?_
        refine xL ((y21x1_1, y21x1_2, y21x1_3, y21x1_4, y21x1_5, y21x1_6, y21x1_7, y21x1_8) : T_Cmd) ?_
        refine s3 ?_
        refine al fun bk19 => ?_
        refine al fun bk20 => ?_
        refine s4 ?_
        replace hp := ba hp; obtain ⟨y22, hy22, hp⟩ := hp
        replace hp := gb_any hp; obtain ⟨y23, hy23, hp⟩ := hp
        refine W_D0 [21] mix (by kernel_rfl) rfl ?_
        refine s1 ?_
        refine D_callX GC.none fn48.h (OpVs.cons (OpV.t rfl) (OpVs.nil)) (by exact fun hg w F hF hM => s_UpsOk_walk w (y21x0_1, y21x0_2) (RdT.nowS (RdT.pair RdT.int (RdT.tree mm)) hF hM) _ hy22) ?_
        refine s2 ?_
        refine D_callX (GC.some rfl rfl) fn51.h (OpVs.cons (OpV.s rfl) (OpVs.nil)) (by exact fun hg w F hF hM => s_CmdOk_walk w (y21x1_1, y21x1_2, y21x1_3, y21x1_4, y21x1_5, y21x1_6, y21x1_7, y21x1_8) (RdT.nowS (RdT.pair RdT.int (RdT.pair RdT.int (RdT.pair RdT.int (RdT.pair RdT.str (RdT.pair RdT.str (RdT.pair RdT.str (RdT.pair RdT.int (RdT.tree mm)))))))) hF hM) _ (hy23 hg.2)) ?_
        refine s17 ?_
        refine W_while (σ := Bool × Int) GT.dat (fun ((v24_0, v24_1) : Bool × Int) => [(21, .bool v24_0), (22, .int .i64 v24_1)]) (fun ((v24_0, v24_1) : Bool × Int) => []) [(10, _), (13, _), (19, _), (20, _)] [blk bk10 _ _, blk bk13 _ _, blk bk19 _ _, blk bk20 _ _, treeH y6x0_2, treeH y7x0_2, treeH y21x0_2, treeH y21x1_8] ((y22 && y23), 0) hp sb ms ?_
        clear hp
        rintro ⟨v24_0, v24_1⟩ x24 hp hx24
        replace hp := dd hp
        refine kq [10, 13, 19, 20, 21, 22] ?_
        refine s9 ?_
        refine kp [10, 13, 19, 20, 21, 22, 135] ?_
        refine W_cond rfl (fun hc25 => ?_) (fun hc25 => ?_)
        · replace hp := cond_t hc25 hp
          refine s3 ?_
          replace hp := idx_gb hp; obtain ⟨u26, hy26, hp⟩ := hp
          replace hp := gb_any hp; obtain ⟨y27, hy27, hp⟩ := hp
          refine W_D0 [21] mix (by kernel_rfl) rfl ?_
          refine s6 ?_
          refine D_idxA (X := y21x1_8) (GC.some rfl rfl) (OpV.s rfl) (OpV.s rfl) el25.h (RdT.tree mm) (fun hg => hy26 hg.2) ?_
          refine D_load0 (GC.some rfl rfl) (OpV.s rfl) (fun hg => RdT.at (RdT.tree mm) (hy26 hg.2).2) one9.h rfl ?_
          refine D_callX (GC.some rfl rfl) fn49.h (OpVs.cons (OpV.s rfl) (OpVs.cons (OpV.s rfl) (OpVs.nil))) (by exact fun hg w F hF hM => s_UpHas_walk w (y21x0_1, y21x0_2) u26 (RdT.nowS (RdT.pair RdT.int (RdT.tree mm)) hF hM) _ (hy27 hg.2)) ?_
          refine s20 ?_
          refine s2 ?_
          exact ⟨((v24_0 && (decide (2 ≤ y27))), IntKind.wrap .i64 (v24_1 + 1)), sb, (.sub ms), some_eq hp⟩
        · replace hp := cond_f hc25 hp
          refine W_exit ?_
          replace hp := map_any hp; obtain ⟨a28, hp, hx_a28⟩ := hp
          obtain rfl := hx24 _ hx_a28
          refine s1 ?_
          replace hp := ba hp; obtain ⟨y29, hy29, hp⟩ := hp
          replace hp := gb_any hp; obtain ⟨y30, hy30, hp⟩ := hp
          replace hp := gb_any hp; obtain ⟨y31, hy31, hp⟩ := hp
          refine W_D0 [2] mix (by kernel_rfl) rfl ?_
          refine s2 ?_
          refine D_callX GC.none fn52.h (OpVs.cons (OpV.t rfl) (OpVs.cons (OpV.t rfl) (OpVs.nil))) (by exact fun hg w F hF hM => i_UpGate_walk w (y21x0_1, y21x0_2) (y21x1_1, y21x1_2, y21x1_3, y21x1_4, y21x1_5, y21x1_6, y21x1_7, y21x1_8) (RdT.nowS (RdT.pair RdT.int (RdT.tree mm)) hF hM) (RdT.nowS (RdT.pair RdT.int (RdT.pair RdT.int (RdT.pair RdT.int (RdT.pair RdT.str (RdT.pair RdT.str (RdT.pair RdT.str (RdT.pair RdT.int (RdT.tree mm)))))))) hF hM) _ hy29) ?_
          refine s4 ?_
          refine D_callX (GC.some rfl rfl) fn48.h (OpVs.cons (OpV.s rfl) (OpVs.nil)) (by exact fun hg w F hF hM => s_UpsOk_walk w (y6x0_1, y6x0_2) (RdT.nowS (RdT.pair RdT.int (RdT.tree mm)) hF hM) _ (hy30 hg.2)) ?_
          refine s3 ?_
          refine D_callX (GC.some rfl rfl) fn48.h (OpVs.cons (OpV.s rfl) (OpVs.nil)) (by exact fun hg w F hF hM => s_UpsOk_walk w (y7x0_1, y7x0_2) (RdT.nowS (RdT.pair RdT.int (RdT.tree mm)) hF hM) _ (hy31 (gand hg.1.2 (gnot hg.2)))) ?_
          refine s20 ?_
          obtain rfl := Option.some.inj hp
          refine s1 ?_
          refine res1 rfl (ResOK.tmp rfl) ⟨rfl, rfl⟩ ms
end Go.Proofs.SL
