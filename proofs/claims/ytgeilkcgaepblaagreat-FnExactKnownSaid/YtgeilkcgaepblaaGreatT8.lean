/- The texts of the proof, part 8: the base, walks of functions, plain Lean. -/
import Derived.Test.YtgeilkcgaepblaaGreatT7
import Derived.Test.YtgeilkcgaepblaaGreatT4
import Derived.Test.YtgeilkcgaepblaaGreatT5
namespace Go.Proofs.SL
open Go
set_option maxHeartbeats 2000000
instance fn45 : FnF Tryz.prog 45 := ⟨⟨_, Tryz.func45, by kernel_rfl, rfl⟩⟩
instance fn139 : FnF Tryz.prog 139 := ⟨⟨_, Tryz.func139, by kernel_rfl, rfl⟩⟩
instance fn138 : FnF Tryz.prog 138 := ⟨⟨_, Tryz.func138, by kernel_rfl, rfl⟩⟩
instance fn140 : FnF Tryz.prog 140 := ⟨⟨_, Tryz.func140, by kernel_rfl, rfl⟩⟩
instance fn102 : FnF Tryz.prog 102 := ⟨⟨_, Tryz.func102, by kernel_rfl, rfl⟩⟩
instance fn104 : FnF Tryz.prog 104 := ⟨⟨_, Tryz.func104, by kernel_rfl, rfl⟩⟩
instance fn98 : FnF Tryz.prog 98 := ⟨⟨_, Tryz.func98, by kernel_rfl, rfl⟩⟩
instance fn97 : FnF Tryz.prog 97 := ⟨⟨_, Tryz.func97, by kernel_rfl, rfl⟩⟩
instance fn100 : FnF Tryz.prog 100 := ⟨⟨_, Tryz.func100, by kernel_rfl, rfl⟩⟩
instance fn101 : FnF Tryz.prog 101 := ⟨⟨_, Tryz.func101, by kernel_rfl, rfl⟩⟩
instance zero51 : ZerF Tryz.prog 51 [.slice none 0 0] := ⟨by kernel_rfl⟩
instance fn103 : FnF Tryz.prog 103 := ⟨⟨_, Tryz.func103, by kernel_rfl, rfl⟩⟩
instance fn105 : FnF Tryz.prog 105 := ⟨⟨_, Tryz.func105, by kernel_rfl, rfl⟩⟩
instance fn49 : FnF Tryz.prog 49 := ⟨⟨_, Tryz.func49, by kernel_rfl, rfl⟩⟩
instance fn27 : FnF Tryz.prog 27 := ⟨⟨_, Tryz.func27, by kernel_rfl, rfl⟩⟩
instance fn44 : FnF Tryz.prog 44 := ⟨⟨_, Tryz.func44, by kernel_rfl, rfl⟩⟩
instance agg31 : AggF Tryz.prog 31 2 := ⟨by kernel_rfl⟩
instance fn22 : FnF Tryz.prog 22 := ⟨⟨_, Tryz.func22, by kernel_rfl, rfl⟩⟩
instance fn23 : FnF Tryz.prog 23 := ⟨⟨_, Tryz.func23, by kernel_rfl, rfl⟩⟩
noncomputable def i_Reach (a0 : List D_Inst) (a1 : D_Id) : Option (List D_Id) :=
  Option.bind (i_InstsOk a0) (fun y1 => cond (!y1) (some ([] : List D_Id)) (Option.bind (some ([] : List D_Id)) (fun y4 => Option.bind (some ([(a1.1, a1.2)] : List D_Id)) (fun y5 => whileP (fun s7 : (List D_Id) × (List D_Id) => cond (decide (0 < (s7.2.length : Int))) (Option.bind (idx s7.2 0) (fun y9 => Option.bind (i_InstAt a0 (y9.1, y9.2)) (fun y10 => Option.bind (slcP s7.2 1 (s7.2.length : Int)) (fun y11 => cond (!decide (y10.2.2.2.1 = 3)) (some (.inl ((s7.1, y11)))) (whileP (fun s14 : (List D_Id) × (List D_Id) × Int => cond (decide (s14.2.2 < (y10.2.2.2.2.2.2.1.length : Int))) (Option.bind (idx y10.2.2.2.2.2.2.1 s14.2.2) (fun y16 => Option.bind (sl_Contains_implIdimplId s14.1 (y16.1, y16.2)) (fun y17 => cond (!y17) (Option.bind (appP s14.1 [(y16.1, y16.2)]) (fun y20 => Option.bind (appP s14.2.1 [(y16.1, y16.2)]) (fun y22 => some (.inl ((y20, y22, IntKind.wrap .i64 (s14.2.2 + 1))))))) (some (.inl ((s14.1, s14.2.1, IntKind.wrap .i64 (s14.2.2 + 1)))))))) (Option.map .inr (some (.inl ((s14.1, s14.2.1)))))) (s7.1, y11, 0)))))) (Option.map .inr (Option.bind (sortFn s7.1 (fun z0 z1 => i_compareIds z0 z1 )) (fun y25 => some y25)))) (y4, y5)))))
theorem i_Reach_walk (w : World) (a0 : TL T_Inst) (a1 : T_Id) (h0 : GT.rd w [] a0) (h1 : GT.rd w [] a1) (r : (List D_Id)) (hp : i_Reach (GT.dat a0) (GT.dat a1) = some r) : Spec Tryz.prog 138 [(TL.hdr a0), .agg (GT.cells a1).toArray].toArray w [] (fun v M => ∃ (x0 : TL T_Id), v = (TL.hdr x0) ∧ GT.dat x0 = r ∧ M = [treeH x0]) := by
  obtain ⟨a1_1, a1_2⟩ := a1
  change Spec _ _ ([(TL.hdr a0), Value.agg #[.int .i64 a1_1, .int .i64 a1_2]] : List Value).toArray w [] _
  refine Spec.intro Tryz.func138 rfl Tryz.ntmps138 rfl ?_
  unfold i_Reach at hp
  replace hp := dd hp
  refine s2 ?_
  refine bx fun bk3 => ?_
  refine L_assign (v := (TL.hdr (TL.nil T_Id 0))) rfl rfl ?_
  refine s5 ?_
  replace hp := ba hp; obtain ⟨y1, hy1, hp⟩ := hp
  refine L_callX rfl fn77.h rfl (by exact fun w hw => i_InstsOk_walk w a0 (RdT.now (RdT.old h0) hw) _ hy1) ?_
  refine s2 ?_
  refine kp [0, 3, 12] ?_
  refine W_cond rfl (fun hc2 => ?_) (fun hc2 => ?_)
  · replace hp := cond_t hc2 hp
    refine s2 ?_
    refine L_assign (v := (TL.hdr (TL.nil T_Id 0))) rfl rfl ?_
    refine s1 ?_
    obtain rfl := Option.some.inj hp
    refine W_conv (M' := treeH (TL.nil T_Id 0) :: _) (fun w h => addNilT (τ := T_Id) 0 h) ?_
    refine s1 ?_
    refine res1 rfl (ResOK.tmp rfl) ⟨(TL.nil T_Id 0), rfl, rfl, rfl⟩ ms
  · replace hp := cond_f hc2 hp
    refine s3 ?_
    replace hp := ba hp; obtain ⟨y4, hy4, hp⟩ := hp
    refine L_mk0 T_Id rfl el51.h (fun X3 hdX3 => ?_)
    obtain rfl : GT.dat X3 = y4 := hdX3.trans (Option.some.inj hy4)
    clear hy4 hdX3
    refine s5 ?_
    replace hp := ba hp; obtain ⟨y5, hy5, hp⟩ := hp
    refine L_bsN ([(a1_1, a1_2)] : List T_Id) (xs := [(0, .tmp 14)]) rfl rfl el51.h rfl rfl rfl rfl rfl rfl rfl hy5 (fun X6 hdX6 => ?_)
    subst hdX6
    refine s4 ?_
    refine W_conv (M' := flH X6 :: _) (fun w h => fl_of_tree pk h) ?_
    refine W_while (σ := (TL T_Id) × (TL T_Id)) GT.dat (fun ((v7_0, v7_1) : (TL T_Id) × (TL T_Id)) => [(5, (TL.hdr v7_0)), (6, (TL.hdr v7_1))]) (fun ((v7_0, v7_1) : (TL T_Id) × (TL T_Id)) => [treeH v7_0, flH v7_1]) [(0, _)] [] (X3, X6) hp sb ms ?_
    clear hp
    rintro ⟨v7_0, v7_1⟩ x7 hp hx7
    replace hp := dd hp
    refine kq [0, 5, 6] ?_
    refine s7 ?_
    refine kp [0, 5, 6, 18] ?_
    refine W_cond rfl (fun hc8 => ?_) (fun hc8 => ?_)
    · replace hp := cond_t hc8 hp
      refine s6 ?_
      replace hp := idx_bind hp; obtain ⟨⟨u9_1, u9_2⟩, hy9, hp⟩ := hp
      refine L_idxA (X := v7_1) rfl rfl rfl el51.h (RdT.fl mm) hy9 ?_
      refine L_loadW rfl rfl (RdT.at (RdT.fl mm) (hy9).2) (by exact agg71.h) ?_
      replace hp := ba hp; obtain ⟨y10, hy10, hp⟩ := hp
      refine L_callR rfl fn45.h rfl (by exact fun w hw => i_InstAt_walk w a0 (u9_1, u9_2) (RdT.now (RdT.old h0) hw) (RdT.now (RdT.pair RdT.int RdT.int) hw) _ hy10) ?_
      rintro _ _ ⟨⟨⟨y10x0_1, y10x0_2⟩, y10x0_3, y10x0_4, y10x0_5, ⟨y10x0_6, y10x0_7, y10x0_8, y10x0_9, y10x0_10, y10x0_11, y10x0_12, y10x0_13⟩, y10x0_14, y10x0_15, y10x0_16⟩, rfl, rfl, rfl⟩
      refine sc ?_
      replace hp := dd hp
      refine xL (((y10x0_1, y10x0_2), y10x0_3, y10x0_4, y10x0_5, (y10x0_6, y10x0_7, y10x0_8, y10x0_9, y10x0_10, y10x0_11, y10x0_12, y10x0_13), y10x0_14, y10x0_15, y10x0_16) : T_Inst) ?_
      refine al fun bk7 => ?_
      refine s5 ?_
      replace hp := ba hp; obtain ⟨y11, hy11, hp⟩ := hp
      refine L_slcE (X := v7_1) rfl rfl rfl rfl el51.h rfl (RdT.fl mm) hy11 (fun X12 hdX12 heX12 => ?_)
      have hsX12 := hy11
      subst hdX12
      refine s9 ?_
      refine kp [0, 5, 6, 7, 28] ?_
      refine W_cond rfl (fun hc13 => ?_) (fun hc13 => ?_)
      · replace hp := cond_t hc13 hp
        refine W_exit ?_
        exact ⟨(v7_0, X12), sb, ⟨_, fun w h => (fl_slc heX12 hsX12 pk h), ms⟩, some_eq hp⟩
      · replace hp := cond_f hc13 hp
        refine s9 ?_
        refine W_conv (M' := flH X12 :: _) (fun w h => fl_slc heX12 hsX12 pk h) ?_
        refine W_while (σ := (TL T_Id) × (TL T_Id) × Int) GT.dat (fun ((v14_0, v14_1, v14_2) : (TL T_Id) × (TL T_Id) × Int) => [(5, (TL.hdr v14_0)), (6, (TL.hdr v14_1)), (32, .int .i64 v14_2)]) (fun ((v14_0, v14_1, v14_2) : (TL T_Id) × (TL T_Id) × Int) => [treeH v14_0, flH v14_1]) [(0, _), (30, _), (31, _)] [treeH y10x0_15] (v7_0, X12, 0) hp sb ms ?_
        clear hp
        rintro ⟨v14_0, v14_1, v14_2⟩ x14 hp hx14
        replace hp := dd hp
        refine kq [0, 5, 6, 30, 31, 32] ?_
        refine s5 ?_
        refine kp [0, 5, 6, 30, 31, 32, 33] ?_
        refine W_cond rfl (fun hc15 => ?_) (fun hc15 => ?_)
        · replace hp := cond_t hc15 hp
          refine s5 ?_
          replace hp := idx_bind hp; obtain ⟨⟨u16_1, u16_2⟩, hy16, hp⟩ := hp
          refine L_idxA (X := y10x0_15) rfl rfl rfl el51.h (RdT.tree mm) hy16 ?_
          refine L_loadW rfl rfl (RdT.at (RdT.tree mm) (hy16).2) (by exact agg71.h) ?_
          refine al fun bk9 => ?_
          refine s6 ?_
          replace hp := ba hp; obtain ⟨y17, hy17, hp⟩ := hp
          refine L_callX rfl fn99.h rfl (by exact fun w hw => sl_Contains_implIdimplId_walk w v14_0 (u16_1, u16_2) (RdT.now (RdT.tree mm) hw) (RdT.now (RdT.pair RdT.int RdT.int) hw) _ hy17) ?_
          refine s2 ?_
          refine kp [0, 5, 6, 9, 30, 31, 32, 39] ?_
          refine W_cond rfl (fun hc18 => ?_) (fun hc18 => ?_)
          · replace hp := cond_t hc18 hp
            refine s4 ?_
            refine L_buildSlice1 rfl rfl el51.h rfl (by decide) (by decide) rfl (fun bb42 => ?_)
            replace hp := ba hp; obtain ⟨y20, hy20, hp⟩ := hp
            refine L_app1F (X := v14_0) ((u16_1, u16_2) : T_Id) rfl rfl rfl el51.h rfl rfl pk mm  hy20 (by decide) (fun X19 hdX19 => ?_)
            subst hdX19
            refine s5 ?_
            refine L_buildSlice1 rfl rfl el51.h rfl (by decide) (by decide) rfl (fun bb46 => ?_)
            replace hp := ba hp; obtain ⟨y22, hy22, hp⟩ := hp
            refine L_appV1 (X := v14_1) ((u16_1, u16_2) : T_Id) rfl rfl rfl el51.h rfl rfl pk mm hy22 (by decide) (fun X21 hdX21 => ?_)
            subst hdX21
            refine s6 ?_
            exact ⟨(X19, X21, IntKind.wrap .i64 (v14_2 + 1)), sb, (.sub ms), some_eq hp⟩
          · replace hp := cond_f hc18 hp
            refine s5 ?_
            exact ⟨(v14_0, v14_1, IntKind.wrap .i64 (v14_2 + 1)), sb, (.sub ms), some_eq hp⟩
        · replace hp := cond_f hc15 hp
          refine W_exit ?_
          replace hp := map_any hp; obtain ⟨a23, hp, hx_a23⟩ := hp
          obtain rfl := hx14 _ hx_a23
          exact ⟨(v14_0, v14_1), sb, (.sub ms), some_eq hp⟩
    · replace hp := cond_f hc8 hp
      refine W_exit ?_
      replace hp := map_any hp; obtain ⟨a24, hp, hx_a24⟩ := hp
      obtain rfl := hx7 _ hx_a24
      refine s3 ?_
      replace hp := ba hp; obtain ⟨y25, hy25, hp⟩ := hp
      refine L_callM [treeH v7_0] _ rfl fn139.h rfl pc (by exact fun w hw => sl_SortFunc_implIdimplId_walk w v7_0 119 [] (fun z0 z1 => i_compareIds z0 z1 ) fn119.h (fun w' F u0 u1 v hF hu0 hu1 hv => i_compareIds_walk w' u0 u1 hu0 hu1 v hv) _ hy25) ?_
      rintro _ _ ⟨y25y0, rfl, rfl, rfl, hey25_0⟩
      try rw [← hey25_0]
      refine sc ?_
      replace hp := dd hp
      refine s6 ?_
      obtain rfl := Option.some.inj hp
      refine s1 ?_
      refine res1 rfl (ResOK.tmp rfl) ⟨y25y0, rfl, rfl, rfl⟩ ms
noncomputable def i_Ready (a0 : List D_Inst) (a1 : D_Id) : Option Bool :=
  Option.bind (i_InstsOk a0) (fun y1 => cond (!y1) (some false) (Option.bind (i_Reach a0 (a1.1, a1.2)) (fun y3 => Option.bind (appP y3 [(a1.1, a1.2)]) (fun y4 => whileP (fun s6 : Int => cond (decide (s6 < (y4.length : Int))) (Option.bind (idx y4 s6) (fun y8 => Option.bind (i_InstAt a0 (y8.1, y8.2)) (fun y9 => cond (!decide (y9.2.2.2.1 = 3)) (Option.map .inr (some false)) (some (.inl (IntKind.wrap .i64 (s6 + 1))))))) (Option.map .inr (some true))) 0))))
theorem i_Ready_walk (w : World) (a0 : TL T_Inst) (a1 : T_Id) (h0 : GT.rd w [] a0) (h1 : GT.rd w [] a1) (r : Bool) (hp : i_Ready (GT.dat a0) (GT.dat a1) = some r) : Spec Tryz.prog 100 [(TL.hdr a0), .agg (GT.cells a1).toArray].toArray w [] (IsV (.bool r)) := by
  obtain ⟨a1_1, a1_2⟩ := a1
  change Spec _ _ ([(TL.hdr a0), Value.agg #[.int .i64 a1_1, .int .i64 a1_2]] : List Value).toArray w [] _
  refine Spec.intro Tryz.func100 rfl Tryz.ntmps100 rfl ?_
  unfold i_Ready at hp
  replace hp := dd hp
  refine s2 ?_
  refine bx fun bk3 => ?_
  refine s6 ?_
  replace hp := ba hp; obtain ⟨y1, hy1, hp⟩ := hp
  refine L_callX rfl fn77.h rfl (by exact fun w hw => i_InstsOk_walk w a0 (RdT.now (RdT.old h0) hw) _ hy1) ?_
  refine s2 ?_
  refine kp [0, 3, 9] ?_
  refine W_cond rfl (fun hc2 => ?_) (fun hc2 => ?_)
  · replace hp := cond_t hc2 hp
    refine s4 ?_
    obtain rfl := Option.some.inj hp
    refine s1 ?_
    refine res1 rfl (ResOK.tmp rfl) ⟨rfl, rfl⟩ ms
  · replace hp := cond_f hc2 hp
    refine s3 ?_
    replace hp := ba hp; obtain ⟨y3, hy3, hp⟩ := hp
    replace hp := ba hp; obtain ⟨y4, hy4, hp⟩ := hp
    refine W_D0 [15, 16, 17] mix (by kernel_rfl) rfl ?_
    refine s2 ?_
    refine D_call1R (fun v M => ∃ (x0 : TL T_Id), v = (TL.hdr x0) ∧ GT.dat x0 = y3 ∧ M = [treeH x0]) fn138.h (OpVs.cons (OpV.t rfl) (OpVs.cons (OpV.t rfl) (OpVs.nil))) (by exact fun w F hF hM => i_Reach_walk w a0 (a1_1, a1_2) (RdT.nowS (RdT.old h0) hF hM) (RdT.nowS (RdT.pair RdT.int RdT.int) hF hM) _ hy3) ?_
    refine s1 ?_
    refine D_bs1 (OpV.t rfl) el51.h rfl (by decide) (by decide) rfl ?_
    refine D_app1OO (t1 := 12) (t2 := 14) ((a1_1, a1_2) : T_Id) (ra := y3) rfl rfl el51.h rfl rfl hy4 (by decide) (by kernel_rfl) ?_
    refine D_lenO (τ := T_Id) (t := 15) (r := y4) rfl GC.none el51.h ?_
    refine s4 ?_
    refine Give_R rfl rfl ?_
    rintro _ _ ⟨X5, rfl, rfl, rfl⟩
    simp only [List.cons_append, List.nil_append]
    refine s7 ?_
    refine W_while (σ := Int) GT.dat (fun (v6_0 : Int) => [(17, .int .i64 v6_0)]) (fun (v6_0 : Int) => []) [(0, _), (15, _), (16, _)] [treeH X5] 0 hp sb ms ?_
    clear hp
    rintro v6_0 x6 hp hx6
    replace hp := dd hp
    refine kq [0, 15, 16, 17] ?_
    refine s5 ?_
    refine kp [0, 15, 16, 17, 18] ?_
    refine W_cond rfl (fun hc7 => ?_) (fun hc7 => ?_)
    · replace hp := cond_t hc7 hp
      refine s5 ?_
      replace hp := idx_bind hp; obtain ⟨⟨u8_1, u8_2⟩, hy8, hp⟩ := hp
      refine L_idxA (X := X5) rfl rfl rfl el51.h (RdT.tree mm) hy8 ?_
      refine L_loadW rfl rfl (RdT.at (RdT.tree mm) (hy8).2) (by exact agg71.h) ?_
      refine al fun bk6 => ?_
      refine s6 ?_
      replace hp := ba hp; obtain ⟨y9, hy9, hp⟩ := hp
      refine L_callR rfl fn45.h rfl (by exact fun w hw => i_InstAt_walk w a0 (u8_1, u8_2) (RdT.now (RdT.old h0) hw) (RdT.now (RdT.pair RdT.int RdT.int) hw) _ hy9) ?_
      rintro _ _ ⟨⟨⟨y9x0_1, y9x0_2⟩, y9x0_3, y9x0_4, y9x0_5, ⟨y9x0_6, y9x0_7, y9x0_8, y9x0_9, y9x0_10, y9x0_11, y9x0_12, y9x0_13⟩, y9x0_14, y9x0_15, y9x0_16⟩, rfl, rfl, rfl⟩
      refine sc ?_
      replace hp := dd hp
      refine xL (((y9x0_1, y9x0_2), y9x0_3, y9x0_4, y9x0_5, (y9x0_6, y9x0_7, y9x0_8, y9x0_9, y9x0_10, y9x0_11, y9x0_12, y9x0_13), y9x0_14, y9x0_15, y9x0_16) : T_Inst) ?_
      refine L_field rfl rfl (show fld1 _ 79 3 = some 4 by kernel_rfl) rfl ?_
      refine s2 ?_
      refine kp [0, 15, 16, 17, 25] ?_
      refine W_cond rfl (fun hc10 => ?_) (fun hc10 => ?_)
      · replace hp := cond_t hc10 hp
        refine s4 ?_
        replace hp := map_any hp; obtain ⟨a11, hp, hx_a11⟩ := hp
        obtain rfl := hx6 _ hx_a11
        obtain rfl := Option.some.inj hp
        refine s1 ?_
        refine res1 rfl (ResOK.tmp rfl) ⟨rfl, rfl⟩ ms
      · replace hp := cond_f hc10 hp
        refine s5 ?_
        exact ⟨IntKind.wrap .i64 (v6_0 + 1), sb, (.sub ms), some_eq hp⟩
    · replace hp := cond_f hc7 hp
      refine W_exit ?_
      replace hp := map_any hp; obtain ⟨a12, hp, hx_a12⟩ := hp
      obtain rfl := hx6 _ hx_a12
      refine s4 ?_
      obtain rfl := Option.some.inj hp
      refine s1 ?_
      refine res1 rfl (ResOK.tmp rfl) ⟨rfl, rfl⟩ ms
noncomputable def i_part_c1 (a0 : D_Id) (a1 : D_Id) (c0 : List D_Inst) : Option Int :=
  Option.bind (i_InstAt c0 (a0.1, a0.2)) (fun y1 => Option.bind (i_InstAt c0 (a1.1, a1.2)) (fun y2 => cond (!decide (y1.2.2.2.2.2.1 = y2.2.2.2.2.2.1)) (some (IntKind.wrap .i64 (y1.2.2.2.2.2.1 - y2.2.2.2.2.2.1))) (Option.bind (i_compareIds (a0.1, a0.2) (a1.1, a1.2)) (fun y4 => some y4))))
theorem i_part_c1_walk (w : World) (a0 : T_Id) (a1 : T_Id) (b0 : Nat) (c0 : TL T_Inst) (h0 : GT.rd w [] a0) (h1 : GT.rd w [] a1) (hb0 : Cells w [] b0 0 (GT.cells c0)) (hc0 : GT.rd w [] c0) (r : Int) (hp : i_part_c1 (GT.dat a0) (GT.dat a1) (GT.dat c0) = some r) : Spec Tryz.prog 140 ([(.agg (GT.cells a0).toArray : Value), (.agg (GT.cells a1).toArray : Value)] ++ [Value.pointer (some ⟨b0, 0, none⟩)]).toArray w [] (IsV (.int .i64 r)) := by
  obtain ⟨a0_1, a0_2⟩ := a0
  obtain ⟨a1_1, a1_2⟩ := a1
  change Spec _ _ ([Value.agg #[.int .i64 a0_1, .int .i64 a0_2], Value.agg #[.int .i64 a1_1, .int .i64 a1_2], Value.pointer (some ⟨b0, 0, none⟩)] : List Value).toArray w [] _
  refine Spec.intro Tryz.func140 rfl Tryz.ntmps140 rfl ?_
  unfold i_part_c1 at hp
  replace hp := dd hp
  refine s2 ?_
  refine bx fun bk3 => ?_
  refine bx fun bk4 => ?_
  refine s3 ?_
  refine W_AH [] mix ?_
  refine AH_take 0 rfl (PU_load0 rfl rfl (RdC.old hb0) one43.h rfl) (by kernel_rfl) (by kernel_rfl) (by kernel_rfl) trivial ?_
  refine AH_A [blk bk3 [.int .i64 a0_1, .int .i64 a0_2] 71] trivial ?_
  refine AH_take 1 rfl (PU_loadW rfl rfl (RdC.blk mm) (by exact agg71.h)) (by kernel_rfl) (by kernel_rfl) (by kernel_rfl) ⟨mm, trivial⟩ ?_
  refine AH_take 4 rfl (PU_load0 rfl rfl (RdC.old hb0) one43.h rfl) (by kernel_rfl) (by kernel_rfl) (by kernel_rfl) ⟨mm, trivial⟩ ?_
  refine AH_A [blk bk4 [.int .i64 a1_1, .int .i64 a1_2] 71, blk bk3 [.int .i64 a0_1, .int .i64 a0_2] 71] ⟨mm, trivial⟩ ?_
  refine AH_take 5 rfl (PU_loadW rfl rfl (RdC.blk mm) (by exact agg71.h)) (by kernel_rfl) (by kernel_rfl) (by kernel_rfl) ⟨mm, ⟨mm, trivial⟩⟩ ?_
  refine AH_one 2 rfl rfl (by kernel_rfl) ?_
  replace hp := ba hp; obtain ⟨y1, hy1, hp⟩ := hp
  refine L_callR rfl fn45.h rfl (by exact fun w hw => i_InstAt_walk w c0 (a0_1, a0_2) (RdT.now (RdT.old hc0) hw) (RdT.now (RdT.pair RdT.int RdT.int) hw) _ hy1) ?_
  rintro _ _ ⟨⟨⟨y1x0_1, y1x0_2⟩, y1x0_3, y1x0_4, y1x0_5, ⟨y1x0_6, y1x0_7, y1x0_8, y1x0_9, y1x0_10, y1x0_11, y1x0_12, y1x0_13⟩, y1x0_14, y1x0_15, y1x0_16⟩, rfl, rfl, rfl⟩
  refine sc ?_
  replace hp := dd hp
  refine xL (((y1x0_1, y1x0_2), y1x0_3, y1x0_4, y1x0_5, (y1x0_6, y1x0_7, y1x0_8, y1x0_9, y1x0_10, y1x0_11, y1x0_12, y1x0_13), y1x0_14, y1x0_15, y1x0_16) : T_Inst) ?_
  refine L_nil ⟨⟨mm, ⟨mm, trivial⟩⟩, ?_⟩
  refine AH_take 3 rfl (PU_field rfl rfl (show fld1 _ 79 5 = some 13 by kernel_rfl) rfl) (by kernel_rfl) (by kernel_rfl) (by kernel_rfl) ⟨mm, ⟨mm, trivial⟩⟩ ?_
  refine AH_one 6 rfl rfl (by kernel_rfl) ?_
  replace hp := ba hp; obtain ⟨y2, hy2, hp⟩ := hp
  refine L_callR rfl fn45.h rfl (by exact fun w hw => i_InstAt_walk w c0 (a1_1, a1_2) (RdT.now (RdT.old hc0) hw) (RdT.now (RdT.pair RdT.int RdT.int) hw) _ hy2) ?_
  rintro _ _ ⟨⟨⟨y2x0_1, y2x0_2⟩, y2x0_3, y2x0_4, y2x0_5, ⟨y2x0_6, y2x0_7, y2x0_8, y2x0_9, y2x0_10, y2x0_11, y2x0_12, y2x0_13⟩, y2x0_14, y2x0_15, y2x0_16⟩, rfl, rfl, rfl⟩
  refine sc ?_
  replace hp := dd hp
  refine xL (((y2x0_1, y2x0_2), y2x0_3, y2x0_4, y2x0_5, (y2x0_6, y2x0_7, y2x0_8, y2x0_9, y2x0_10, y2x0_11, y2x0_12, y2x0_13), y2x0_14, y2x0_15, y2x0_16) : T_Inst) ?_
  refine L_nil ⟨⟨mm, ⟨mm, trivial⟩⟩, ?_⟩
  refine AH_take 7 rfl (PU_field rfl rfl (show fld1 _ 79 5 = some 13 by kernel_rfl) rfl) (by kernel_rfl) (by kernel_rfl) (by kernel_rfl) ⟨mm, ⟨mm, trivial⟩⟩ ?_
  refine AH_one 8 rfl rfl (by kernel_rfl) ?_
  refine s1 ?_
  refine L_nil ⟨⟨mm, ⟨mm, trivial⟩⟩, ?_⟩
  refine AH_one 9 rfl rfl (by kernel_rfl) ?_
  refine s1 ?_
  refine L_nil ⟨⟨mm, ⟨mm, trivial⟩⟩, ?_⟩
  refine AH_done (by kernel_rfl) ?_
  refine s7 ?_
  refine kp [3, 4, 6, 7, 18] ?_
  refine W_cond rfl (fun hc3 => ?_) (fun hc3 => ?_)
  · replace hp := cond_t hc3 hp
    refine s7 ?_
    obtain rfl := Option.some.inj hp
    refine s1 ?_
    refine res1 rfl (ResOK.tmp rfl) ⟨rfl, rfl⟩ ms
  · replace hp := cond_f hc3 hp
    refine s5 ?_
    replace hp := ba hp; obtain ⟨y4, hy4, hp⟩ := hp
    refine L_callX rfl fn119.h rfl (by exact fun w hw => i_compareIds_walk w (a0_1, a0_2) (a1_1, a1_2) (RdT.now (RdT.pair RdT.int RdT.int) hw) (RdT.now (RdT.pair RdT.int RdT.int) hw) _ hy4) ?_
    refine s2 ?_
    obtain rfl := Option.some.inj hp
    refine s1 ?_
    refine res1 rfl (ResOK.tmp rfl) ⟨rfl, rfl⟩ ms
noncomputable def i_part (a0 : List D_Inst) (a1 : D_Id) : Option (List D_Id) :=
  Option.bind (some ([(a1.1, a1.2)] : List D_Id)) (fun y1 => Option.bind (i_Reach a0 (a1.1, a1.2)) (fun y3 => whileP (fun s4 : (List D_Id) × Int => cond (decide (s4.2 < (y3.length : Int))) (Option.bind (idx y3 s4.2) (fun y6 => gb (!(decide (y6.1 = a1.1) && (decide (y6.2 = a1.2) && true))) (i_Reach a0 (y6.1, y6.2)) (fun y7 => gb (!(decide (y6.1 = a1.1) && (decide (y6.2 = a1.2) && true))) (sl_Contains_implIdimplId y7 (a1.1, a1.2)) (fun y8 => cond ((!(decide (y6.1 = a1.1) && (decide (y6.2 = a1.2) && true))) && y8) (Option.bind (appP s4.1 [(y6.1, y6.2)]) (fun y11 => some (.inl ((y11, IntKind.wrap .i64 (s4.2 + 1)))))) (some (.inl ((s4.1, IntKind.wrap .i64 (s4.2 + 1))))))))) (Option.map .inr (Option.bind (sortFn s4.1 (fun z0 z1 => i_part_c1 z0 z1 a0)) (fun y13 => some y13)))) (y1, 0)))
theorem i_part_walk (w : World) (a0 : TL T_Inst) (a1 : T_Id) (h0 : GT.rd w [] a0) (h1 : GT.rd w [] a1) (r : (List D_Id)) (hp : i_part (GT.dat a0) (GT.dat a1) = some r) : Spec Tryz.prog 101 [(TL.hdr a0), .agg (GT.cells a1).toArray].toArray w [] (fun v M => ∃ (x0 : TL T_Id), v = (TL.hdr x0) ∧ GT.dat x0 = r ∧ M = [treeH x0]) := by
  obtain ⟨a1_1, a1_2⟩ := a1
  change Spec _ _ ([(TL.hdr a0), Value.agg #[.int .i64 a1_1, .int .i64 a1_2]] : List Value).toArray w [] _
  refine Spec.intro Tryz.func101 rfl Tryz.ntmps101 rfl ?_
  unfold i_part at hp
  replace hp := dd hp
  refine s2 ?_
  refine bx fun bk2 => ?_
  refine bx fun bk3 => ?_
  refine L_assign (v := (TL.hdr (TL.nil T_Id 0))) rfl rfl ?_
  refine s4 ?_
  replace hp := ba hp; obtain ⟨y1, hy1, hp⟩ := hp
  refine L_bsN ([(a1_1, a1_2)] : List T_Id) (xs := [(0, .tmp 8)]) rfl rfl el51.h rfl rfl rfl rfl rfl rfl rfl hy1 (fun X2 hdX2 => ?_)
  subst hdX2
  refine s5 ?_
  refine L_load0 rfl rfl (RdC.blk mm) one43.h rfl ?_
  refine s1 ?_
  replace hp := ba hp; obtain ⟨y3, hy3, hp⟩ := hp
  refine L_callR rfl fn138.h rfl (by exact fun w hw => i_Reach_walk w a0 (a1_1, a1_2) (RdT.now (RdT.old h0) hw) (RdT.now (RdT.pair RdT.int RdT.int) hw) _ hy3) ?_
  rintro _ _ ⟨y3x0, rfl, rfl, rfl⟩
  refine sc ?_
  replace hp := dd hp
  refine s4 ?_
  refine W_while (σ := (TL T_Id) × Int) GT.dat (fun ((v4_0, v4_1) : (TL T_Id) × Int) => [(5, (TL.hdr v4_0)), (14, .int .i64 v4_1)]) (fun ((v4_0, v4_1) : (TL T_Id) × Int) => [treeH v4_0]) [(2, _), (3, _), (12, _), (13, _)] [blk bk2 _ _, blk bk3 _ _, treeH y3x0] (X2, 0) hp sb ms ?_
  clear hp
  rintro ⟨v4_0, v4_1⟩ x4 hp hx4
  replace hp := dd hp
  refine kq [2, 3, 5, 12, 13, 14] ?_
  refine s5 ?_
  refine kp [2, 3, 5, 12, 13, 14, 15] ?_
  refine W_cond rfl (fun hc5 => ?_) (fun hc5 => ?_)
  · replace hp := cond_t hc5 hp
    refine s5 ?_
    replace hp := idx_bind hp; obtain ⟨⟨u6_1, u6_2⟩, hy6, hp⟩ := hp
    refine L_idxA (X := y3x0) rfl rfl rfl el51.h (RdT.tree mm) hy6 ?_
    refine L_loadW rfl rfl (RdT.at (RdT.tree mm) (hy6).2) (by exact agg71.h) ?_
    refine al fun bk7 => ?_
    refine s3 ?_
    replace hp := gb_any hp; obtain ⟨y7, hy7, hp⟩ := hp
    replace hp := gb_any hp; obtain ⟨y8, hy8, hp⟩ := hp
    refine W_D0 [27] mix (by kernel_rfl) rfl ?_
    refine s2 ?_
    refine D_bin GC.none (OpV.t rfl) (OpV.t rfl) (fun hg => (bv_aneq eqsh71 (EqS.consI one3.h und3.h rfl rfl (EqS.consI one3.h und3.h rfl rfl EqS.nil)))) ?_
    refine s1 ?_
    refine D_load0 (GC.some rfl rfl) (OpV.t rfl) (fun hg => RdC.blk mm) one43.h rfl ?_
    refine s1 ?_
    refine D_callGV (fun v M => ∃ (x0 : TL T_Id), v = (TL.hdr x0) ∧ GT.dat x0 = y7 ∧ M = [treeH x0]) (GC.some rfl rfl) fn138.h (OpVs.cons (OpV.s rfl) (OpVs.cons (OpV.s rfl) (OpVs.nil))) (by exact fun hg w F hF hM => i_Reach_walk w a0 (u6_1, u6_2) (RdT.nowS (RdT.old h0) hF hM) (RdT.nowS (RdT.pair RdT.int RdT.int) hF hM) _ (hy7 hg.2)) ?_
    refine s1 ?_
    refine D_callGR [_, _] (GC.some rfl rfl) fn99.h ⟨⟨_, rfl, fun _ _ h => h⟩, ⟨⟨_, rfl, fun _ _ h => h⟩, trivial⟩⟩ (by rintro hg w F vs hF hM ⟨v0, u0, M0, rfl, g0, hin0, ⟨v1, u1, M1, rfl, g1, hin1, rfl⟩⟩; obtain ⟨m0, rfl, hd0, rfl⟩ := g0.1 hg; subst hd0; obtain rfl := g1.2.1 hg; exact sl_Contains_implIdimplId_walk w m0 (a1_1, a1_2) (rd_of_tree (hin0 _ (List.mem_singleton.2 rfl)) hF.sees) (RdT.nowS (RdT.pair RdT.int RdT.int) hF hM) _ (hy8 hg.2)) ?_
    refine s13 ?_
    refine kp [2, 3, 5, 7, 12, 13, 14, 27] ?_
    refine W_cond rfl (fun hc9 => ?_) (fun hc9 => ?_)
    · replace hp := cond_t hc9 hp
      refine s3 ?_
      refine L_buildSlice1 rfl rfl el51.h rfl (by decide) (by decide) rfl (fun bb30 => ?_)
      replace hp := ba hp; obtain ⟨y11, hy11, hp⟩ := hp
      refine L_app1F (X := v4_0) ((u6_1, u6_2) : T_Id) rfl rfl rfl el51.h rfl rfl pk mm  hy11 (by decide) (fun X10 hdX10 => ?_)
      subst hdX10
      refine s6 ?_
      exact ⟨(X10, IntKind.wrap .i64 (v4_1 + 1)), sb, (.sub ms), some_eq hp⟩
    · replace hp := cond_f hc9 hp
      refine s5 ?_
      exact ⟨(v4_0, IntKind.wrap .i64 (v4_1 + 1)), sb, (.sub ms), some_eq hp⟩
  · replace hp := cond_f hc5 hp
    refine W_exit ?_
    replace hp := map_any hp; obtain ⟨a12, hp, hx_a12⟩ := hp
    obtain rfl := hx4 _ hx_a12
    refine s3 ?_
    refine L_makeFunc (fs := []) (cs := [.tmp 2]) rfl rfl rfl ?_
    replace hp := ba hp; obtain ⟨y13, hy13, hp⟩ := hp
    refine L_callM [treeH v4_0] _ rfl fn139.h rfl pc (by exact fun w hw => sl_SortFunc_implIdimplId_walk w v4_0 140 [Value.pointer (some ⟨bk2, 0, none⟩)] (fun z0 z1 => i_part_c1 z0 z1 (GT.dat a0)) fn140.h (fun w' F u0 u1 v hF hu0 hu1 hv => i_part_c1_walk w' u0 u1 bk2 a0 hu0 hu1 (cells_of_blk (List.mem_append_right _ mm) (Holds.frame hw hF).sees) (rd_carry ((RdX.old h0) w hw) hF) v hv) _ hy13) ?_
    rintro _ _ ⟨y13y0, rfl, rfl, rfl, hey13_0⟩
    try rw [← hey13_0]
    refine sc ?_
    replace hp := dd hp
    refine s6 ?_
    obtain rfl := Option.some.inj hp
    refine s1 ?_
    refine res1 rfl (ResOK.tmp rfl) ⟨y13y0, rfl, rfl, rfl⟩ ms
noncomputable def i_isFree (a0 : List D_Inst) (a1 : List D_Id) (a2 : List D_Id) : Option Bool :=
  whileP (fun s1 : Int => cond (decide (s1 < (a1.length : Int))) (Option.bind (idx a1 s1) (fun y3 => Option.bind (i_InstAt a0 (y3.1, y3.2)) (fun y4 => whileP (fun s5 : Int => cond (decide (s5 < (y4.2.2.2.2.2.2.1.length : Int))) (Option.bind (idx y4.2.2.2.2.2.2.1 s5) (fun y7 => Option.bind (sl_Contains_implIdimplId a1 (y7.1, y7.2)) (fun y8 => gb (!y8) (sl_Contains_implIdimplId a2 (y7.1, y7.2)) (fun y9 => cond ((!y8) && (!y9)) (Option.map .inr (Option.map .inr (some false))) (some (.inl (IntKind.wrap .i64 (s5 + 1)))))))) (Option.map .inr (some (.inl (IntKind.wrap .i64 (s1 + 1)))))) 0))) (Option.map .inr (some true))) 0
theorem i_isFree_walk (w : World) (a0 : TL T_Inst) (a1 : TL T_Id) (a2 : TL T_Id) (h0 : GT.rd w [] a0) (h1 : GT.rd w [] a1) (h2 : GT.rd w [] a2) (r : Bool) (hp : i_isFree (GT.dat a0) (GT.dat a1) (GT.dat a2) = some r) : Spec Tryz.prog 104 [(TL.hdr a0), (TL.hdr a1), (TL.hdr a2)].toArray w [] (IsV (.bool r)) := by
  refine Spec.intro Tryz.func104 rfl Tryz.ntmps104 rfl ?_
  unfold i_isFree at hp
  replace hp := dd hp
  refine s12 ?_
  refine W_while (σ := Int) GT.dat (fun (v1_0 : Int) => [(13, .int .i64 v1_0)]) (fun (v1_0 : Int) => []) [(0, _), (1, _), (2, _), (11, _), (12, _)] [] 0 hp sb ms ?_
  clear hp
  rintro v1_0 x1 hp hx1
  replace hp := dd hp
  refine kq [0, 1, 2, 11, 12, 13] ?_
  refine s5 ?_
  refine kp [0, 1, 2, 11, 12, 13, 14] ?_
  refine W_cond rfl (fun hc2 => ?_) (fun hc2 => ?_)
  · replace hp := cond_t hc2 hp
    refine s5 ?_
    replace hp := idx_bind hp; obtain ⟨⟨u3_1, u3_2⟩, hy3, hp⟩ := hp
    refine L_idxA (X := a1) rfl rfl rfl el51.h (RdT.old h1) hy3 ?_
    refine L_loadW rfl rfl (RdT.at (RdT.old h1) (hy3).2) (by exact agg71.h) ?_
    refine al fun bk8 => ?_
    refine s6 ?_
    replace hp := ba hp; obtain ⟨y4, hy4, hp⟩ := hp
    refine L_callR rfl fn45.h rfl (by exact fun w hw => i_InstAt_walk w a0 (u3_1, u3_2) (RdT.now (RdT.old h0) hw) (RdT.now (RdT.pair RdT.int RdT.int) hw) _ hy4) ?_
    rintro _ _ ⟨⟨⟨y4x0_1, y4x0_2⟩, y4x0_3, y4x0_4, y4x0_5, ⟨y4x0_6, y4x0_7, y4x0_8, y4x0_9, y4x0_10, y4x0_11, y4x0_12, y4x0_13⟩, y4x0_14, y4x0_15, y4x0_16⟩, rfl, rfl, rfl⟩
    refine sc ?_
    replace hp := dd hp
    refine xL (((y4x0_1, y4x0_2), y4x0_3, y4x0_4, y4x0_5, (y4x0_6, y4x0_7, y4x0_8, y4x0_9, y4x0_10, y4x0_11, y4x0_12, y4x0_13), y4x0_14, y4x0_15, y4x0_16) : T_Inst) ?_
    refine L_field rfl rfl (show fld1 _ 79 6 = some 14 by kernel_rfl) rfl ?_
    refine s4 ?_
    refine W_while (σ := Int) GT.dat (fun (v5_0 : Int) => [(22, .int .i64 v5_0)]) (fun (v5_0 : Int) => []) [(0, _), (1, _), (2, _), (11, _), (12, _), (13, _), (20, _), (21, _)] [treeH y4x0_15] 0 hp sb ms ?_
    clear hp
    rintro v5_0 x5 hp hx5
    replace hp := dd hp
    refine kq [0, 1, 2, 11, 12, 13, 20, 21, 22] ?_
    refine s5 ?_
    refine kp [0, 1, 2, 11, 12, 13, 20, 21, 22, 23] ?_
    refine W_cond rfl (fun hc6 => ?_) (fun hc6 => ?_)
    · replace hp := cond_t hc6 hp
      refine s5 ?_
      replace hp := idx_bind hp; obtain ⟨⟨u7_1, u7_2⟩, hy7, hp⟩ := hp
      refine L_idxA (X := y4x0_15) rfl rfl rfl el51.h (RdT.tree mm) hy7 ?_
      refine L_loadW rfl rfl (RdT.at (RdT.tree mm) (hy7).2) (by exact agg71.h) ?_
      refine al fun bk10 => ?_
      refine s3 ?_
      replace hp := ba hp; obtain ⟨y8, hy8, hp⟩ := hp
      replace hp := gb_any hp; obtain ⟨y9, hy9, hp⟩ := hp
      refine W_D0 [35] mix (by kernel_rfl) rfl ?_
      refine s2 ?_
      refine D_callX GC.none fn99.h (OpVs.cons (OpV.t rfl) (OpVs.cons (OpV.t rfl) (OpVs.nil))) (by exact fun hg w F hF hM => sl_Contains_implIdimplId_walk w a1 (u7_1, u7_2) (RdT.nowS (RdT.old h1) hF hM) (RdT.nowS (RdT.pair RdT.int RdT.int) hF hM) _ hy8) ?_
      refine s4 ?_
      refine D_callX (GC.some rfl rfl) fn99.h (OpVs.cons (OpV.s rfl) (OpVs.cons (OpV.s rfl) (OpVs.nil))) (by exact fun hg w F hF hM => sl_Contains_implIdimplId_walk w a2 (u7_1, u7_2) (RdT.nowS (RdT.old h2) hF hM) (RdT.nowS (RdT.pair RdT.int RdT.int) hF hM) _ (hy9 hg.2)) ?_
      refine s14 ?_
      refine kp [0, 1, 2, 11, 12, 13, 20, 21, 22, 35] ?_
      refine W_cond rfl (fun hc10 => ?_) (fun hc10 => ?_)
      · replace hp := cond_t hc10 hp
        refine s4 ?_
        replace hp := map_any hp; obtain ⟨a11, hp, hx_a11⟩ := hp
        obtain rfl := hx5 _ hx_a11
        replace hp := map_any hp; obtain ⟨a12, hp, hx_a12⟩ := hp
        obtain rfl := hx1 _ hx_a12
        obtain rfl := Option.some.inj hp
        refine s1 ?_
        refine res1 rfl (ResOK.tmp rfl) ⟨rfl, rfl⟩ ms
      · replace hp := cond_f hc10 hp
        refine s5 ?_
        exact ⟨IntKind.wrap .i64 (v5_0 + 1), sb, (.sub ms), some_eq hp⟩
    · replace hp := cond_f hc6 hp
      refine W_exit ?_
      replace hp := map_any hp; obtain ⟨a13, hp, hx_a13⟩ := hp
      obtain rfl := hx5 _ hx_a13
      refine s4 ?_
      exact ⟨IntKind.wrap .i64 (v1_0 + 1), sb, (.sub ms), some_eq hp⟩
  · replace hp := cond_f hc2 hp
    refine W_exit ?_
    replace hp := map_any hp; obtain ⟨a14, hp, hx_a14⟩ := hp
    obtain rfl := hx1 _ hx_a14
    refine s4 ?_
    obtain rfl := Option.some.inj hp
    refine s1 ?_
    refine res1 rfl (ResOK.tmp rfl) ⟨rfl, rfl⟩ ms
noncomputable def i_Parts_c1 (a0 : List D_Id) (c0 : D_Inst) : Option Bool :=
  Option.bind (sl_Contains_implIdimplId a0 (c0.1.1, c0.1.2)) (fun y1 => some y1)
theorem i_Parts_c1_walk (w : World) (a0 : TL T_Id) (b0 : Nat) (c0 : T_Inst) (h0 : GT.rd w [] a0) (hb0 : Cells w [] b0 0 (GT.cells c0)) (hc0 : GT.rd w [] c0) (r : Bool) (hp : i_Parts_c1 (GT.dat a0) (GT.dat c0) = some r) : Spec Tryz.prog 98 ([((TL.hdr a0) : Value)] ++ [Value.pointer (some ⟨b0, 0, none⟩)]).toArray w [] (IsV (.bool r)) := by
  obtain ⟨⟨c0_1, c0_2⟩, c0_3, c0_4, c0_5, ⟨c0_6, c0_7, c0_8, c0_9, c0_10, c0_11, c0_12, c0_13⟩, c0_14, c0_15, c0_16⟩ := c0
  change Spec _ _ ([(TL.hdr a0), Value.pointer (some ⟨b0, 0, none⟩)] : List Value).toArray w [] _
  refine Spec.intro Tryz.func98 rfl Tryz.ntmps98 rfl ?_
  unfold i_Parts_c1 at hp
  replace hp := dd hp
  refine s8 ?_
  refine L_loadW rfl rfl (RdC.seg (RdC.old hb0) 0 2 rfl) (by exact agg71.h) ?_
  replace hp := ba hp; obtain ⟨y1, hy1, hp⟩ := hp
  refine L_callX rfl fn99.h rfl (by exact fun w hw => sl_Contains_implIdimplId_walk w a0 (c0_1, c0_2) (RdT.now (RdT.old h0) hw) (RdT.now (RdT.pair RdT.int RdT.int) hw) _ hy1) ?_
  refine s2 ?_
  obtain rfl := Option.some.inj hp
  refine s1 ?_
  refine res1 rfl (ResOK.tmp rfl) ⟨rfl, rfl⟩ ms
noncomputable def sl_IndexFunc_implIdimplId (a0 : List (List D_Id)) (a1 : (List D_Id) → Option Bool) : Option Int :=
  whileP (fun s1 : Int => cond (decide (s1 < (a0.length : Int))) (Option.bind (idx a0 s1) (fun y3 => Option.bind (a1 y3) (fun y4 => cond y4 (Option.map .inr (some s1)) (some (.inl (IntKind.wrap .i64 (s1 + 1))))))) (Option.map .inr (some (-1)))) 0
theorem sl_IndexFunc_implIdimplId_walk (w : World) (a0 : TL (TL T_Id)) (f1 : Nat) (cs1 : List Value) (a1 : (List D_Id) → Option Bool) (h0 : GT.rd w [] a0) (hf1 : IsFn Tryz.prog f1) (hk1 : ∀ (w' : World) (F : List HP) (u0 : TL T_Id) (v : Bool), Holds w [] F w' → GT.rd w' [] u0 → a1 (GT.dat u0) = some v → Spec Tryz.prog f1 ([((TL.hdr u0) : Value)] ++ cs1).toArray w' [] (IsV (.bool v))) (r : Int) (hp : sl_IndexFunc_implIdimplId (GT.dat a0) a1 = some r) : Spec Tryz.prog 102 [(TL.hdr a0), .func (.func f1) #[] cs1.toArray].toArray w [] (IsV (.int .i64 r)) := by
  refine Spec.intro Tryz.func102 rfl Tryz.ntmps102 rfl ?_
  unfold sl_IndexFunc_implIdimplId at hp
  replace hp := dd hp
  refine s12 ?_
  refine W_while (σ := Int) GT.dat (fun (v1_0 : Int) => [(8, .int .i64 v1_0)]) (fun (v1_0 : Int) => []) [(0, _), (1, _), (7, _)] [] 0 hp sb ms ?_
  clear hp
  rintro v1_0 x1 hp hx1
  replace hp := dd hp
  refine kq [0, 1, 7, 8] ?_
  refine s5 ?_
  refine kp [0, 1, 7, 8, 9] ?_
  refine W_cond rfl (fun hc2 => ?_) (fun hc2 => ?_)
  · replace hp := cond_t hc2 hp
    refine s13 ?_
    replace hp := idx_bind hp; obtain ⟨u3, hy3, hp⟩ := hp
    refine L_idxA (X := a0) rfl rfl rfl el85.h (RdT.old h0) hy3 ?_
    refine L_load0 rfl rfl (RdT.at (RdT.old h0) (hy3).2) one51.h rfl ?_
    replace hp := ba hp; obtain ⟨y4, hy4, hp⟩ := hp
    refine L_callVX rfl rfl hf1 rfl (by exact fun w hw => hk1 w _ u3 y4 hw (RdT.now (RdT.of (RdT.old h0) (hy3).2) hw) hy4) ?_
    refine s1 ?_
    refine kp [0, 1, 5, 7, 8, 16] ?_
    refine W_cond rfl (fun hc5 => ?_) (fun hc5 => ?_)
    · replace hp := cond_t hc5 hp
      refine s5 ?_
      replace hp := map_any hp; obtain ⟨a6, hp, hx_a6⟩ := hp
      obtain rfl := hx1 _ hx_a6
      obtain rfl := Option.some.inj hp
      refine s1 ?_
      refine res1 rfl (ResOK.tmp rfl) ⟨rfl, rfl⟩ ms
    · replace hp := cond_f hc5 hp
      refine s5 ?_
      exact ⟨IntKind.wrap .i64 (v1_0 + 1), sb, (.sub ms), some_eq hp⟩
  · replace hp := cond_f hc2 hp
    refine W_exit ?_
    replace hp := map_any hp; obtain ⟨a7, hp, hx_a7⟩ := hp
    obtain rfl := hx1 _ hx_a7
    refine s4 ?_
    obtain rfl := Option.some.inj hp
    refine s1 ?_
    refine res1 rfl (ResOK.tmp rfl) ⟨rfl, rfl⟩ ms
noncomputable def sl_ContainsFunc_implIdimplId (a0 : List (List D_Id)) (a1 : (List D_Id) → Option Bool) : Option Bool :=
  Option.bind (sl_IndexFunc_implIdimplId a0 a1) (fun y1 => some (decide (0 ≤ y1)))
theorem sl_ContainsFunc_implIdimplId_walk (w : World) (a0 : TL (TL T_Id)) (f1 : Nat) (cs1 : List Value) (a1 : (List D_Id) → Option Bool) (h0 : GT.rd w [] a0) (hf1 : IsFn Tryz.prog f1) (hk1 : ∀ (w' : World) (F : List HP) (u0 : TL T_Id) (v : Bool), Holds w [] F w' → GT.rd w' [] u0 → a1 (GT.dat u0) = some v → Spec Tryz.prog f1 ([((TL.hdr u0) : Value)] ++ cs1).toArray w' [] (IsV (.bool v))) (r : Bool) (hp : sl_ContainsFunc_implIdimplId (GT.dat a0) a1 = some r) : Spec Tryz.prog 97 [(TL.hdr a0), .func (.func f1) #[] cs1.toArray].toArray w [] (IsV (.bool r)) := by
  refine Spec.intro Tryz.func97 rfl Tryz.ntmps97 rfl ?_
  unfold sl_ContainsFunc_implIdimplId at hp
  replace hp := dd hp
  refine s8 ?_
  replace hp := ba hp; obtain ⟨y1, hy1, hp⟩ := hp
  refine L_callX rfl fn102.h rfl (by exact fun w hw => sl_IndexFunc_implIdimplId_walk w a0 f1 cs1 a1 (RdT.now (RdT.old h0) hw) hf1 (fun w' F u0 v hF hu0 hv => hk1 w' _ u0 v (Holds.frame (M1 := []) (M2 := _) hw hF) hu0 hv) _ hy1) ?_
  refine s3 ?_
  obtain rfl := Option.some.inj hp
  refine s1 ?_
  refine res1 rfl (ResOK.tmp rfl) ⟨rfl, rfl⟩ ms
noncomputable def i_Parts_c2 (a0 : List D_Id) (c0 : List D_Inst) (c1 : List D_Id) : Option Bool :=
  Option.bind (i_isFree c0 a0 c1) (fun y1 => some y1)
theorem i_Parts_c2_walk (w : World) (a0 : TL T_Id) (b0 : Nat) (c0 : TL T_Inst) (b1 : Nat) (c1 : TL T_Id) (h0 : GT.rd w [] a0) (hb0 : Cells w [] b0 0 (GT.cells c0)) (hc0 : GT.rd w [] c0) (hb1 : Cells w [] b1 0 (GT.cells c1)) (hc1 : GT.rd w [] c1) (r : Bool) (hp : i_Parts_c2 (GT.dat a0) (GT.dat c0) (GT.dat c1) = some r) : Spec Tryz.prog 103 ([((TL.hdr a0) : Value)] ++ [Value.pointer (some ⟨b0, 0, none⟩), Value.pointer (some ⟨b1, 0, none⟩)]).toArray w [] (IsV (.bool r)) := by
  change Spec _ _ ([(TL.hdr a0), Value.pointer (some ⟨b0, 0, none⟩), Value.pointer (some ⟨b1, 0, none⟩)] : List Value).toArray w [] _
  refine Spec.intro Tryz.func103 rfl Tryz.ntmps103 rfl ?_
  unfold i_Parts_c2 at hp
  replace hp := dd hp
  refine s6 ?_
  refine L_load0 rfl rfl (RdC.old hb0) one43.h rfl ?_
  refine s1 ?_
  refine L_load0 rfl rfl (RdC.old hb1) one51.h rfl ?_
  replace hp := ba hp; obtain ⟨y1, hy1, hp⟩ := hp
  refine L_callX rfl fn104.h rfl (by exact fun w hw => i_isFree_walk w c0 a0 c1 (RdT.now (RdT.old hc0) hw) (RdT.now (RdT.old h0) hw) (RdT.now (RdT.old hc1) hw) _ hy1) ?_
  refine s2 ?_
  obtain rfl := Option.some.inj hp
  refine s1 ?_
  refine res1 rfl (ResOK.tmp rfl) ⟨rfl, rfl⟩ ms
noncomputable def i_Parts (a0 : List D_Inst) : Option (List (List D_Id)) :=
  Option.bind (i_InstsOk a0) (fun y1 => cond (!y1) (some ([] : List (List D_Id))) (Option.bind (some ([] : List (List D_Id))) (fun y4 => whileP (fun s5 : (List (List D_Id)) × Int => cond (decide (s5.2 < (a0.length : Int))) (Option.bind (idx a0 s5.2) (fun y7 => Option.bind (sl_ContainsFunc_implIdimplId s5.1 (fun z0 => i_Parts_c1 z0 ((y7.1.1, y7.1.2), y7.2.1, y7.2.2.1, y7.2.2.2.1, (y7.2.2.2.2.1.1, y7.2.2.2.2.1.2.1, y7.2.2.2.2.1.2.2.1, y7.2.2.2.2.1.2.2.2.1, y7.2.2.2.2.1.2.2.2.2.1, y7.2.2.2.2.1.2.2.2.2.2.1, y7.2.2.2.2.1.2.2.2.2.2.2.1, y7.2.2.2.2.1.2.2.2.2.2.2.2), y7.2.2.2.2.2.1, y7.2.2.2.2.2.2.1, y7.2.2.2.2.2.2.2))) (fun y8 => gb (!y8) (i_Ready a0 (y7.1.1, y7.1.2)) (fun y9 => cond ((!y8) && y9) (Option.bind (i_part a0 (y7.1.1, y7.1.2)) (fun y11 => Option.bind (appP s5.1 [y11]) (fun y13 => some (.inl ((y13, IntKind.wrap .i64 (s5.2 + 1))))))) (some (.inl ((s5.1, IntKind.wrap .i64 (s5.2 + 1))))))))) (Option.map .inr (Option.bind (some ([] : List (List D_Id))) (fun y16 => Option.bind (some ([] : List D_Id)) (fun y18 => whileP (fun s19 : (List (List D_Id)) × (List (List D_Id)) × (List D_Id) => cond (decide (0 < (s19.1.length : Int))) (Option.bind (sl_IndexFunc_implIdimplId s19.1 (fun z0 => i_Parts_c2 z0 a0 s19.2.2)) (fun y21 => cond (decide (y21 < 0)) (Option.map .inr (some s19.2.1)) (Option.bind (idx s19.1 y21) (fun y24 => Option.bind (appP s19.2.1 [y24]) (fun y26 => Option.bind (idx s19.1 y21) (fun y27 => Option.bind (appP s19.2.2 y24) (fun y29 => Option.bind (delP s19.1 y21 (IntKind.wrap .i64 (y21 + 1))) (fun y30 => some (.inl ((y30, y26, y29))))))))))) (Option.map .inr (some s19.2.1))) (s5.1, y16, y18)))))) (y4, 0))))
theorem i_Parts_walk (w : World) (a0 : TL T_Inst) (h0 : GT.rd w [] a0) (r : (List (List D_Id))) (hp : i_Parts (GT.dat a0) = some r) : Spec Tryz.prog 49 [(TL.hdr a0)].toArray w [] (fun v M => ∃ (x0 : TL (TL T_Id)), v = (TL.hdr x0) ∧ GT.dat x0 = r ∧ M = [treeH x0]) := by
  refine Spec.intro Tryz.func49 rfl Tryz.ntmps49 rfl ?_
  unfold i_Parts at hp
  replace hp := dd hp
  refine s2 ?_
  refine bx fun bk1 => ?_
  refine L_assign (v := (TL.hdr (TL.nil (TL T_Id) 0))) rfl rfl ?_
  refine s4 ?_
  refine L_load0 rfl rfl (RdC.blk mm) one43.h rfl ?_
  replace hp := ba hp; obtain ⟨y1, hy1, hp⟩ := hp
  refine L_callX rfl fn77.h rfl (by exact fun w hw => i_InstsOk_walk w a0 (RdT.now (RdT.old h0) hw) _ hy1) ?_
  refine s2 ?_
  refine kp [1, 12] ?_
  refine W_cond rfl (fun hc2 => ?_) (fun hc2 => ?_)
  · replace hp := cond_t hc2 hp
    refine s2 ?_
    refine L_assign (v := (TL.hdr (TL.nil (TL T_Id) 0))) rfl rfl ?_
    refine s1 ?_
    obtain rfl := Option.some.inj hp
    refine W_conv (M' := treeH (TL.nil (TL T_Id) 0) :: _) (fun w h => addNilT (τ := TL T_Id) 0 h) ?_
    refine s1 ?_
    refine res1 rfl (ResOK.tmp rfl) ⟨(TL.nil (TL T_Id) 0), rfl, rfl, rfl⟩ ms
  · replace hp := cond_f hc2 hp
    refine s3 ?_
    replace hp := ba hp; obtain ⟨y4, hy4, hp⟩ := hp
    refine L_mk0 (TL T_Id) rfl el85.h (fun X3 hdX3 => ?_)
    obtain rfl : GT.dat X3 = y4 := hdX3.trans (Option.some.inj hy4)
    clear hy4 hdX3
    refine s5 ?_
    refine L_load0 rfl rfl (RdC.blk mm) one43.h rfl ?_
    refine s4 ?_
    refine W_while (σ := (TL (TL T_Id)) × Int) GT.dat (fun ((v5_0, v5_1) : (TL (TL T_Id)) × Int) => [(3, (TL.hdr v5_0)), (16, .int .i64 v5_1)]) (fun ((v5_0, v5_1) : (TL (TL T_Id)) × Int) => [treeH v5_0]) [(1, _), (14, _), (15, _)] [blk bk1 _ _] (X3, 0) hp sb ms ?_
    clear hp
    rintro ⟨v5_0, v5_1⟩ x5 hp hx5
    replace hp := dd hp
    refine kq [1, 3, 14, 15, 16] ?_
    refine s5 ?_
    refine kp [1, 3, 14, 15, 16, 17] ?_
    refine W_cond rfl (fun hc6 => ?_) (fun hc6 => ?_)
    · replace hp := cond_t hc6 hp
      refine s5 ?_
      replace hp := idx_bind hp; obtain ⟨⟨⟨u7_1, u7_2⟩, u7_3, u7_4, u7_5, ⟨u7_6, u7_7, u7_8, u7_9, u7_10, u7_11, u7_12, u7_13⟩, u7_14, u7_15, u7_16⟩, hy7, hp⟩ := hp
      refine L_idxA (X := a0) rfl rfl rfl el43.h (RdT.old h0) hy7 ?_
      refine L_loadW rfl rfl (RdT.at (RdT.old h0) (hy7).2) (by exact agg79.h) ?_
      refine al fun bk5 => ?_
      refine s5 ?_
      refine L_makeFunc (fs := []) (cs := [.tmp 5]) rfl rfl rfl ?_
      replace hp := ba hp; obtain ⟨y8, hy8, hp⟩ := hp
      refine L_callX rfl fn97.h rfl (by exact fun w hw => sl_ContainsFunc_implIdimplId_walk w v5_0 98 [Value.pointer (some ⟨bk5, 0, none⟩)] (fun z0 => i_Parts_c1 z0 ((u7_1, u7_2), u7_3, u7_4, u7_5, (u7_6, u7_7, u7_8, u7_9, u7_10, u7_11, u7_12, GT.dat u7_13), u7_14, GT.dat u7_15, u7_16)) (RdT.now (RdT.tree mm) hw) fn98.h (fun w' F u0 v hF hu0 hv => i_Parts_c1_walk w' u0 bk5 ((u7_1, u7_2), u7_3, u7_4, u7_5, (u7_6, u7_7, u7_8, u7_9, u7_10, u7_11, u7_12, u7_13), u7_14, u7_15, u7_16) hu0 ((cells_of_blk mm hw.sees).carry hF) (rd_carry (RdT.now (RdT.pair (RdT.pair RdT.int RdT.int) (RdT.pair RdT.int (RdT.pair RdT.int (RdT.pair RdT.int (RdT.pair (RdT.pair RdT.int (RdT.pair RdT.int (RdT.pair RdT.int (RdT.pair RdT.str (RdT.pair RdT.str (RdT.pair RdT.str (RdT.pair RdT.int (RdT.snd (RdT.snd (RdT.snd (RdT.snd (RdT.snd (RdT.snd (RdT.snd (RdT.fst (RdT.snd (RdT.snd (RdT.snd (RdT.snd (RdT.of (RdT.old h0) (hy7).2)))))))))))))))))))) (RdT.pair RdT.int (RdT.pair (RdT.fst (RdT.snd (RdT.snd (RdT.snd (RdT.snd (RdT.snd (RdT.snd (RdT.of (RdT.old h0) (hy7).2)))))))) RdT.bool))))))) hw) hF) v hv) _ hy8) ?_
      refine s3 ?_
      replace hp := gb_any hp; obtain ⟨y9, hy9, hp⟩ := hp
      refine W_D0 [30] mix (by kernel_rfl) rfl ?_
      refine s3 ?_
      refine D_load0 (GC.some rfl rfl) (OpV.t rfl) (fun hg => RdC.blk mm) one43.h rfl ?_
      refine s1 ?_
      refine D_loadW (GC.some rfl rfl) (OpV.s rfl) (fun hg => RdC.seg (RdC.blk mm) 0 2 rfl) (by exact agg71.h) ?_
      refine D_callX (GC.some rfl rfl) fn100.h (OpVs.cons (OpV.s rfl) (OpVs.cons (OpV.s rfl) (OpVs.nil))) (by exact fun hg w F hF hM => i_Ready_walk w a0 (u7_1, u7_2) (RdT.nowS (RdT.old h0) hF hM) (RdT.nowS (RdT.pair RdT.int RdT.int) hF hM) _ (hy9 hg.2)) ?_
      refine s11 ?_
      refine kp [1, 3, 5, 14, 15, 16, 30] ?_
      refine W_cond rfl (fun hc10 => ?_) (fun hc10 => ?_)
      · replace hp := cond_t hc10 hp
        refine s2 ?_
        refine L_load0 rfl rfl (RdC.blk mm) one43.h rfl ?_
        refine s1 ?_
        refine L_loadW rfl rfl (RdC.seg (RdC.blk mm) 0 2 rfl) (by exact agg71.h) ?_
        replace hp := ba hp; obtain ⟨y11, hy11, hp⟩ := hp
        refine L_callR rfl fn101.h rfl (by exact fun w hw => i_part_walk w a0 (u7_1, u7_2) (RdT.now (RdT.old h0) hw) (RdT.now (RdT.pair RdT.int RdT.int) hw) _ hy11) ?_
        rintro _ _ ⟨y11x0, rfl, rfl, rfl⟩
        refine sc ?_
        replace hp := dd hp
        refine L_buildSlice1 rfl rfl el85.h rfl (by decide) (by decide) rfl (fun bb36 => ?_)
        replace hp := ba hp; obtain ⟨y13, hy13, hp⟩ := hp
        refine L_app1m (X := v5_0) (y11x0 : (TL T_Id)) rfl rfl rfl el85.h rfl rfl pk mm pk hy13 (by decide) (fun X12 hdX12 hmX12 => ?_)
        subst hdX12
        refine s6 ?_
        exact ⟨(X12, IntKind.wrap .i64 (v5_1 + 1)), sb, (.sub ms), some_eq hp⟩
      · replace hp := cond_f hc10 hp
        refine s5 ?_
        exact ⟨(v5_0, IntKind.wrap .i64 (v5_1 + 1)), sb, (.sub ms), some_eq hp⟩
    · replace hp := cond_f hc6 hp
      refine W_exit ?_
      replace hp := map_any hp; obtain ⟨a14, hp, hx_a14⟩ := hp
      obtain rfl := hx5 _ hx_a14
      refine s2 ?_
      replace hp := ba hp; obtain ⟨y16, hy16, hp⟩ := hp
      refine L_mk0 (TL T_Id) rfl el85.h (fun X15 hdX15 => ?_)
      obtain rfl : GT.dat X15 = y16 := hdX15.trans (Option.some.inj hy16)
      clear hy16 hdX15
      refine s4 ?_
      replace hp := ba hp; obtain ⟨y18, hy18, hp⟩ := hp
      refine L_mk0 T_Id rfl el51.h (fun X17 hdX17 => ?_)
      obtain rfl : GT.dat X17 = y18 := hdX17.trans (Option.some.inj hy18)
      clear hy18 hdX17
      refine al fun bk8 => ?_
      refine L_store0 rfl rfl pk one51.h rfl ?_
      refine s3 ?_
      refine W_while (σ := (TL (TL T_Id)) × (TL (TL T_Id)) × (TL T_Id)) GT.dat (fun ((v19_0, v19_1, v19_2) : (TL (TL T_Id)) × (TL (TL T_Id)) × (TL T_Id)) => [(3, (TL.hdr v19_0)), (7, (TL.hdr v19_1))]) (fun ((v19_0, v19_1, v19_2) : (TL (TL T_Id)) × (TL (TL T_Id)) × (TL T_Id)) => [blk bk8 [(TL.hdr v19_2)] 51, treeH v19_0, treeH v19_1, treeH v19_2]) [(1, _), (8, _)] [blk bk1 _ _] (v5_0, X15, X17) hp sb ms ?_
      clear hp
      rintro ⟨v19_0, v19_1, v19_2⟩ x19 hp hx19
      replace hp := dd hp
      refine kq [1, 3, 7, 8] ?_
      refine s7 ?_
      refine kp [1, 3, 7, 8, 43] ?_
      refine W_cond rfl (fun hc20 => ?_) (fun hc20 => ?_)
      · replace hp := cond_t hc20 hp
        refine s5 ?_
        refine L_makeFunc (fs := []) (cs := [.tmp 1, .tmp 8]) rfl rfl rfl ?_
        replace hp := ba hp; obtain ⟨y21, hy21, hp⟩ := hp
        refine L_callX rfl fn102.h rfl (by exact fun w hw => sl_IndexFunc_implIdimplId_walk w v19_0 103 [Value.pointer (some ⟨bk1, 0, none⟩), Value.pointer (some ⟨bk8, 0, none⟩)] (fun z0 => i_Parts_c2 z0 (GT.dat a0) (GT.dat v19_2)) (RdT.now (RdT.tree mm) hw) fn103.h (fun w' F u0 v hF hu0 hv => i_Parts_c2_walk w' u0 bk1 a0 bk8 v19_2 hu0 ((cells_of_blk mm hw.sees).carry hF) (rd_carry (RdT.now (RdT.old h0) hw) hF) ((cells_of_blk mm hw.sees).carry hF) (rd_carry (RdT.now (RdT.tree mm) hw) hF) v hv) _ hy21) ?_
        refine s8 ?_
        refine kp [1, 3, 7, 8, 9, 48] ?_
        refine W_cond rfl (fun hc22 => ?_) (fun hc22 => ?_)
        · replace hp := cond_t hc22 hp
          refine W_exit ?_
          replace hp := map_any hp; obtain ⟨a23, hp, hx_a23⟩ := hp
          obtain rfl := hx19 _ hx_a23
          refine s5 ?_
          obtain rfl := Option.some.inj hp
          refine s1 ?_
          refine res1 rfl (ResOK.tmp rfl) ⟨v19_1, rfl, rfl, rfl⟩ ms
        · replace hp := cond_f hc22 hp
          refine s6 ?_
          replace hp := idx_bind hp; obtain ⟨u24, hy24, hp⟩ := hp
          refine L_idxA (X := v19_0) rfl rfl rfl el85.h (RdT.tree mm) hy24 ?_
          refine L_load0 rfl rfl (RdT.at (RdT.tree mm) (hy24).2) one51.h rfl ?_
          refine L_buildSlice1 rfl rfl el85.h rfl (by decide) (by decide) rfl (fun bb54 => ?_)
          replace hp := ba hp; obtain ⟨y26, hy26, hp⟩ := hp
          refine L_conv (M' := treeH u24 :: holeH v19_0 (y21.toNat) (GT.cells u24) :: _) (fun w h => hole_open hy24.2 pk h) ?_
          refine L_app1m (X := v19_1) (u24 : (TL T_Id)) rfl rfl rfl el85.h rfl rfl pk mm pk hy26 (by decide) (fun X25 hdX25 hmX25 => ?_)
          subst hdX25
          refine s3 ?_
          replace hp := idx_bind hp; obtain ⟨u27, hy27, hp⟩ := hp
          obtain rfl : u24 = u27 := Option.some.inj (hy24.2.symm.trans hy27.2)
          refine W_DS (pre := [_, _, _, _, _]) (suf := [_, _]) [56, 60] [] _ pc mix (by kernel_rfl) (by kernel_rfl) rfl ?_
          refine D_load0 GC.none (OpV.t rfl) (fun hg => RdC.blk mm) one51.h rfl ?_
          refine s2 ?_
          refine D_idxH (X := v19_0) GC.none (OpV.t rfl) (OpV.t rfl) el85.h mm (fun hg => hy24) ?_
          refine D_load0 GC.none (OpV.t rfl) (fun hg => RdC.hole (X := v19_0) mm) one51.h rfl ?_
          refine s7 ?_
          replace hp := ba hp; obtain ⟨y29, hy29, hp⟩ := hp
          refine L_appT (X := v19_2) (Y := u24) rfl rfl rfl el51.h rfl rfl pk (RdT.el (RdT.tree mm) hmX25) hy29 (by decide) (fun X28 hdX28 => ?_)
          subst hdX28
          refine L_store0 rfl rfl pk one51.h rfl ?_
          refine s6 ?_
          replace hp := ba hp; obtain ⟨y30, hy30, hp⟩ := hp
          refine L_callM [holeH v19_0 (y21.toNat) (GT.cells u24)] _ rfl fn105.h rfl pc (by exact fun w hw => sl_Delete_implIdimplId_walkH w v19_0 u24 y21 (IntKind.wrap .i64 (y21 + 1)) hy24.2 rfl _ hy30) ?_
          rintro _ _ ⟨y30x0, rfl, rfl, rfl⟩
          refine sc ?_
          replace hp := dd hp
          refine s2 ?_
          exact ⟨(y30x0, X25, X28), sb, (.sub ms), some_eq hp⟩
      · replace hp := cond_f hc20 hp
        refine W_exit ?_
        replace hp := map_any hp; obtain ⟨a31, hp, hx_a31⟩ := hp
        obtain rfl := hx19 _ hx_a31
        refine s5 ?_
        obtain rfl := Option.some.inj hp
        refine s1 ?_
        refine res1 rfl (ResOK.tmp rfl) ⟨v19_1, rfl, rfl, rfl⟩ ms
noncomputable def i_ExecOrder (a0 : List D_Inst) : Option (List D_Id) :=
  Option.bind (some ([] : List D_Id)) (fun y2 => Option.bind (i_Parts a0) (fun y3 => whileP (fun s4 : (List D_Id) × Int => cond (decide (s4.2 < (y3.length : Int))) (Option.bind (idx y3 s4.2) (fun y6 => Option.bind (appP s4.1 y6) (fun y8 => some (.inl ((y8, IntKind.wrap .i64 (s4.2 + 1))))))) (Option.map .inr (some s4.1))) (y2, 0)))
theorem i_ExecOrder_walk (w : World) (a0 : TL T_Inst) (h0 : GT.rd w [] a0) (r : (List D_Id)) (hp : i_ExecOrder (GT.dat a0) = some r) : Spec Tryz.prog 27 [(TL.hdr a0)].toArray w [] (fun v M => ∃ (x0 : TL T_Id), v = (TL.hdr x0) ∧ GT.dat x0 = r ∧ M = [treeH x0]) := by
  refine Spec.intro Tryz.func27 rfl Tryz.ntmps27 rfl ?_
  unfold i_ExecOrder at hp
  replace hp := dd hp
  refine s2 ?_
  refine L_assign (v := (TL.hdr (TL.nil T_Id 0))) rfl rfl ?_
  refine s3 ?_
  replace hp := ba hp; obtain ⟨y2, hy2, hp⟩ := hp
  refine L_mk0 T_Id rfl el51.h (fun X1 hdX1 => ?_)
  obtain rfl : GT.dat X1 = y2 := hdX1.trans (Option.some.inj hy2)
  clear hy2 hdX1
  refine s6 ?_
  replace hp := ba hp; obtain ⟨y3, hy3, hp⟩ := hp
  refine L_callR rfl fn49.h rfl (by exact fun w hw => i_Parts_walk w a0 (RdT.now (RdT.old h0) hw) _ hy3) ?_
  rintro _ _ ⟨y3x0, rfl, rfl, rfl⟩
  refine sc ?_
  replace hp := dd hp
  refine s4 ?_
  refine W_while (σ := (TL T_Id) × Int) GT.dat (fun ((v4_0, v4_1) : (TL T_Id) × Int) => [(3, (TL.hdr v4_0)), (10, .int .i64 v4_1)]) (fun ((v4_0, v4_1) : (TL T_Id) × Int) => [treeH v4_0]) [(8, _), (9, _)] [treeH y3x0] (X1, 0) hp sb ms ?_
  clear hp
  rintro ⟨v4_0, v4_1⟩ x4 hp hx4
  replace hp := dd hp
  refine kq [3, 8, 9, 10] ?_
  refine s5 ?_
  refine kp [3, 8, 9, 10, 11] ?_
  refine W_cond rfl (fun hc5 => ?_) (fun hc5 => ?_)
  · replace hp := cond_t hc5 hp
    refine s5 ?_
    replace hp := idx_bind hp; obtain ⟨u6, hy6, hp⟩ := hp
    refine L_idxA (X := y3x0) rfl rfl rfl el85.h (RdT.tree mm) hy6 ?_
    refine L_load0 rfl rfl (RdT.at (RdT.tree mm) (hy6).2) one51.h rfl ?_
    refine s5 ?_
    replace hp := ba hp; obtain ⟨y8, hy8, hp⟩ := hp
    refine L_appT (X := v4_0) (Y := u6) rfl rfl rfl el51.h rfl rfl pk (RdT.of (RdT.tree mm) (hy6).2) hy8 (by decide) (fun X7 hdX7 => ?_)
    subst hdX7
    refine s6 ?_
    exact ⟨(X7, IntKind.wrap .i64 (v4_1 + 1)), sb, (.sub ms), some_eq hp⟩
  · replace hp := cond_f hc5 hp
    refine W_exit ?_
    replace hp := map_any hp; obtain ⟨a9, hp, hx_a9⟩ := hp
    obtain rfl := hx4 _ hx_a9
    refine s5 ?_
    obtain rfl := Option.some.inj hp
    refine s1 ?_
    refine res1 rfl (ResOK.tmp rfl) ⟨v4_0, rfl, rfl, rfl⟩ ms
noncomputable def i_Known (a0 : D_ENet) : Option (List Int) :=
  Option.bind (i_ENetOk (a0.1, a0.2)) (fun y1 => cond (!y1) (some ([] : List Int)) (Option.bind (some ([] : List Int)) (fun y4 => whileP (fun s5 : (List Int) × Int => cond (decide (s5.2 < (a0.1.length : Int))) (Option.bind (idx a0.1 s5.2) (fun y7 => Option.bind (i_ExecOrder y7.2.2.1) (fun y8 => Option.bind (appP s5.1 [(y8.length : Int)]) (fun y10 => some (.inl ((y10, IntKind.wrap .i64 (s5.2 + 1)))))))) (Option.map .inr (some s5.1))) (y4, 0))))
theorem i_Known_walk (w : World) (a0 : T_ENet) (h0 : GT.rd w [] a0) (r : (List Int)) (hp : i_Known (GT.dat a0) = some r) : Spec Tryz.prog 11 [.agg (GT.cells a0).toArray].toArray w [] (fun v M => ∃ (x0 : TL Int), v = (TL.hdr x0) ∧ GT.dat x0 = r ∧ M = [treeH x0]) := by
  obtain ⟨a0_1, a0_2⟩ := a0
  change Spec _ _ ([Value.agg #[(TL.hdr a0_1), (TL.hdr a0_2)]] : List Value).toArray w [] _
  refine Spec.intro Tryz.func11 rfl Tryz.ntmps11 rfl ?_
  unfold i_Known at hp
  replace hp := dd hp
  refine s2 ?_
  refine bx fun bk1 => ?_
  refine L_assign (v := (TL.hdr (TL.nil Int 0))) rfl rfl ?_
  refine s5 ?_
  replace hp := ba hp; obtain ⟨y1, hy1, hp⟩ := hp
  refine L_callX rfl fn22.h rfl (by exact fun w hw => i_ENetOk_walk w (a0_1, a0_2) (RdT.now (RdT.pair (RdT.old h0.1) (RdT.old h0.2)) hw) _ hy1) ?_
  refine s2 ?_
  refine kp [1, 8] ?_
  refine W_cond rfl (fun hc2 => ?_) (fun hc2 => ?_)
  · replace hp := cond_t hc2 hp
    refine s2 ?_
    refine L_assign (v := (TL.hdr (TL.nil Int 0))) rfl rfl ?_
    refine s1 ?_
    obtain rfl := Option.some.inj hp
    refine W_conv (M' := treeH (TL.nil Int 0) :: _) (fun w h => addNilT (τ := Int) 0 h) ?_
    refine s1 ?_
    refine res1 rfl (ResOK.tmp rfl) ⟨(TL.nil Int 0), rfl, rfl, rfl⟩ ms
  · replace hp := cond_f hc2 hp
    refine s3 ?_
    replace hp := ba hp; obtain ⟨y4, hy4, hp⟩ := hp
    refine L_mk0 Int rfl el35.h (fun X3 hdX3 => ?_)
    obtain rfl : GT.dat X3 = y4 := hdX3.trans (Option.some.inj hy4)
    clear hy4 hdX3
    refine s11 ?_
    refine W_while (σ := (TL Int) × Int) GT.dat (fun ((v5_0, v5_1) : (TL Int) × Int) => [(3, (TL.hdr v5_0)), (13, .int .i64 v5_1)]) (fun ((v5_0, v5_1) : (TL Int) × Int) => [treeH v5_0]) [(11, _), (12, _)] [] (X3, 0) hp sb ms ?_
    clear hp
    rintro ⟨v5_0, v5_1⟩ x5 hp hx5
    replace hp := dd hp
    refine kq [3, 11, 12, 13] ?_
    refine s5 ?_
    refine kp [3, 11, 12, 13, 14] ?_
    refine W_cond rfl (fun hc6 => ?_) (fun hc6 => ?_)
    · replace hp := cond_t hc6 hp
      refine s5 ?_
      replace hp := idx_bind hp; obtain ⟨⟨u7_1, u7_2, u7_3, u7_4⟩, hy7, hp⟩ := hp
      refine L_idxA (X := a0_1) rfl rfl rfl el28.h (RdT.old h0.1) hy7 ?_
      refine L_loadW rfl rfl (RdT.at (RdT.old h0.1) (hy7).2) (by exact agg46.h) ?_
      refine al fun bk5 => ?_
      refine s6 ?_
      replace hp := ba hp; obtain ⟨y8, hy8, hp⟩ := hp
      refine L_callR rfl fn27.h rfl (by exact fun w hw => i_ExecOrder_walk w u7_3 (RdT.now (RdT.fst (RdT.snd (RdT.snd (RdT.of (RdT.old h0.1) (hy7).2)))) hw) _ hy8) ?_
      rintro _ _ ⟨y8x0, rfl, rfl, rfl⟩
      refine sc ?_
      replace hp := dd hp
      refine s1 ?_
      refine L_buildSlice1 rfl rfl el35.h rfl (by decide) (by decide) rfl (fun bb22 => ?_)
      replace hp := ba hp; obtain ⟨y10, hy10, hp⟩ := hp
      refine L_app1F (X := v5_0) (((GT.dat y8x0).length : Int) : Int) rfl rfl rfl el35.h rfl rfl pk mm  hy10 (by decide) (fun X9 hdX9 => ?_)
      subst hdX9
      refine s6 ?_
      exact ⟨(X9, IntKind.wrap .i64 (v5_1 + 1)), sb, (.sub ms), some_eq hp⟩
    · replace hp := cond_f hc6 hp
      refine W_exit ?_
      replace hp := map_any hp; obtain ⟨a11, hp, hx_a11⟩ := hp
      obtain rfl := hx5 _ hx_a11
      refine s5 ?_
      obtain rfl := Option.some.inj hp
      refine s1 ?_
      refine res1 rfl (ResOK.tmp rfl) ⟨v5_0, rfl, rfl, rfl⟩ ms
end Go.Proofs.SL
namespace Go.Proofs.SL
open Go
set_option maxHeartbeats 2000000
instance fn135 : FnF Tryz.prog 135 := ⟨⟨_, Tryz.func135, by kernel_rfl, rfl⟩⟩
instance fn137 : FnF Tryz.prog 137 := ⟨⟨_, Tryz.func137, by kernel_rfl, rfl⟩⟩
instance fn148 : FnF Tryz.prog 148 := ⟨⟨_, Tryz.func148, by kernel_rfl, rfl⟩⟩
instance fn136 : FnF Tryz.prog 136 := ⟨⟨_, Tryz.func136, by kernel_rfl, rfl⟩⟩
instance fn94 : FnF Tryz.prog 94 := ⟨⟨_, Tryz.func94, by kernel_rfl, rfl⟩⟩
instance fn95 : FnF Tryz.prog 95 := ⟨⟨_, Tryz.func95, by kernel_rfl, rfl⟩⟩
instance fn96 : FnF Tryz.prog 96 := ⟨⟨_, Tryz.func96, by kernel_rfl, rfl⟩⟩
instance fn48 : FnF Tryz.prog 48 := ⟨⟨_, Tryz.func48, by kernel_rfl, rfl⟩⟩
instance fn26 : FnF Tryz.prog 26 := ⟨⟨_, Tryz.func26, by kernel_rfl, rfl⟩⟩
instance fn35 : FnF Tryz.prog 35 := ⟨⟨_, Tryz.func35, by kernel_rfl, rfl⟩⟩
instance fn37 : FnF Tryz.prog 37 := ⟨⟨_, Tryz.func37, by kernel_rfl, rfl⟩⟩
instance fn36 : FnF Tryz.prog 36 := ⟨⟨_, Tryz.func36, by kernel_rfl, rfl⟩⟩
instance fn18 : FnF Tryz.prog 18 := ⟨⟨_, Tryz.func18, by kernel_rfl, rfl⟩⟩
instance fn19 : FnF Tryz.prog 19 := ⟨⟨_, Tryz.func19, by kernel_rfl, rfl⟩⟩
noncomputable def s_l12Find (a0 : List D_Inst) (a1 : D_Id) : Option Int :=
  whileP (fun s1 : Int => cond (decide (s1 < (a0.length : Int))) (Option.bind (idx a0 s1) (fun y3 => gb (decide (y3.1.1 = a1.1) && (decide (y3.1.2 = a1.2) && true)) (idx a0 s1) (fun y4 => cond ((decide (y3.1.1 = a1.1) && (decide (y3.1.2 = a1.2) && true)) && (decide (y4.2.2.2.1 = 3))) (Option.map .inr (some s1)) (some (.inl (IntKind.wrap .i64 (s1 + 1))))))) (Option.map .inr (some (-1)))) 0
theorem s_l12Find_walk (w : World) (a0 : TL T_Inst) (a1 : T_Id) (h0 : GT.rd w [] a0) (h1 : GT.rd w [] a1) (r : Int) (hp : s_l12Find (GT.dat a0) (GT.dat a1) = some r) : Spec Tryz.prog 135 [(TL.hdr a0), .agg (GT.cells a1).toArray].toArray w [] (IsV (.int .i64 r)) := by
  obtain ⟨a1_1, a1_2⟩ := a1
  change Spec _ _ ([(TL.hdr a0), Value.agg #[.int .i64 a1_1, .int .i64 a1_2]] : List Value).toArray w [] _
  refine Spec.intro Tryz.func135 rfl Tryz.ntmps135 rfl ?_
  unfold s_l12Find at hp
  replace hp := dd hp
  refine s2 ?_
  refine bx fun bk3 => ?_
  refine s8 ?_
  refine W_while (σ := Int) GT.dat (fun (v1_0 : Int) => [(5, .int .i64 v1_0)]) (fun (v1_0 : Int) => []) [(0, _), (3, _)] [blk bk3 _ _] 0 hp sb ms ?_
  clear hp
  rintro v1_0 x1 hp hx1
  replace hp := dd hp
  refine kq [0, 3, 5] ?_
  refine s8 ?_
  refine kp [0, 3, 5, 9] ?_
  refine W_cond rfl (fun hc2 => ?_) (fun hc2 => ?_)
  · replace hp := cond_t hc2 hp
    refine s4 ?_
    replace hp := idx_bind hp; obtain ⟨⟨⟨u3_1, u3_2⟩, u3_3, u3_4, u3_5, ⟨u3_6, u3_7, u3_8, u3_9, u3_10, u3_11, u3_12, u3_13⟩, u3_14, u3_15, u3_16⟩, hy3, hp⟩ := hp
    replace hp := idx_gb hp; obtain ⟨⟨⟨u4_1, u4_2⟩, u4_3, u4_4, u4_5, ⟨u4_6, u4_7, u4_8, u4_9, u4_10, u4_11, u4_12, u4_13⟩, u4_14, u4_15, u4_16⟩, hy4, hp⟩ := hp
    refine W_D0 [26] mix (by kernel_rfl) rfl ?_
    refine s2 ?_
    refine D_idxA (X := a0) GC.none (OpV.t rfl) (OpV.t rfl) el43.h (RdT.old h0) (fun _ => hy3) ?_
    refine s1 ?_
    refine D_loadW GC.none (OpV.t rfl) (fun hg => RdC.seg (RdT.at (RdT.old h0) (hy3).2) 0 2 rfl) (by exact agg71.h) ?_
    refine s1 ?_
    refine D_bin GC.none (OpV.t rfl) (OpV.t rfl) (fun hg => (bv_aeql eqsh71 (EqS.consI one3.h und3.h rfl rfl (EqS.consI one3.h und3.h rfl rfl EqS.nil)))) ?_
    refine s3 ?_
    refine D_idxA (X := a0) (GC.some rfl rfl) (OpV.s rfl) (OpV.s rfl) el43.h (RdT.old h0) (fun hg => hy4 hg.2) ?_
    refine s1 ?_
    refine D_load (GC.some rfl rfl) (OpV.s rfl) (fun hg => RdT.at (RdT.old h0) (hy4 hg.2).2) one3.h rfl ?_
    refine s19 ?_
    refine kp [0, 3, 5, 26] ?_
    refine W_cond rfl (fun hc5 => ?_) (fun hc5 => ?_)
    · replace hp := cond_t hc5 hp
      refine s5 ?_
      replace hp := map_any hp; obtain ⟨a6, hp, hx_a6⟩ := hp
      obtain rfl := hx1 _ hx_a6
      obtain rfl := Option.some.inj hp
      refine s1 ?_
      refine res1 rfl (ResOK.tmp rfl) ⟨rfl, rfl⟩ ms
    · replace hp := cond_f hc5 hp
      refine s6 ?_
      exact ⟨IntKind.wrap .i64 (v1_0 + 1), sb, (.sub ms), some_eq hp⟩
  · replace hp := cond_f hc2 hp
    refine W_exit ?_
    replace hp := map_any hp; obtain ⟨a7, hp, hx_a7⟩ := hp
    obtain rfl := hx1 _ hx_a7
    refine s4 ?_
    obtain rfl := Option.some.inj hp
    refine s1 ?_
    refine res1 rfl (ResOK.tmp rfl) ⟨rfl, rfl⟩ ms
noncomputable def s_l12Deps (a0 : List D_Inst) (a1 : D_Id) : Option (List D_Id) :=
  Option.bind (s_l12Find a0 (a1.1, a1.2)) (fun y1 => cond (decide (y1 < 0)) (Option.bind (some ([] : List D_Id)) (fun y4 => some y4)) (Option.bind (idx a0 y1) (fun y5 => some y5.2.2.2.2.2.2.1)))
theorem s_l12Deps_walk (w : World) (a0 : TL T_Inst) (a1 : T_Id) (h0 : GT.rd w [] a0) (h1 : GT.rd w [] a1) (r : (List D_Id)) (hp : s_l12Deps (GT.dat a0) (GT.dat a1) = some r) : Spec Tryz.prog 137 [(TL.hdr a0), .agg (GT.cells a1).toArray].toArray w [] (fun v M => ∃ (x0 : TL T_Id), v = (TL.hdr x0) ∧ GT.dat x0 = r ∧ M = [] ∧ (∀ (w' : World) (S : List Nat), GT.rd w' S a0 → GT.rd w' S a1 → GT.rd w' S x0)) := by
  obtain ⟨a1_1, a1_2⟩ := a1
  change Spec _ _ ([(TL.hdr a0), Value.agg #[.int .i64 a1_1, .int .i64 a1_2]] : List Value).toArray w [] _
  refine Spec.intro Tryz.func137 rfl Tryz.ntmps137 rfl ?_
  unfold s_l12Deps at hp
  replace hp := dd hp
  refine s2 ?_
  refine bx fun bk3 => ?_
  refine L_assign (v := (TL.hdr (TL.nil T_Id 0))) rfl rfl ?_
  refine s5 ?_
  replace hp := ba hp; obtain ⟨y1, hy1, hp⟩ := hp
  refine L_callX rfl fn135.h rfl (by exact fun w hw => s_l12Find_walk w a0 (a1_1, a1_2) (RdT.now (RdT.old h0) hw) (RdT.now (RdT.pair RdT.int RdT.int) hw) _ hy1) ?_
  refine s8 ?_
  refine kp [0, 5, 10] ?_
  refine W_cond rfl (fun hc2 => ?_) (fun hc2 => ?_)
  · replace hp := cond_t hc2 hp
    refine s2 ?_
    replace hp := ba hp; obtain ⟨y4, hy4, hp⟩ := hp
    refine L_mk0r T_Id rfl el51.h (fun X3 hdX3 hrX3 => ?_)
    obtain rfl : GT.dat X3 = y4 := hdX3.trans (Option.some.inj hy4)
    clear hy4 hdX3
    refine s2 ?_
    obtain rfl := Option.some.inj hp
    refine s1 ?_
    refine res1 rfl (ResOK.tmp rfl) ⟨X3, rfl, rfl, rfl, (fun w' S h0 h1 => (RdO.any hrX3))⟩ ms
  · replace hp := cond_f hc2 hp
    refine s5 ?_
    replace hp := idx_bind hp; obtain ⟨⟨⟨u5_1, u5_2⟩, u5_3, u5_4, u5_5, ⟨u5_6, u5_7, u5_8, u5_9, u5_10, u5_11, u5_12, u5_13⟩, u5_14, u5_15, u5_16⟩, hy5, hp⟩ := hp
    refine L_idxA (X := a0) rfl rfl rfl el43.h (RdT.old h0) hy5 ?_
    refine s1 ?_
    refine L_load rfl rfl (RdT.at (RdT.old h0) (hy5).2) one51.h rfl ?_
    refine s2 ?_
    obtain rfl := Option.some.inj hp
    refine s1 ?_
    refine res1 rfl (ResOK.tmp rfl) ⟨u5_15, rfl, rfl, rfl, (fun w' S h0 h1 => (RdO.fst (RdO.snd (RdO.snd (RdO.snd (RdO.snd (RdO.snd (RdO.snd (RdO.of (RdO.old h0) (hy5).2)))))))))⟩ ms
noncomputable def s_l8Join (a0 : List D_Id) (a1 : List D_Id) : Option (List D_Id) :=
  Option.bind (some ([] : List D_Id)) (fun y2 => whileP (fun s3 : (List D_Id) × Int × Int => cond (decide (s3.2.2 < (a1.length : Int))) (whileP (fun s5 : (List D_Id) × Int => gb (decide (s5.2 < (a0.length : Int))) (idx a0 s5.2) (fun y6 => gb (decide (s5.2 < (a0.length : Int))) (idx a1 s3.2.2) (fun y7 => gb (decide (s5.2 < (a0.length : Int))) (s_l8Less (y6.1, y6.2) (y7.1, y7.2)) (fun y8 => cond ((decide (s5.2 < (a0.length : Int))) && y8) (Option.bind (idx a0 s5.2) (fun y10 => Option.bind (appP s5.1 [(y10.1, y10.2)]) (fun y12 => some (.inl ((y12, IntKind.wrap .i64 (s5.2 + 1))))))) (Option.map .inr (gb (decide (s5.2 < (a0.length : Int))) (idx a0 s5.2) (fun y14 => gb (decide (s5.2 < (a0.length : Int))) (idx a1 s3.2.2) (fun y15 => cond ((decide (s5.2 < (a0.length : Int))) && (decide (y14.1 = y15.1) && (decide (y14.2 = y15.2) && true))) (Option.bind (idx a1 s3.2.2) (fun y17 => Option.bind (appP s5.1 [(y17.1, y17.2)]) (fun y19 => some (.inl ((y19, IntKind.wrap .i64 (s5.2 + 1), IntKind.wrap .i64 (s3.2.2 + 1))))))) (Option.bind (idx a1 s3.2.2) (fun y20 => Option.bind (appP s5.1 [(y20.1, y20.2)]) (fun y22 => some (.inl ((y22, s5.2, IntKind.wrap .i64 (s3.2.2 + 1))))))))))))))) (s3.1, s3.2.1)) (Option.map .inr (Option.bind (slcP a0 s3.2.1 (a0.length : Int)) (fun y24 => Option.bind (appP s3.1 y24) (fun y27 => some y27))))) (y2, 0, 0))
theorem s_l8Join_walk (w : World) (a0 : TL T_Id) (a1 : TL T_Id) (h0 : GT.rd w [] a0) (h1 : GT.rd w [] a1) (r : (List D_Id)) (hp : s_l8Join (GT.dat a0) (GT.dat a1) = some r) : Spec Tryz.prog 148 [(TL.hdr a0), (TL.hdr a1)].toArray w [] (fun v M => ∃ (x0 : TL T_Id), v = (TL.hdr x0) ∧ GT.dat x0 = r ∧ M = [treeH x0]) := by
  refine Spec.intro Tryz.func148 rfl Tryz.ntmps148 rfl ?_
  unfold s_l8Join at hp
  replace hp := dd hp
  refine s2 ?_
  refine L_assign (v := (TL.hdr (TL.nil T_Id 0))) rfl rfl ?_
  refine s3 ?_
  replace hp := ba hp; obtain ⟨y2, hy2, hp⟩ := hp
  refine L_mk0 T_Id rfl el51.h (fun X1 hdX1 => ?_)
  obtain rfl : GT.dat X1 = y2 := hdX1.trans (Option.some.inj hy2)
  clear hy2 hdX1
  refine s12 ?_
  refine W_while (σ := (TL T_Id) × Int × Int) GT.dat (fun ((v3_0, v3_1, v3_2) : (TL T_Id) × Int × Int) => [(5, (TL.hdr v3_0)), (6, .int .i64 v3_1), (7, .int .i64 v3_2)]) (fun ((v3_0, v3_1, v3_2) : (TL T_Id) × Int × Int) => [treeH v3_0]) [(0, _), (1, _)] [] (X1, 0, 0) hp sb ms ?_
  clear hp
  rintro ⟨v3_0, v3_1, v3_2⟩ x3 hp hx3
  replace hp := dd hp
  refine kq [0, 1, 5, 6, 7] ?_
  refine s8 ?_
  refine kp [0, 1, 5, 6, 7, 12] ?_
  refine W_cond rfl (fun hc4 => ?_) (fun hc4 => ?_)
  · replace hp := cond_t hc4 hp
    refine s5 ?_
    refine W_while (σ := (TL T_Id) × Int) GT.dat (fun ((v5_0, v5_1) : (TL T_Id) × Int) => [(5, (TL.hdr v5_0)), (6, .int .i64 v5_1)]) (fun ((v5_0, v5_1) : (TL T_Id) × Int) => [treeH v5_0]) [(0, _), (1, _), (7, _)] [] (v3_0, v3_1) hp sb ms ?_
    clear hp
    rintro ⟨v5_0, v5_1⟩ x5 hp hx5
    replace hp := dd hp
    refine kq [0, 1, 5, 6, 7] ?_
    refine s2 ?_
    replace hp := idx_gb hp; obtain ⟨⟨u6_1, u6_2⟩, hy6, hp⟩ := hp
    replace hp := idx_gb hp; obtain ⟨⟨u7_1, u7_2⟩, hy7, hp⟩ := hp
    replace hp := gb_any hp; obtain ⟨y8, hy8, hp⟩ := hp
    refine W_D0 [29] mix (by kernel_rfl) rfl ?_
    refine s2 ?_
    refine D_lenP (X := a0) GC.none (OpV.t rfl) el51.h ?_
    refine s4 ?_
    refine D_idxA (X := a0) (GC.some rfl rfl) (OpV.s rfl) (OpV.s rfl) el51.h (RdT.old h0) (fun hg => hy6 hg.2) ?_
    refine D_loadW (GC.some rfl rfl) (OpV.s rfl) (fun hg => RdT.at (RdT.old h0) (hy6 hg.2).2) (by exact agg71.h) ?_
    refine s2 ?_
    refine D_idxA (X := a1) (GC.some rfl rfl) (OpV.s rfl) (OpV.s rfl) el51.h (RdT.old h1) (fun hg => hy7 hg.2) ?_
    refine D_loadW (GC.some rfl rfl) (OpV.s rfl) (fun hg => RdT.at (RdT.old h1) (hy7 hg.2).2) (by exact agg71.h) ?_
    refine D_callX (GC.some rfl rfl) fn110.h (OpVs.cons (OpV.s rfl) (OpVs.cons (OpV.s rfl) (OpVs.nil))) (by exact fun hg w F hF hM => s_l8Less_walk w (u6_1, u6_2) (u7_1, u7_2) (RdT.nowS (RdT.pair RdT.int RdT.int) hF hM) (RdT.nowS (RdT.pair RdT.int RdT.int) hF hM) _ (hy8 hg.2)) ?_
    refine s18 ?_
    refine kp [0, 1, 5, 6, 7, 29] ?_
    refine W_cond rfl (fun hc9 => ?_) (fun hc9 => ?_)
    · replace hp := cond_t hc9 hp
      refine s7 ?_
      replace hp := idx_bind hp; obtain ⟨⟨u10_1, u10_2⟩, hy10, hp⟩ := hp
      refine L_idxA (X := a0) rfl rfl rfl el51.h (RdT.old h0) hy10 ?_
      refine L_loadW rfl rfl (RdT.at (RdT.old h0) (hy10).2) (by exact agg71.h) ?_
      refine L_buildSlice1 rfl rfl el51.h rfl (by decide) (by decide) rfl (fun bb35 => ?_)
      replace hp := ba hp; obtain ⟨y12, hy12, hp⟩ := hp
      refine L_app1F (X := v5_0) ((u10_1, u10_2) : T_Id) rfl rfl rfl el51.h rfl rfl pk mm  hy12 (by decide) (fun X11 hdX11 => ?_)
      subst hdX11
      refine s7 ?_
      exact ⟨(X11, IntKind.wrap .i64 (v5_1 + 1)), sb, (.sub ms), some_eq hp⟩
    · replace hp := cond_f hc9 hp
      refine W_exit ?_
      replace hp := map_any hp; obtain ⟨a13, hp, hx_a13⟩ := hp
      obtain rfl := hx5 _ hx_a13
      refine s2 ?_
      replace hp := idx_gb hp; obtain ⟨⟨u14_1, u14_2⟩, hy14, hp⟩ := hp
      replace hp := idx_gb hp; obtain ⟨⟨u15_1, u15_2⟩, hy15, hp⟩ := hp
      refine W_D0 [53] mix (by kernel_rfl) rfl ?_
      refine s2 ?_
      refine D_lenP (X := a0) GC.none (OpV.t rfl) el51.h ?_
      refine s4 ?_
      refine D_idxA (X := a0) (GC.some rfl rfl) (OpV.s rfl) (OpV.s rfl) el51.h (RdT.old h0) (fun hg => hy14 hg.2) ?_
      refine D_loadW (GC.some rfl rfl) (OpV.s rfl) (fun hg => RdT.at (RdT.old h0) (hy14 hg.2).2) (by exact agg71.h) ?_
      refine s2 ?_
      refine D_idxA (X := a1) (GC.some rfl rfl) (OpV.s rfl) (OpV.s rfl) el51.h (RdT.old h1) (fun hg => hy15 hg.2) ?_
      refine D_loadW (GC.some rfl rfl) (OpV.s rfl) (fun hg => RdT.at (RdT.old h1) (hy15 hg.2).2) (by exact agg71.h) ?_
      refine D_bin (GC.some rfl rfl) (OpV.s rfl) (OpV.s rfl) (fun hg => (bv_aeql eqsh71 (EqS.consI one3.h und3.h rfl rfl (EqS.consI one3.h und3.h rfl rfl EqS.nil)))) ?_
      refine s18 ?_
      refine kp [0, 1, 5, 6, 7, 53] ?_
      refine W_cond rfl (fun hc16 => ?_) (fun hc16 => ?_)
      · replace hp := cond_t hc16 hp
        refine s9 ?_
        replace hp := idx_bind hp; obtain ⟨⟨u17_1, u17_2⟩, hy17, hp⟩ := hp
        refine L_idxA (X := a1) rfl rfl rfl el51.h (RdT.old h1) hy17 ?_
        refine L_loadW rfl rfl (RdT.at (RdT.old h1) (hy17).2) (by exact agg71.h) ?_
        refine L_buildSlice1 rfl rfl el51.h rfl (by decide) (by decide) rfl (fun bb61 => ?_)
        replace hp := ba hp; obtain ⟨y19, hy19, hp⟩ := hp
        refine L_app1F (X := v5_0) ((u17_1, u17_2) : T_Id) rfl rfl rfl el51.h rfl rfl pk mm  hy19 (by decide) (fun X18 hdX18 => ?_)
        subst hdX18
        refine s7 ?_
        exact ⟨(X18, IntKind.wrap .i64 (v5_1 + 1), IntKind.wrap .i64 (v3_2 + 1)), sb, (.sub ms), some_eq hp⟩
      · replace hp := cond_f hc16 hp
        refine s5 ?_
        replace hp := idx_bind hp; obtain ⟨⟨u20_1, u20_2⟩, hy20, hp⟩ := hp
        refine L_idxA (X := a1) rfl rfl rfl el51.h (RdT.old h1) hy20 ?_
        refine L_loadW rfl rfl (RdT.at (RdT.old h1) (hy20).2) (by exact agg71.h) ?_
        refine L_buildSlice1 rfl rfl el51.h rfl (by decide) (by decide) rfl (fun bb61 => ?_)
        replace hp := ba hp; obtain ⟨y22, hy22, hp⟩ := hp
        refine L_app1F (X := v5_0) ((u20_1, u20_2) : T_Id) rfl rfl rfl el51.h rfl rfl pk mm  hy22 (by decide) (fun X21 hdX21 => ?_)
        subst hdX21
        refine s7 ?_
        exact ⟨(X21, v5_1, IntKind.wrap .i64 (v3_2 + 1)), sb, (.sub ms), some_eq hp⟩
  · replace hp := cond_f hc4 hp
    refine W_exit ?_
    replace hp := map_any hp; obtain ⟨a23, hp, hx_a23⟩ := hp
    obtain rfl := hx3 _ hx_a23
    refine s5 ?_
    replace hp := ba hp; obtain ⟨y24, hy24, hp⟩ := hp
    refine L_slc (X := a0) rfl rfl rfl rfl el51.h rfl (RdT.old h0) hy24 (fun X25 hdX25 hRX25 => ?_)
    subst hdX25
    replace hp := ba hp; obtain ⟨y27, hy27, hp⟩ := hp
    refine L_appT (X := v3_0) (Y := X25) rfl rfl rfl el51.h rfl rfl pk (RdT.map hRX25 (RdT.old h0)) hy27 (by decide) (fun X26 hdX26 => ?_)
    subst hdX26
    refine s2 ?_
    obtain rfl := Option.some.inj hp
    refine s1 ?_
    refine res1 rfl (ResOK.tmp rfl) ⟨X26, rfl, rfl, rfl⟩ ms
noncomputable def s_l12Reach (a0 : List D_Inst) (a1 : D_Id) : Option (List D_Id) :=
  Option.bind (some ([] : List D_Id)) (fun y2 => Option.bind (s_l12Deps a0 (a1.1, a1.2)) (fun y3 => Option.bind (s_l8Join y2 y3) (fun y4 => whileP (fun s5 : (List D_Id) × Int => cond (decide (s5.2 < 18)) (cond (decide (0 < (s5.1.length : Int))) (Option.bind (idx s5.1 0) (fun y8 => Option.bind (s_l12Deps a0 (y8.1, y8.2)) (fun y9 => Option.bind (s_l8Join s5.1 y9) (fun y10 => whileP (fun s11 : (List D_Id) × Int => cond (decide (s11.2 < (s5.1.length : Int))) (Option.bind (idx s5.1 s11.2) (fun y13 => Option.bind (s_l12Deps a0 (y13.1, y13.2)) (fun y14 => Option.bind (s_l8Join s11.1 y14) (fun y15 => some (.inl ((y15, IntKind.wrap .i64 (s11.2 + 1)))))))) (Option.map .inr (cond (decide ((s11.1.length : Int) = (s5.1.length : Int))) (Option.map .inr (some s5.1)) (some (.inl ((s11.1, IntKind.wrap .i64 (s5.2 + 1)))))))) (y10, IntKind.wrap .i64 (0 + 1)))))) (cond (decide ((s5.1.length : Int) = (s5.1.length : Int))) (Option.map .inr (some s5.1)) (some (.inl ((s5.1, IntKind.wrap .i64 (s5.2 + 1))))))) (Option.map .inr (some s5.1))) (y4, 0))))
theorem s_l12Reach_walk (w : World) (a0 : TL T_Inst) (a1 : T_Id) (h0 : GT.rd w [] a0) (h1 : GT.rd w [] a1) (r : (List D_Id)) (hp : s_l12Reach (GT.dat a0) (GT.dat a1) = some r) : Spec Tryz.prog 136 [(TL.hdr a0), .agg (GT.cells a1).toArray].toArray w [] (fun v M => ∃ (x0 : TL T_Id), v = (TL.hdr x0) ∧ GT.dat x0 = r ∧ M = [treeH x0]) := by
  obtain ⟨a1_1, a1_2⟩ := a1
  change Spec _ _ ([(TL.hdr a0), Value.agg #[.int .i64 a1_1, .int .i64 a1_2]] : List Value).toArray w [] _
  refine Spec.intro Tryz.func136 rfl Tryz.ntmps136 rfl ?_
  unfold s_l12Reach at hp
  replace hp := dd hp
  refine s2 ?_
  refine bx fun bk3 => ?_
  refine L_assign (v := (TL.hdr (TL.nil T_Id 0))) rfl rfl ?_
  refine s3 ?_
  replace hp := ba hp; obtain ⟨y2, hy2, hp⟩ := hp
  refine L_mk0 T_Id rfl el51.h (fun X1 hdX1 => ?_)
  obtain rfl : GT.dat X1 = y2 := hdX1.trans (Option.some.inj hy2)
  clear hy2 hdX1
  refine s2 ?_
  replace hp := ba hp; obtain ⟨y3, hy3, hp⟩ := hp
  refine L_callR rfl fn137.h rfl (by exact fun w hw => s_l12Deps_walk w a0 (a1_1, a1_2) (RdT.now (RdT.old h0) hw) (RdT.now (RdT.pair RdT.int RdT.int) hw) _ hy3) ?_
  rintro _ _ ⟨y3x0, rfl, rfl, rfl, hby3x0⟩
  refine sc ?_
  replace hp := dd hp
  replace hp := ba hp; obtain ⟨y4, hy4, hp⟩ := hp
  refine L_callR rfl fn148.h rfl (by exact fun w hw => s_l8Join_walk w X1 y3x0 (RdT.now (RdT.tree mm) hw) (RdT.now (RdT.map2 hby3x0 (RdT.old h0) (RdT.pair RdT.int RdT.int)) hw) _ hy4) ?_
  rintro _ _ ⟨y4x0, rfl, rfl, rfl⟩
  refine sc ?_
  replace hp := dd hp
  refine s8 ?_
  refine W_while (σ := (TL T_Id) × Int) GT.dat (fun ((v5_0, v5_1) : (TL T_Id) × Int) => [(5, (TL.hdr v5_0)), (6, .int .i64 v5_1)]) (fun ((v5_0, v5_1) : (TL T_Id) × Int) => [treeH v5_0]) [(0, _)] [] (y4x0, 0) hp sb ms ?_
  clear hp
  rintro ⟨v5_0, v5_1⟩ x5 hp hx5
  replace hp := dd hp
  refine kq [0, 5, 6] ?_
  refine s6 ?_
  refine kp [0, 5, 6, 15] ?_
  refine W_cond rfl (fun hc6 => ?_) (fun hc6 => ?_)
  · replace hp := cond_t hc6 hp
    refine s14 ?_
    refine W_peel ?_
    refine s8 ?_
    refine kp [0, 5, 6, 7, 8, 22] ?_
    refine W_cond rfl (fun hc7 => ?_) (fun hc7 => ?_)
    · replace hp := cond_t hc7 hp
      refine s8 ?_
      replace hp := idx_bind hp; obtain ⟨⟨u8_1, u8_2⟩, hy8, hp⟩ := hp
      refine L_idxA (X := v5_0) rfl rfl rfl el51.h (RdT.tree mm) hy8 ?_
      refine L_loadW rfl rfl (RdT.at (RdT.tree mm) (hy8).2) (by exact agg71.h) ?_
      replace hp := ba hp; obtain ⟨y9, hy9, hp⟩ := hp
      refine L_callR rfl fn137.h rfl (by exact fun w hw => s_l12Deps_walk w a0 (u8_1, u8_2) (RdT.now (RdT.old h0) hw) (RdT.now (RdT.pair RdT.int RdT.int) hw) _ hy9) ?_
      rintro _ _ ⟨y9x0, rfl, rfl, rfl, hby9x0⟩
      refine sc ?_
      replace hp := dd hp
      replace hp := ba hp; obtain ⟨y10, hy10, hp⟩ := hp
      refine L_callR rfl fn148.h rfl (by exact fun w hw => s_l8Join_walk w v5_0 y9x0 (RdT.now (RdT.tree mm) hw) (RdT.now (RdT.map2 hby9x0 (RdT.old h0) (RdT.pair RdT.int RdT.int)) hw) _ hy10) ?_
      rintro _ _ ⟨y10x0, rfl, rfl, rfl⟩
      refine sc ?_
      replace hp := dd hp
      refine s7 ?_
      refine WL_while (σ := (TL T_Id) × Int) GT.dat (fun ((v11_0, v11_1) : (TL T_Id) × Int) => [(7, (TL.hdr v11_0)), (8, .int .i64 v11_1)]) (fun ((v11_0, v11_1) : (TL T_Id) × Int) => [treeH v11_0]) [(0, _), (5, _), (6, _)] [treeH v5_0] (y10x0, IntKind.wrap .i64 (0 + 1)) hp sb ms ?_
      clear hp
      rintro ⟨v11_0, v11_1⟩ x11 hp hx11
      replace hp := dd hp
      refine kq [0, 5, 6, 7, 8] ?_
      refine s8 ?_
      refine kp [0, 5, 6, 7, 8, 22] ?_
      refine W_cond rfl (fun hc12 => ?_) (fun hc12 => ?_)
      · replace hp := cond_t hc12 hp
        refine s8 ?_
        replace hp := idx_bind hp; obtain ⟨⟨u13_1, u13_2⟩, hy13, hp⟩ := hp
        refine L_idxA (X := v5_0) rfl rfl rfl el51.h (RdT.tree mm) hy13 ?_
        refine L_loadW rfl rfl (RdT.at (RdT.tree mm) (hy13).2) (by exact agg71.h) ?_
        replace hp := ba hp; obtain ⟨y14, hy14, hp⟩ := hp
        refine L_callR rfl fn137.h rfl (by exact fun w hw => s_l12Deps_walk w a0 (u13_1, u13_2) (RdT.now (RdT.old h0) hw) (RdT.now (RdT.pair RdT.int RdT.int) hw) _ hy14) ?_
        rintro _ _ ⟨y14x0, rfl, rfl, rfl, hby14x0⟩
        refine sc ?_
        replace hp := dd hp
        replace hp := ba hp; obtain ⟨y15, hy15, hp⟩ := hp
        refine L_callR rfl fn148.h rfl (by exact fun w hw => s_l8Join_walk w v11_0 y14x0 (RdT.now (RdT.tree mm) hw) (RdT.now (RdT.map2 hby14x0 (RdT.old h0) (RdT.pair RdT.int RdT.int)) hw) _ hy15) ?_
        rintro _ _ ⟨y15x0, rfl, rfl, rfl⟩
        refine sc ?_
        replace hp := dd hp
        refine s7 ?_
        exact ⟨(y15x0, IntKind.wrap .i64 (v11_1 + 1)), sb, (.sub ms), some_eq hp⟩
      · replace hp := cond_f hc12 hp
        refine W_exit ?_
        replace hp := map_any hp; obtain ⟨a16, hp, hx_a16⟩ := hp
        obtain rfl := hx11 _ hx_a16
        refine s9 ?_
        refine kp [0, 5, 6, 7, 37] ?_
        refine W_cond rfl (fun hc17 => ?_) (fun hc17 => ?_)
        · replace hp := cond_t hc17 hp
          refine s5 ?_
          replace hp := map_any hp; obtain ⟨a18, hp, hx_a18⟩ := hp
          obtain rfl := hx5 _ hx_a18
          obtain rfl := Option.some.inj hp
          refine s1 ?_
          refine res1 rfl (ResOK.tmp rfl) ⟨v5_0, rfl, rfl, rfl⟩ ms
        · replace hp := cond_f hc17 hp
          refine s10 ?_
          exact ⟨(v11_0, IntKind.wrap .i64 (v5_1 + 1)), sb, (.sub ms), some_eq hp⟩
    · replace hp := cond_f hc7 hp
      refine W_exit ?_
      refine s9 ?_
      refine kp [0, 5, 6, 7, 37] ?_
      refine W_cond rfl (fun hc19 => ?_) (fun hc19 => ?_)
      · replace hp := cond_t hc19 hp
        refine s5 ?_
        replace hp := map_any hp; obtain ⟨a20, hp, hx_a20⟩ := hp
        obtain rfl := hx5 _ hx_a20
        obtain rfl := Option.some.inj hp
        refine s1 ?_
        refine res1 rfl (ResOK.tmp rfl) ⟨v5_0, rfl, rfl, rfl⟩ ms
      · replace hp := cond_f hc19 hp
        refine s10 ?_
        exact ⟨(v5_0, IntKind.wrap .i64 (v5_1 + 1)), sb, (.sub ms), some_eq hp⟩
  · replace hp := cond_f hc6 hp
    refine W_exit ?_
    replace hp := map_any hp; obtain ⟨a21, hp, hx_a21⟩ := hp
    obtain rfl := hx5 _ hx_a21
    refine s5 ?_
    obtain rfl := Option.some.inj hp
    refine s1 ?_
    refine res1 rfl (ResOK.tmp rfl) ⟨v5_0, rfl, rfl, rfl⟩ ms
noncomputable def s_l12Ready (a0 : List D_Inst) (a1 : D_Id) : Option Bool :=
  Option.bind (s_l12Find a0 (a1.1, a1.2)) (fun y1 => cond (decide (y1 < 0)) (some false) (Option.bind (s_l12Reach a0 (a1.1, a1.2)) (fun y3 => whileP (fun s4 : Int => cond (decide (s4 < (y3.length : Int))) (Option.bind (idx y3 s4) (fun y6 => Option.bind (s_l12Find a0 (y6.1, y6.2)) (fun y7 => cond (decide (y7 < 0)) (Option.map .inr (some false)) (some (.inl (IntKind.wrap .i64 (s4 + 1))))))) (Option.map .inr (some true))) 0)))
theorem s_l12Ready_walk (w : World) (a0 : TL T_Inst) (a1 : T_Id) (h0 : GT.rd w [] a0) (h1 : GT.rd w [] a1) (r : Bool) (hp : s_l12Ready (GT.dat a0) (GT.dat a1) = some r) : Spec Tryz.prog 94 [(TL.hdr a0), .agg (GT.cells a1).toArray].toArray w [] (IsV (.bool r)) := by
  obtain ⟨a1_1, a1_2⟩ := a1
  change Spec _ _ ([(TL.hdr a0), Value.agg #[.int .i64 a1_1, .int .i64 a1_2]] : List Value).toArray w [] _
  refine Spec.intro Tryz.func94 rfl Tryz.ntmps94 rfl ?_
  unfold s_l12Ready at hp
  replace hp := dd hp
  refine s2 ?_
  refine bx fun bk3 => ?_
  refine s7 ?_
  replace hp := ba hp; obtain ⟨y1, hy1, hp⟩ := hp
  refine L_callX rfl fn135.h rfl (by exact fun w hw => s_l12Find_walk w a0 (a1_1, a1_2) (RdT.now (RdT.old h0) hw) (RdT.now (RdT.pair RdT.int RdT.int) hw) _ hy1) ?_
  refine s2 ?_
  refine kp [0, 3, 10] ?_
  refine W_cond rfl (fun hc2 => ?_) (fun hc2 => ?_)
  · replace hp := cond_t hc2 hp
    refine s4 ?_
    obtain rfl := Option.some.inj hp
    refine s1 ?_
    refine res1 rfl (ResOK.tmp rfl) ⟨rfl, rfl⟩ ms
  · replace hp := cond_f hc2 hp
    refine s5 ?_
    replace hp := ba hp; obtain ⟨y3, hy3, hp⟩ := hp
    refine L_callR rfl fn136.h rfl (by exact fun w hw => s_l12Reach_walk w a0 (a1_1, a1_2) (RdT.now (RdT.old h0) hw) (RdT.now (RdT.pair RdT.int RdT.int) hw) _ hy3) ?_
    rintro _ _ ⟨y3x0, rfl, rfl, rfl⟩
    refine sc ?_
    replace hp := dd hp
    refine s8 ?_
    refine W_while (σ := Int) GT.dat (fun (v4_0 : Int) => [(6, .int .i64 v4_0)]) (fun (v4_0 : Int) => []) [(0, _), (5, _)] [treeH y3x0] 0 hp sb ms ?_
    clear hp
    rintro v4_0 x4 hp hx4
    replace hp := dd hp
    refine kq [0, 5, 6] ?_
    refine s8 ?_
    refine kp [0, 5, 6, 17] ?_
    refine W_cond rfl (fun hc5 => ?_) (fun hc5 => ?_)
    · replace hp := cond_t hc5 hp
      refine s8 ?_
      replace hp := idx_bind hp; obtain ⟨⟨u6_1, u6_2⟩, hy6, hp⟩ := hp
      refine L_idxA (X := y3x0) rfl rfl rfl el51.h (RdT.tree mm) hy6 ?_
      refine L_loadW rfl rfl (RdT.at (RdT.tree mm) (hy6).2) (by exact agg71.h) ?_
      replace hp := ba hp; obtain ⟨y7, hy7, hp⟩ := hp
      refine L_callX rfl fn135.h rfl (by exact fun w hw => s_l12Find_walk w a0 (u6_1, u6_2) (RdT.now (RdT.old h0) hw) (RdT.now (RdT.pair RdT.int RdT.int) hw) _ hy7) ?_
      refine s2 ?_
      refine kp [0, 5, 6, 26] ?_
      refine W_cond rfl (fun hc8 => ?_) (fun hc8 => ?_)
      · replace hp := cond_t hc8 hp
        refine s4 ?_
        replace hp := map_any hp; obtain ⟨a9, hp, hx_a9⟩ := hp
        obtain rfl := hx4 _ hx_a9
        obtain rfl := Option.some.inj hp
        refine s1 ?_
        refine res1 rfl (ResOK.tmp rfl) ⟨rfl, rfl⟩ ms
      · replace hp := cond_f hc8 hp
        refine s6 ?_
        exact ⟨IntKind.wrap .i64 (v4_0 + 1), sb, (.sub ms), some_eq hp⟩
    · replace hp := cond_f hc5 hp
      refine W_exit ?_
      replace hp := map_any hp; obtain ⟨a10, hp, hx_a10⟩ := hp
      obtain rfl := hx4 _ hx_a10
      refine s4 ?_
      obtain rfl := Option.some.inj hp
      refine s1 ?_
      refine res1 rfl (ResOK.tmp rfl) ⟨rfl, rfl⟩ ms
noncomputable def s_l12Part (a0 : List D_Inst) (a1 : D_Id) : Option (List D_Id) :=
  Option.bind (some ([] : List D_Id)) (fun y2 => Option.bind (s_l12Reach a0 (a1.1, a1.2)) (fun y3 => whileP (fun s4 : (List D_Id) × Int => cond (decide (s4.2 < (a0.length : Int))) (Option.bind (idx a0 s4.2) (fun y6 => gb (!(decide (y6.1.1 = a1.1) && (decide (y6.1.2 = a1.2) && true))) (s_l8Has y3 (y6.1.1, y6.1.2)) (fun y7 => gb ((!(decide (y6.1.1 = a1.1) && (decide (y6.1.2 = a1.2) && true))) && (!(!y7))) (s_l12Reach a0 (y6.1.1, y6.1.2)) (fun y8 => gb ((!(decide (y6.1.1 = a1.1) && (decide (y6.1.2 = a1.2) && true))) && (!(!y7))) (s_l8Has y8 (a1.1, a1.2)) (fun y9 => cond ((!(decide (y6.1.1 = a1.1) && (decide (y6.1.2 = a1.2) && true))) && ((!y7) || (!y9))) (some (.inl ((s4.1, IntKind.wrap .i64 (s4.2 + 1))))) (whileP (fun s11 : Int => gb (decide (0 < s11)) (idx s4.1 (IntKind.wrap .i64 (s11 - 1))) (fun y12 => gb (decide (0 < s11)) (s_l12Find a0 (y12.1, y12.2)) (fun y13 => gb (decide (0 < s11)) (idx a0 y13) (fun y14 => gb (decide (0 < s11)) (idx a0 s4.2) (fun y15 => cond ((decide (0 < s11)) && (decide (y15.2.2.2.2.2.1 < y14.2.2.2.2.2.1))) (some (.inl (IntKind.wrap .i64 (s11 - 1)))) (Option.map .inr (Option.bind (some ([] : List D_Id)) (fun y19 => Option.bind (slcP s4.1 s11 (s4.1.length : Int)) (fun y20 => Option.bind (appP y19 y20) (fun y23 => Option.bind (slcP s4.1 0 s11) (fun y24 => Option.bind (appP y24 [(y6.1.1, y6.1.2)]) (fun y28 => Option.bind (appP y28 y23) (fun y30 => some (.inl ((y30, IntKind.wrap .i64 (s4.2 + 1))))))))))))))))) (s4.1.length : Int))))))) (Option.map .inr (some s4.1))) (y2, 0)))
theorem s_l12Part_walk (w : World) (a0 : TL T_Inst) (a1 : T_Id) (h0 : GT.rd w [] a0) (h1 : GT.rd w [] a1) (r : (List D_Id)) (hp : s_l12Part (GT.dat a0) (GT.dat a1) = some r) : Spec Tryz.prog 95 [(TL.hdr a0), .agg (GT.cells a1).toArray].toArray w [] (fun v M => ∃ (x0 : TL T_Id), v = (TL.hdr x0) ∧ GT.dat x0 = r ∧ M = [treeH x0]) := by
  obtain ⟨a1_1, a1_2⟩ := a1
  change Spec _ _ ([(TL.hdr a0), Value.agg #[.int .i64 a1_1, .int .i64 a1_2]] : List Value).toArray w [] _
  refine Spec.intro Tryz.func95 rfl Tryz.ntmps95 rfl ?_
  unfold s_l12Part at hp
  replace hp := dd hp
  refine s2 ?_
  refine bx fun bk3 => ?_
  refine L_assign (v := (TL.hdr (TL.nil T_Id 0))) rfl rfl ?_
  refine s3 ?_
  replace hp := ba hp; obtain ⟨y2, hy2, hp⟩ := hp
  refine L_mk0 T_Id rfl el51.h (fun X1 hdX1 => ?_)
  obtain rfl : GT.dat X1 = y2 := hdX1.trans (Option.some.inj hy2)
  clear hy2 hdX1
  refine s6 ?_
  replace hp := ba hp; obtain ⟨y3, hy3, hp⟩ := hp
  refine L_callR rfl fn136.h rfl (by exact fun w hw => s_l12Reach_walk w a0 (a1_1, a1_2) (RdT.now (RdT.old h0) hw) (RdT.now (RdT.pair RdT.int RdT.int) hw) _ hy3) ?_
  rintro _ _ ⟨y3x0, rfl, rfl, rfl⟩
  refine sc ?_
  replace hp := dd hp
  refine s8 ?_
  refine W_while (σ := (TL T_Id) × Int) GT.dat (fun ((v4_0, v4_1) : (TL T_Id) × Int) => [(5, (TL.hdr v4_0)), (7, .int .i64 v4_1)]) (fun ((v4_0, v4_1) : (TL T_Id) × Int) => [treeH v4_0]) [(0, _), (3, _), (6, _)] [blk bk3 _ _, treeH y3x0] (X1, 0) hp sb ms ?_
  clear hp
  rintro ⟨v4_0, v4_1⟩ x4 hp hx4
  replace hp := dd hp
  refine kq [0, 3, 5, 6, 7] ?_
  refine s8 ?_
  refine kp [0, 3, 5, 6, 7, 18] ?_
  refine W_cond rfl (fun hc5 => ?_) (fun hc5 => ?_)
  · replace hp := cond_t hc5 hp
    refine s7 ?_
    replace hp := idx_bind hp; obtain ⟨⟨⟨u6_1, u6_2⟩, u6_3, u6_4, u6_5, ⟨u6_6, u6_7, u6_8, u6_9, u6_10, u6_11, u6_12, u6_13⟩, u6_14, u6_15, u6_16⟩, hy6, hp⟩ := hp
    refine L_idxA (X := a0) rfl rfl rfl el43.h (RdT.old h0) hy6 ?_
    refine s1 ?_
    refine L_loadW rfl rfl (RdC.seg (RdT.at (RdT.old h0) (hy6).2) 0 2 rfl) (by exact agg71.h) ?_
    refine al fun bk8 => ?_
    refine s4 ?_
    replace hp := gb_any hp; obtain ⟨y7, hy7, hp⟩ := hp
    replace hp := gb_any hp; obtain ⟨y8, hy8, hp⟩ := hp
    replace hp := gb_any hp; obtain ⟨y9, hy9, hp⟩ := hp
    refine W_D0 [42] mix (by kernel_rfl) rfl ?_
    refine s2 ?_
    refine D_bin GC.none (OpV.t rfl) (OpV.t rfl) (fun hg => (bv_aneq eqsh71 (EqS.consI one3.h und3.h rfl rfl (EqS.consI one3.h und3.h rfl rfl EqS.nil)))) ?_
    refine s3 ?_
    refine D_callX (GC.some rfl rfl) fn67.h (OpVs.cons (OpV.s rfl) (OpVs.cons (OpV.s rfl) (OpVs.nil))) (by exact fun hg w F hF hM => s_l8Has_walk w y3x0 (u6_1, u6_2) (RdT.nowS (RdT.tree mm) hF hM) (RdT.nowS (RdT.pair RdT.int RdT.int) hF hM) _ (hy7 hg.2)) ?_
    refine s4 ?_
    refine D_callGV (fun v M => ∃ (x0 : TL T_Id), v = (TL.hdr x0) ∧ GT.dat x0 = y8 ∧ M = [treeH x0]) (GC.some rfl rfl) fn136.h (OpVs.cons (OpV.s rfl) (OpVs.cons (OpV.s rfl) (OpVs.nil))) (by exact fun hg w F hF hM => s_l12Reach_walk w a0 (u6_1, u6_2) (RdT.nowS (RdT.old h0) hF hM) (RdT.nowS (RdT.pair RdT.int RdT.int) hF hM) _ (hy8 (gand hg.1.2 (gnot hg.2)))) ?_
    refine s1 ?_
    refine D_callGR [_, _] (GC.some rfl rfl) fn67.h ⟨⟨_, rfl, fun _ _ h => h⟩, ⟨⟨_, rfl, fun _ _ h => h⟩, trivial⟩⟩ (by rintro hg w F vs hF hM ⟨v0, u0, M0, rfl, g0, hin0, ⟨v1, u1, M1, rfl, g1, hin1, rfl⟩⟩; obtain ⟨m0, rfl, hd0, rfl⟩ := g0.1 hg; subst hd0; obtain rfl := g1.2.1 hg; exact s_l8Has_walk w m0 (a1_1, a1_2) (rd_of_tree (hin0 _ (List.mem_singleton.2 rfl)) hF.sees) (RdT.nowS (RdT.pair RdT.int RdT.int) hF hM) _ (hy9 (gand hg.1.2 (gnot hg.2)))) ?_
    refine s20 ?_
    refine s2 ?_
    refine kp [0, 3, 5, 6, 7, 8, 42] ?_
    refine W_cond rfl (fun hc10 => ?_) (fun hc10 => ?_)
    · replace hp := cond_t hc10 hp
      refine W_exit ?_
      refine s5 ?_
      exact ⟨(v4_0, IntKind.wrap .i64 (v4_1 + 1)), sb, (.sub ms), some_eq hp⟩
    · replace hp := cond_f hc10 hp
      refine s9 ?_
      refine W_while (σ := Int) GT.dat (fun (v11_0 : Int) => [(9, .int .i64 v11_0)]) (fun (v11_0 : Int) => []) [(0, _), (3, _), (5, _), (6, _), (7, _), (8, _)] [blk bk3 _ _, blk bk8 _ _, treeH v4_0, treeH y3x0] ((GT.dat v4_0).length : Int) hp sb ms ?_
      clear hp
      rintro v11_0 x11 hp hx11
      replace hp := dd hp
      refine kq [0, 3, 5, 6, 7, 8, 9] ?_
      refine s2 ?_
      replace hp := idx_gb hp; obtain ⟨⟨u12_1, u12_2⟩, hy12, hp⟩ := hp
      replace hp := gb_any hp; obtain ⟨y13, hy13, hp⟩ := hp
      replace hp := idx_gb hp; obtain ⟨⟨⟨u14_1, u14_2⟩, u14_3, u14_4, u14_5, ⟨u14_6, u14_7, u14_8, u14_9, u14_10, u14_11, u14_12, u14_13⟩, u14_14, u14_15, u14_16⟩, hy14, hp⟩ := hp
      replace hp := idx_gb hp; obtain ⟨⟨⟨u15_1, u15_2⟩, u15_3, u15_4, u15_5, ⟨u15_6, u15_7, u15_8, u15_9, u15_10, u15_11, u15_12, u15_13⟩, u15_14, u15_15, u15_16⟩, hy15, hp⟩ := hp
      refine W_D0 [65] mix (by kernel_rfl) rfl ?_
      refine s8 ?_
      refine D_idxA (X := v4_0) (GC.some rfl rfl) (OpV.s rfl) (OpV.s rfl) el51.h (RdT.tree mm) (fun hg => hy12 hg.2) ?_
      refine D_loadW (GC.some rfl rfl) (OpV.s rfl) (fun hg => RdT.at (RdT.tree mm) (hy12 hg.2).2) (by exact agg71.h) ?_
      refine D_callX (GC.some rfl rfl) fn135.h (OpVs.cons (OpV.s rfl) (OpVs.cons (OpV.s rfl) (OpVs.nil))) (by exact fun hg w F hF hM => s_l12Find_walk w a0 (u12_1, u12_2) (RdT.nowS (RdT.old h0) hF hM) (RdT.nowS (RdT.pair RdT.int RdT.int) hF hM) _ (hy13 hg.2)) ?_
      refine D_idxA (X := a0) (GC.some rfl rfl) (OpV.s rfl) (OpV.s rfl) el43.h (RdT.old h0) (fun hg => hy14 hg.2) ?_
      refine s1 ?_
      refine D_load (GC.some rfl rfl) (OpV.s rfl) (fun hg => RdT.at (RdT.old h0) (hy14 hg.2).2) one3.h rfl ?_
      refine s2 ?_
      refine D_idxA (X := a0) (GC.some rfl rfl) (OpV.s rfl) (OpV.s rfl) el43.h (RdT.old h0) (fun hg => hy15 hg.2) ?_
      refine s1 ?_
      refine D_load (GC.some rfl rfl) (OpV.s rfl) (fun hg => RdT.at (RdT.old h0) (hy15 hg.2).2) one3.h rfl ?_
      refine s20 ?_
      refine s5 ?_
      refine kp [0, 3, 5, 6, 7, 8, 9, 65] ?_
      refine W_cond rfl (fun hc16 => ?_) (fun hc16 => ?_)
      · replace hp := cond_t hc16 hp
        refine s7 ?_
        exact ⟨IntKind.wrap .i64 (v11_0 - 1), sb, (.sub ms), some_eq hp⟩
      · replace hp := cond_f hc16 hp
        refine W_exit ?_
        replace hp := map_any hp; obtain ⟨a17, hp, hx_a17⟩ := hp
        obtain rfl := hx11 _ hx_a17
        refine s2 ?_
        replace hp := ba hp; obtain ⟨y19, hy19, hp⟩ := hp
        refine L_mk0 T_Id rfl el51.h (fun X18 hdX18 => ?_)
        obtain rfl : GT.dat X18 = y19 := hdX18.trans (Option.some.inj hy19)
        clear hy19 hdX18
        refine s2 ?_
        replace hp := ba hp; obtain ⟨y20, hy20, hp⟩ := hp
        refine L_slcE (X := v4_0) rfl rfl rfl rfl el51.h rfl (RdT.tree mm) hy20 (fun X21 hdX21 heX21 => ?_)
        have hsX21 := hy20
        subst hdX21
        replace hp := ba hp; obtain ⟨y23, hy23, hp⟩ := hp
        refine L_appT (X := X18) (Y := X21) rfl rfl rfl el51.h rfl rfl pk (RdT.map (slcE_rd heX21 hsX21) (RdT.tree mm)) hy23 (by decide) (fun X22 hdX22 => ?_)
        subst hdX22
        refine s2 ?_
        refine W_fact (fun w h => cap_of pk h) (fun (hcapv4_0 : v4_0.els.length ≤ v4_0.cap) => ?_)
        refine W_AH [] mix ?_
        refine AH_take 0 rfl (PU_move rfl rfl) (by kernel_rfl) (by kernel_rfl) (by kernel_rfl) trivial ?_
        refine AH_take 1 rfl (PU_move rfl rfl) (by kernel_rfl) (by kernel_rfl) (by kernel_rfl) trivial ?_
        replace hp := ba hp; obtain ⟨y24, hy24, hp⟩ := hp
        refine AH_take 2 rfl (PU_slcF (X := v4_0) (a := (0 : Int)) (b := v11_0) rfl rfl rfl rfl el51.h rfl hcapv4_0 hy24) (by kernel_rfl) (by kernel_rfl) (by kernel_rfl) trivial ?_
        obtain ⟨X25, heX25, hdX25⟩ := slc_ex hy24
        rw [← heX25]
        have hsX25 := hy24
        subst hdX25
        refine AH_A [blk bk8 [.int .i64 u6_1, .int .i64 u6_2] 71] trivial ?_
        refine AH_take 3 rfl (PU_loadW rfl rfl (RdC.blk mm) (by exact agg71.h)) (by kernel_rfl) (by kernel_rfl) (by kernel_rfl) ⟨mm, trivial⟩ ?_
        refine AH_take 6 rfl (PU_move rfl rfl) (by kernel_rfl) (by kernel_rfl) (by kernel_rfl) ⟨mm, trivial⟩ ?_
        refine AH_one 4 rfl rfl (by kernel_rfl) ?_
        refine L_buildSlice1 rfl rfl el51.h rfl (by decide) (by decide) rfl (fun bb77 => ?_)
        refine L_nil ⟨⟨mm, trivial⟩, ?_⟩
        refine AH_one 5 rfl rfl (by kernel_rfl) ?_
        refine L_trunc (X := v4_0) (Y := X25) (u := ()) heX25 hsX25 rfl pk (fun X26 hdX26 hhX26 => ?_)
        try rw [← hdX26] at hp
        try rw [← hdX26]
        try rw [← hhX26]
        replace hp := ba hp; obtain ⟨y28, hy28, hp⟩ := hp
        refine L_app1F (X := X26) ((u6_1, u6_2) : T_Id) rfl rfl rfl el51.h rfl rfl pk mm  hy28 (by decide) (fun X27 hdX27 => ?_)
        subst hdX27
        refine L_nil ⟨⟨mm, trivial⟩, ?_⟩
        refine AH_one 7 rfl rfl (by kernel_rfl) ?_
        replace hp := ba hp; obtain ⟨y30, hy30, hp⟩ := hp
        refine L_appT (X := X27) (Y := X22) rfl rfl rfl el51.h rfl rfl pk (RdT.tree mm) hy30 (by decide) (fun X29 hdX29 => ?_)
        subst hdX29
        refine L_nil ⟨⟨mm, trivial⟩, ?_⟩
        refine AH_one 8 rfl rfl (by kernel_rfl) ?_
        refine s1 ?_
        refine L_nil ⟨⟨mm, trivial⟩, ?_⟩
        refine AH_done (by kernel_rfl) ?_
        refine s5 ?_
        exact ⟨(X29, IntKind.wrap .i64 (v4_1 + 1)), sb, (.sub ms), some_eq hp⟩
  · replace hp := cond_f hc5 hp
    refine W_exit ?_
    replace hp := map_any hp; obtain ⟨a31, hp, hx_a31⟩ := hp
    obtain rfl := hx4 _ hx_a31
    refine s5 ?_
    obtain rfl := Option.some.inj hp
    refine s1 ?_
    refine res1 rfl (ResOK.tmp rfl) ⟨v4_0, rfl, rfl, rfl⟩ ms
noncomputable def s_l12May (a0 : List D_Inst) (a1 : List D_Id) (a2 : List D_Id) : Option Bool :=
  whileP (fun s1 : Int => cond (decide (s1 < (a1.length : Int))) (Option.bind (idx a1 s1) (fun y3 => Option.bind (s_l12Deps a0 (y3.1, y3.2)) (fun y4 => whileP (fun s5 : Int => cond (decide (s5 < (y4.length : Int))) (Option.bind (idx y4 s5) (fun y7 => Option.bind (s_l8Has a1 (y7.1, y7.2)) (fun y8 => gb (!y8) (idx y4 s5) (fun y9 => gb (!y8) (s_l8Has a2 (y9.1, y9.2)) (fun y10 => cond ((!y8) && (!y10)) (Option.map .inr (Option.map .inr (some false))) (some (.inl (IntKind.wrap .i64 (s5 + 1))))))))) (Option.map .inr (some (.inl (IntKind.wrap .i64 (s1 + 1)))))) 0))) (Option.map .inr (some true))) 0
theorem s_l12May_walk (w : World) (a0 : TL T_Inst) (a1 : TL T_Id) (a2 : TL T_Id) (h0 : GT.rd w [] a0) (h1 : GT.rd w [] a1) (h2 : GT.rd w [] a2) (r : Bool) (hp : s_l12May (GT.dat a0) (GT.dat a1) (GT.dat a2) = some r) : Spec Tryz.prog 96 [(TL.hdr a0), (TL.hdr a1), (TL.hdr a2)].toArray w [] (IsV (.bool r)) := by
  refine Spec.intro Tryz.func96 rfl Tryz.ntmps96 rfl ?_
  unfold s_l12May at hp
  replace hp := dd hp
  refine s10 ?_
  refine W_while (σ := Int) GT.dat (fun (v1_0 : Int) => [(7, .int .i64 v1_0)]) (fun (v1_0 : Int) => []) [(0, _), (1, _), (2, _)] [] 0 hp sb ms ?_
  clear hp
  rintro v1_0 x1 hp hx1
  replace hp := dd hp
  refine kq [0, 1, 2, 7] ?_
  refine s8 ?_
  refine kp [0, 1, 2, 7, 13] ?_
  refine W_cond rfl (fun hc2 => ?_) (fun hc2 => ?_)
  · replace hp := cond_t hc2 hp
    refine s8 ?_
    replace hp := idx_bind hp; obtain ⟨⟨u3_1, u3_2⟩, hy3, hp⟩ := hp
    refine L_idxA (X := a1) rfl rfl rfl el51.h (RdT.old h1) hy3 ?_
    refine L_loadW rfl rfl (RdT.at (RdT.old h1) (hy3).2) (by exact agg71.h) ?_
    replace hp := ba hp; obtain ⟨y4, hy4, hp⟩ := hp
    refine L_callR rfl fn137.h rfl (by exact fun w hw => s_l12Deps_walk w a0 (u3_1, u3_2) (RdT.now (RdT.old h0) hw) (RdT.now (RdT.pair RdT.int RdT.int) hw) _ hy4) ?_
    rintro _ _ ⟨y4x0, rfl, rfl, rfl, hby4x0⟩
    refine sc ?_
    replace hp := dd hp
    refine s7 ?_
    refine W_while (σ := Int) GT.dat (fun (v5_0 : Int) => [(9, .int .i64 v5_0)]) (fun (v5_0 : Int) => []) [(0, _), (1, _), (2, _), (7, _), (8, _)] [] 0 hp sb ms ?_
    clear hp
    rintro v5_0 x5 hp hx5
    replace hp := dd hp
    refine kq [0, 1, 2, 7, 8, 9] ?_
    refine s8 ?_
    refine kp [0, 1, 2, 7, 8, 9, 25] ?_
    refine W_cond rfl (fun hc6 => ?_) (fun hc6 => ?_)
    · replace hp := cond_t hc6 hp
      refine s4 ?_
      replace hp := idx_bind hp; obtain ⟨⟨u7_1, u7_2⟩, hy7, hp⟩ := hp
      replace hp := ba hp; obtain ⟨y8, hy8, hp⟩ := hp
      replace hp := idx_gb hp; obtain ⟨⟨u9_1, u9_2⟩, hy9, hp⟩ := hp
      replace hp := gb_any hp; obtain ⟨y10, hy10, hp⟩ := hp
      refine W_D0 [43] mix (by kernel_rfl) rfl ?_
      refine s3 ?_
      refine D_idxA (X := y4x0) GC.none (OpV.t rfl) (OpV.t rfl) el51.h (RdT.map2 hby4x0 (RdT.old h0) (RdT.pair RdT.int RdT.int)) (fun _ => hy7) ?_
      refine D_loadW GC.none (OpV.t rfl) (fun hg => RdT.at (RdT.map2 hby4x0 (RdT.old h0) (RdT.pair RdT.int RdT.int)) (hy7).2) (by exact agg71.h) ?_
      refine D_callX GC.none fn67.h (OpVs.cons (OpV.t rfl) (OpVs.cons (OpV.t rfl) (OpVs.nil))) (by exact fun hg w F hF hM => s_l8Has_walk w a1 (u7_1, u7_2) (RdT.nowS (RdT.old h1) hF hM) (RdT.nowS (RdT.pair RdT.int RdT.int) hF hM) _ hy8) ?_
      refine s5 ?_
      refine D_idxA (X := y4x0) (GC.some rfl rfl) (OpV.s rfl) (OpV.s rfl) el51.h (RdT.map2 hby4x0 (RdT.old h0) (RdT.pair RdT.int RdT.int)) (fun hg => hy9 hg.2) ?_
      refine D_loadW (GC.some rfl rfl) (OpV.s rfl) (fun hg => RdT.at (RdT.map2 hby4x0 (RdT.old h0) (RdT.pair RdT.int RdT.int)) (hy9 hg.2).2) (by exact agg71.h) ?_
      refine D_callX (GC.some rfl rfl) fn67.h (OpVs.cons (OpV.s rfl) (OpVs.cons (OpV.s rfl) (OpVs.nil))) (by exact fun hg w F hF hM => s_l8Has_walk w a2 (u9_1, u9_2) (RdT.nowS (RdT.old h2) hF hM) (RdT.nowS (RdT.pair RdT.int RdT.int) hF hM) _ (hy10 hg.2)) ?_
      refine s20 ?_
      refine kp [0, 1, 2, 7, 8, 9, 43] ?_
      refine W_cond rfl (fun hc11 => ?_) (fun hc11 => ?_)
      · replace hp := cond_t hc11 hp
        refine s4 ?_
        replace hp := map_any hp; obtain ⟨a12, hp, hx_a12⟩ := hp
        obtain rfl := hx5 _ hx_a12
        replace hp := map_any hp; obtain ⟨a13, hp, hx_a13⟩ := hp
        obtain rfl := hx1 _ hx_a13
        obtain rfl := Option.some.inj hp
        refine s1 ?_
        refine res1 rfl (ResOK.tmp rfl) ⟨rfl, rfl⟩ ms
      · replace hp := cond_f hc11 hp
        refine s6 ?_
        exact ⟨IntKind.wrap .i64 (v5_0 + 1), sb, (.sub ms), some_eq hp⟩
    · replace hp := cond_f hc6 hp
      refine W_exit ?_
      replace hp := map_any hp; obtain ⟨a14, hp, hx_a14⟩ := hp
      obtain rfl := hx5 _ hx_a14
      refine s5 ?_
      exact ⟨IntKind.wrap .i64 (v1_0 + 1), sb, (.sub ms), some_eq hp⟩
  · replace hp := cond_f hc2 hp
    refine W_exit ?_
    replace hp := map_any hp; obtain ⟨a15, hp, hx_a15⟩ := hp
    obtain rfl := hx1 _ hx_a15
    refine s4 ?_
    obtain rfl := Option.some.inj hp
    refine s1 ?_
    refine res1 rfl (ResOK.tmp rfl) ⟨rfl, rfl⟩ ms
noncomputable def s_Parts (a0 : List D_Inst) : Option (List (List D_Id)) :=
  Option.bind (some ([] : List (List D_Id))) (fun y2 => Option.bind (some ([] : List D_Id)) (fun y4 => whileP (fun s5 : (List (List D_Id)) × (List D_Id) => Option.bind (s_InstsOk a0) (fun y6 => cond y6 (whileP (fun s8 : (List (List D_Id)) × (List D_Id) × Bool × Int => cond ((decide (s8.2.2.2 < (a0.length : Int))) && (!s8.2.2.1)) (Option.bind (idx a0 s8.2.2.2) (fun y10 => Option.bind (s_l8Has s8.2.1 (y10.1.1, y10.1.2)) (fun y11 => gb (!y11) (idx a0 s8.2.2.2) (fun y12 => gb (!y11) (s_l12Ready a0 (y12.1.1, y12.1.2)) (fun y13 => cond (y11 || (!y13)) (some (.inl ((s8.1, s8.2.1, s8.2.2.1, IntKind.wrap .i64 (s8.2.2.2 + 1))))) (Option.bind (idx a0 s8.2.2.2) (fun y15 => Option.bind (s_l12Part a0 (y15.1.1, y15.1.2)) (fun y16 => Option.bind (s_l12May a0 y16 s8.2.1) (fun y17 => cond y17 (Option.bind (appP s8.1 [y16]) (fun y20 => Option.bind (appP s8.2.1 y16) (fun y22 => some (.inl ((y20, y22, true, IntKind.wrap .i64 (s8.2.2.2 + 1))))))) (some (.inl ((s8.1, s8.2.1, s8.2.2.1, IntKind.wrap .i64 (s8.2.2.2 + 1)))))))))))))) (Option.map .inr (cond (!s8.2.2.1) (Option.map .inr (some s8.1)) (some (.inl ((s8.1, s8.2.1))))))) (s5.1, s5.2, false, 0)) (Option.map .inr (some s5.1)))) (y2, y4)))
theorem s_Parts_walk (w : World) (a0 : TL T_Inst) (h0 : GT.rd w [] a0) (r : (List (List D_Id))) (hp : s_Parts (GT.dat a0) = some r) : Spec Tryz.prog 48 [(TL.hdr a0)].toArray w [] (fun v M => ∃ (x0 : TL (TL T_Id)), v = (TL.hdr x0) ∧ GT.dat x0 = r ∧ M = [treeH x0]) := by
  refine Spec.intro Tryz.func48 rfl Tryz.ntmps48 rfl ?_
  unfold s_Parts at hp
  replace hp := dd hp
  refine s2 ?_
  refine L_assign (v := (TL.hdr (TL.nil (TL T_Id) 0))) rfl rfl ?_
  refine s3 ?_
  replace hp := ba hp; obtain ⟨y2, hy2, hp⟩ := hp
  refine L_mk0 (TL T_Id) rfl el85.h (fun X1 hdX1 => ?_)
  obtain rfl : GT.dat X1 = y2 := hdX1.trans (Option.some.inj hy2)
  clear hy2 hdX1
  refine s4 ?_
  replace hp := ba hp; obtain ⟨y4, hy4, hp⟩ := hp
  refine L_mk0 T_Id rfl el51.h (fun X3 hdX3 => ?_)
  obtain rfl : GT.dat X3 = y4 := hdX3.trans (Option.some.inj hy4)
  clear hy4 hdX3
  refine s4 ?_
  refine W_while (σ := (TL (TL T_Id)) × (TL T_Id)) GT.dat (fun ((v5_0, v5_1) : (TL (TL T_Id)) × (TL T_Id)) => [(3, (TL.hdr v5_0)), (4, (TL.hdr v5_1))]) (fun ((v5_0, v5_1) : (TL (TL T_Id)) × (TL T_Id)) => [treeH v5_0, treeH v5_1]) [(0, _)] [] (X1, X3) hp sb ms ?_
  clear hp
  rintro ⟨v5_0, v5_1⟩ x5 hp hx5
  replace hp := dd hp
  refine kq [0, 3, 4] ?_
  refine s4 ?_
  replace hp := ba hp; obtain ⟨y6, hy6, hp⟩ := hp
  refine L_callX rfl fn61.h rfl (by exact fun w hw => s_InstsOk_walk w a0 (RdT.now (RdT.old h0) hw) _ hy6) ?_
  refine s1 ?_
  refine kp [0, 3, 4, 11] ?_
  refine W_cond rfl (fun hc7 => ?_) (fun hc7 => ?_)
  · replace hp := cond_t hc7 hp
    refine s12 ?_
    refine W_while (σ := (TL (TL T_Id)) × (TL T_Id) × Bool × Int) GT.dat (fun ((v8_0, v8_1, v8_2, v8_3) : (TL (TL T_Id)) × (TL T_Id) × Bool × Int) => [(3, (TL.hdr v8_0)), (4, (TL.hdr v8_1)), (5, .bool v8_2), (6, .int .i64 v8_3)]) (fun ((v8_0, v8_1, v8_2, v8_3) : (TL (TL T_Id)) × (TL T_Id) × Bool × Int) => [treeH v8_0, treeH v8_1]) [(0, _)] [] (v5_0, v5_1, false, 0) hp sb ms ?_
    clear hp
    rintro ⟨v8_0, v8_1, v8_2, v8_3⟩ x8 hp hx8
    replace hp := dd hp
    refine kq [0, 3, 4, 5, 6] ?_
    refine s2 ?_
    refine W_D0 [19] mix (by kernel_rfl) rfl ?_
    refine s2 ?_
    refine D_lenP (X := a0) GC.none (OpV.t rfl) el43.h ?_
    refine s15 ?_
    refine kp [0, 3, 4, 5, 6, 19] ?_
    refine W_cond rfl (fun hc9 => ?_) (fun hc9 => ?_)
    · replace hp := cond_t hc9 hp
      refine s5 ?_
      replace hp := idx_bind hp; obtain ⟨⟨⟨u10_1, u10_2⟩, u10_3, u10_4, u10_5, ⟨u10_6, u10_7, u10_8, u10_9, u10_10, u10_11, u10_12, u10_13⟩, u10_14, u10_15, u10_16⟩, hy10, hp⟩ := hp
      replace hp := ba hp; obtain ⟨y11, hy11, hp⟩ := hp
      replace hp := idx_gb hp; obtain ⟨⟨⟨u12_1, u12_2⟩, u12_3, u12_4, u12_5, ⟨u12_6, u12_7, u12_8, u12_9, u12_10, u12_11, u12_12, u12_13⟩, u12_14, u12_15, u12_16⟩, hy12, hp⟩ := hp
      replace hp := gb_any hp; obtain ⟨y13, hy13, hp⟩ := hp
      refine W_D0 [38] mix (by kernel_rfl) rfl ?_
      refine s3 ?_
      refine D_idxA (X := a0) GC.none (OpV.t rfl) (OpV.t rfl) el43.h (RdT.old h0) (fun _ => hy10) ?_
      refine s1 ?_
      refine D_loadW GC.none (OpV.t rfl) (fun hg => RdC.seg (RdT.at (RdT.old h0) (hy10).2) 0 2 rfl) (by exact agg71.h) ?_
      refine D_callX GC.none fn67.h (OpVs.cons (OpV.t rfl) (OpVs.cons (OpV.t rfl) (OpVs.nil))) (by exact fun hg w F hF hM => s_l8Has_walk w v8_1 (u10_1, u10_2) (RdT.nowS (RdT.tree mm) hF hM) (RdT.nowS (RdT.pair RdT.int RdT.int) hF hM) _ hy11) ?_
      refine s4 ?_
      refine D_idxA (X := a0) (GC.some rfl rfl) (OpV.s rfl) (OpV.s rfl) el43.h (RdT.old h0) (fun hg => hy12 (gnot hg.2)) ?_
      refine s1 ?_
      refine D_loadW (GC.some rfl rfl) (OpV.s rfl) (fun hg => RdC.seg (RdT.at (RdT.old h0) (hy12 (gnot hg.2)).2) 0 2 rfl) (by exact agg71.h) ?_
      refine D_callX (GC.some rfl rfl) fn94.h (OpVs.cons (OpV.s rfl) (OpVs.cons (OpV.s rfl) (OpVs.nil))) (by exact fun hg w F hF hM => s_l12Ready_walk w a0 (u12_1, u12_2) (RdT.nowS (RdT.old h0) hF hM) (RdT.nowS (RdT.pair RdT.int RdT.int) hF hM) _ (hy13 (gnot hg.2))) ?_
      refine s20 ?_
      refine s1 ?_
      refine kp [0, 3, 4, 5, 6, 38] ?_
      refine W_cond rfl (fun hc14 => ?_) (fun hc14 => ?_)
      · replace hp := cond_t hc14 hp
        refine W_exit ?_
        refine s5 ?_
        exact ⟨(v8_0, v8_1, v8_2, IntKind.wrap .i64 (v8_3 + 1)), sb, (.sub ms), some_eq hp⟩
      · replace hp := cond_f hc14 hp
        refine s6 ?_
        replace hp := idx_bind hp; obtain ⟨u15, hy15, hp⟩ := hp
        obtain rfl : ((u10_1, u10_2), u10_3, u10_4, u10_5, (u10_6, u10_7, u10_8, u10_9, u10_10, u10_11, u10_12, u10_13), u10_14, u10_15, u10_16) = u15 := Option.some.inj (hy10.2.symm.trans hy15.2)
        refine L_idxA (X := a0) rfl rfl rfl el43.h (RdT.old h0) hy10 ?_
        refine s1 ?_
        refine L_loadW rfl rfl (RdC.seg (RdT.at (RdT.old h0) (hy10).2) 0 2 rfl) (by exact agg71.h) ?_
        replace hp := ba hp; obtain ⟨y16, hy16, hp⟩ := hp
        refine L_callR rfl fn95.h rfl (by exact fun w hw => s_l12Part_walk w a0 (u10_1, u10_2) (RdT.now (RdT.old h0) hw) (RdT.now (RdT.pair RdT.int RdT.int) hw) _ hy16) ?_
        rintro _ _ ⟨y16x0, rfl, rfl, rfl⟩
        refine sc ?_
        replace hp := dd hp
        refine s7 ?_
        replace hp := ba hp; obtain ⟨y17, hy17, hp⟩ := hp
        refine L_callX rfl fn96.h rfl (by exact fun w hw => s_l12May_walk w a0 y16x0 v8_1 (RdT.now (RdT.old h0) hw) (RdT.now (RdT.tree mm) hw) (RdT.now (RdT.tree mm) hw) _ hy17) ?_
        refine s1 ?_
        refine kp [0, 3, 4, 5, 6, 7, 49] ?_
        refine W_cond rfl (fun hc18 => ?_) (fun hc18 => ?_)
        · replace hp := cond_t hc18 hp
          refine s4 ?_
          refine L_buildSlice1 rfl rfl el85.h rfl (by decide) (by decide) rfl (fun bb52 => ?_)
          replace hp := ba hp; obtain ⟨y20, hy20, hp⟩ := hp
          refine L_app1m (X := v8_0) (y16x0 : (TL T_Id)) rfl rfl rfl el85.h rfl rfl pk mm pk hy20 (by decide) (fun X19 hdX19 hmX19 => ?_)
          subst hdX19
          refine s6 ?_
          replace hp := ba hp; obtain ⟨y22, hy22, hp⟩ := hp
          refine L_appT (X := v8_1) (Y := y16x0) rfl rfl rfl el51.h rfl rfl pk (RdT.el (RdT.tree mm) hmX19) hy22 (by decide) (fun X21 hdX21 => ?_)
          subst hdX21
          refine s10 ?_
          exact ⟨(X19, X21, true, IntKind.wrap .i64 (v8_3 + 1)), sb, (.sub ms), some_eq hp⟩
        · replace hp := cond_f hc18 hp
          refine s6 ?_
          exact ⟨(v8_0, v8_1, v8_2, IntKind.wrap .i64 (v8_3 + 1)), sb, (.sub ms), some_eq hp⟩
    · replace hp := cond_f hc9 hp
      refine W_exit ?_
      replace hp := map_any hp; obtain ⟨a23, hp, hx_a23⟩ := hp
      obtain rfl := hx8 _ hx_a23
      refine s5 ?_
      refine kp [0, 3, 4, 58] ?_
      refine W_cond rfl (fun hc24 => ?_) (fun hc24 => ?_)
      · replace hp := cond_t hc24 hp
        refine s5 ?_
        replace hp := map_any hp; obtain ⟨a25, hp, hx_a25⟩ := hp
        obtain rfl := hx5 _ hx_a25
        obtain rfl := Option.some.inj hp
        refine s1 ?_
        refine res1 rfl (ResOK.tmp rfl) ⟨v8_0, rfl, rfl, rfl⟩ ms
      · replace hp := cond_f hc24 hp
        refine s1 ?_
        exact ⟨(v8_0, v8_1), sb, (.sub ms), some_eq hp⟩
  · replace hp := cond_f hc7 hp
    refine W_exit ?_
    replace hp := map_any hp; obtain ⟨a26, hp, hx_a26⟩ := hp
    obtain rfl := hx5 _ hx_a26
    refine s5 ?_
    obtain rfl := Option.some.inj hp
    refine s1 ?_
    refine res1 rfl (ResOK.tmp rfl) ⟨v5_0, rfl, rfl, rfl⟩ ms
noncomputable def s_ExecOrder (a0 : List D_Inst) : Option (List D_Id) :=
  Option.bind (some ([] : List D_Id)) (fun y2 => Option.bind (s_Parts a0) (fun y3 => whileP (fun s4 : (List D_Id) × Int => cond (decide (s4.2 < (y3.length : Int))) (Option.bind (idx y3 s4.2) (fun y6 => Option.bind (appP s4.1 y6) (fun y8 => some (.inl ((y8, IntKind.wrap .i64 (s4.2 + 1))))))) (Option.map .inr (some s4.1))) (y2, 0)))
theorem s_ExecOrder_walk (w : World) (a0 : TL T_Inst) (h0 : GT.rd w [] a0) (r : (List D_Id)) (hp : s_ExecOrder (GT.dat a0) = some r) : Spec Tryz.prog 26 [(TL.hdr a0)].toArray w [] (fun v M => ∃ (x0 : TL T_Id), v = (TL.hdr x0) ∧ GT.dat x0 = r ∧ M = [treeH x0]) := by
  refine Spec.intro Tryz.func26 rfl Tryz.ntmps26 rfl ?_
  unfold s_ExecOrder at hp
  replace hp := dd hp
  refine s2 ?_
  refine L_assign (v := (TL.hdr (TL.nil T_Id 0))) rfl rfl ?_
  refine s3 ?_
  replace hp := ba hp; obtain ⟨y2, hy2, hp⟩ := hp
  refine L_mk0 T_Id rfl el51.h (fun X1 hdX1 => ?_)
  obtain rfl : GT.dat X1 = y2 := hdX1.trans (Option.some.inj hy2)
  clear hy2 hdX1
  refine s5 ?_
  replace hp := ba hp; obtain ⟨y3, hy3, hp⟩ := hp
  refine L_callR rfl fn48.h rfl (by exact fun w hw => s_Parts_walk w a0 (RdT.now (RdT.old h0) hw) _ hy3) ?_
  rintro _ _ ⟨y3x0, rfl, rfl, rfl⟩
  refine sc ?_
  replace hp := dd hp
  refine s8 ?_
  refine W_while (σ := (TL T_Id) × Int) GT.dat (fun ((v4_0, v4_1) : (TL T_Id) × Int) => [(3, (TL.hdr v4_0)), (5, .int .i64 v4_1)]) (fun ((v4_0, v4_1) : (TL T_Id) × Int) => [treeH v4_0]) [(4, _)] [treeH y3x0] (X1, 0) hp sb ms ?_
  clear hp
  rintro ⟨v4_0, v4_1⟩ x4 hp hx4
  replace hp := dd hp
  refine kq [3, 4, 5] ?_
  refine s8 ?_
  refine kp [3, 4, 5, 12] ?_
  refine W_cond rfl (fun hc5 => ?_) (fun hc5 => ?_)
  · replace hp := cond_t hc5 hp
    refine s7 ?_
    replace hp := idx_bind hp; obtain ⟨u6, hy6, hp⟩ := hp
    refine L_idxA (X := y3x0) rfl rfl rfl el85.h (RdT.tree mm) hy6 ?_
    refine L_load0 rfl rfl (RdT.at (RdT.tree mm) (hy6).2) one51.h rfl ?_
    replace hp := ba hp; obtain ⟨y8, hy8, hp⟩ := hp
    refine L_appT (X := v4_0) (Y := u6) rfl rfl rfl el51.h rfl rfl pk (RdT.of (RdT.tree mm) (hy6).2) hy8 (by decide) (fun X7 hdX7 => ?_)
    subst hdX7
    refine s7 ?_
    exact ⟨(X7, IntKind.wrap .i64 (v4_1 + 1)), sb, (.sub ms), some_eq hp⟩
  · replace hp := cond_f hc5 hp
    refine W_exit ?_
    replace hp := map_any hp; obtain ⟨a9, hp, hx_a9⟩ := hp
    obtain rfl := hx4 _ hx_a9
    refine s5 ?_
    obtain rfl := Option.some.inj hp
    refine s1 ?_
    refine res1 rfl (ResOK.tmp rfl) ⟨v4_0, rfl, rfl, rfl⟩ ms
noncomputable def s_Known (a0 : D_ENet) : Option (List Int) :=
  Option.bind (some ([] : List Int)) (fun y2 => whileP (fun s3 : (List Int) × Int => gb (decide (s3.2 < 3)) (s_ENetOk (a0.1, a0.2)) (fun y4 => cond ((decide (s3.2 < 3)) && y4) (Option.bind (idx a0.1 s3.2) (fun y6 => Option.bind (s_ExecOrder y6.2.2.1) (fun y7 => Option.bind (appP s3.1 [(y7.length : Int)]) (fun y9 => some (.inl ((y9, IntKind.wrap .i64 (s3.2 + 1)))))))) (Option.map .inr (some s3.1)))) (y2, 0))
theorem s_Known_walk (w : World) (a0 : T_ENet) (h0 : GT.rd w [] a0) (r : (List Int)) (hp : s_Known (GT.dat a0) = some r) : Spec Tryz.prog 10 [.agg (GT.cells a0).toArray].toArray w [] (fun v M => ∃ (x0 : TL Int), v = (TL.hdr x0) ∧ GT.dat x0 = r ∧ M = [treeH x0]) := by
  obtain ⟨a0_1, a0_2⟩ := a0
  change Spec _ _ ([Value.agg #[(TL.hdr a0_1), (TL.hdr a0_2)]] : List Value).toArray w [] _
  refine Spec.intro Tryz.func10 rfl Tryz.ntmps10 rfl ?_
  unfold s_Known at hp
  replace hp := dd hp
  refine s2 ?_
  refine bx fun bk1 => ?_
  refine L_assign (v := (TL.hdr (TL.nil Int 0))) rfl rfl ?_
  refine s3 ?_
  replace hp := ba hp; obtain ⟨y2, hy2, hp⟩ := hp
  refine L_mk0 Int rfl el35.h (fun X1 hdX1 => ?_)
  obtain rfl : GT.dat X1 = y2 := hdX1.trans (Option.some.inj hy2)
  clear hy2 hdX1
  refine s8 ?_
  refine W_while (σ := (TL Int) × Int) GT.dat (fun ((v3_0, v3_1) : (TL Int) × Int) => [(3, (TL.hdr v3_0)), (4, .int .i64 v3_1)]) (fun ((v3_0, v3_1) : (TL Int) × Int) => [treeH v3_0]) [(1, _)] [blk bk1 _ _] (X1, 0) hp sb ms ?_
  clear hp
  rintro ⟨v3_0, v3_1⟩ x3 hp hx3
  replace hp := dd hp
  refine kq [1, 3, 4] ?_
  refine s2 ?_
  replace hp := gb_any hp; obtain ⟨y4, hy4, hp⟩ := hp
  refine W_D0 [11] mix (by kernel_rfl) rfl ?_
  refine s4 ?_
  refine D_callX (GC.some rfl rfl) fn18.h (OpVs.cons (OpV.s rfl) (OpVs.nil)) (by exact fun hg w F hF hM => s_ENetOk_walk w (a0_1, a0_2) (RdT.nowS (RdT.pair (RdT.old h0.1) (RdT.old h0.2)) hF hM) _ (hy4 hg.2)) ?_
  refine s9 ?_
  refine kp [1, 3, 4, 11] ?_
  refine W_cond rfl (fun hc5 => ?_) (fun hc5 => ?_)
  · replace hp := cond_t hc5 hp
    refine s8 ?_
    replace hp := idx_bind hp; obtain ⟨⟨u6_1, u6_2, u6_3, u6_4⟩, hy6, hp⟩ := hp
    refine L_idxA (X := a0_1) rfl rfl rfl el28.h (RdT.old h0.1) hy6 ?_
    refine s1 ?_
    refine L_load rfl rfl (RdT.at (RdT.old h0.1) (hy6).2) one43.h rfl ?_
    replace hp := ba hp; obtain ⟨y7, hy7, hp⟩ := hp
    refine L_callR rfl fn26.h rfl (by exact fun w hw => s_ExecOrder_walk w u6_3 (RdT.now (RdT.fst (RdT.snd (RdT.snd (RdT.of (RdT.old h0.1) (hy6).2)))) hw) _ hy7) ?_
    rintro _ _ ⟨y7x0, rfl, rfl, rfl⟩
    refine sc ?_
    replace hp := dd hp
    refine s1 ?_
    refine L_buildSlice1 rfl rfl el35.h rfl (by decide) (by decide) rfl (fun bb23 => ?_)
    replace hp := ba hp; obtain ⟨y9, hy9, hp⟩ := hp
    refine L_app1F (X := v3_0) (((GT.dat y7x0).length : Int) : Int) rfl rfl rfl el35.h rfl rfl pk mm  hy9 (by decide) (fun X8 hdX8 => ?_)
    subst hdX8
    refine s7 ?_
    exact ⟨(X8, IntKind.wrap .i64 (v3_1 + 1)), sb, (.sub ms), some_eq hp⟩
  · replace hp := cond_f hc5 hp
    refine W_exit ?_
    replace hp := map_any hp; obtain ⟨a10, hp, hx_a10⟩ := hp
    obtain rfl := hx3 _ hx_a10
    refine s5 ?_
    obtain rfl := Option.some.inj hp
    refine s1 ?_
    refine res1 rfl (ResOK.tmp rfl) ⟨v3_0, rfl, rfl, rfl⟩ ms
end Go.Proofs.SL
