/- The texts of the proof, part 9: the base, walks of functions, plain Lean. -/
import Derived.Test.YtgeilkcgaepblaaGreatT7
import Derived.Test.YtgeilkcgaepblaaGreatT4
import Derived.Test.YtgeilkcgaepblaaGreatT8
import Derived.Test.YtgeilkcgaepblaaGreatT3
namespace Go.Proofs.SL
open Go
set_option maxHeartbeats 2000000
instance fn135 : FnF Tryz.prog 135 := ⟨⟨_, Tryz.func135, by kernel_rfl, rfl⟩⟩
instance fn137 : FnF Tryz.prog 137 := ⟨⟨_, Tryz.func137, by kernel_rfl, rfl⟩⟩
instance fn148 : FnF Tryz.prog 148 := ⟨⟨_, Tryz.func148, by kernel_rfl, rfl⟩⟩
instance fn136 : FnF Tryz.prog 136 := ⟨⟨_, Tryz.func136, by kernel_rfl, rfl⟩⟩
instance fn94 : FnF Tryz.prog 94 := ⟨⟨_, Tryz.func94, by kernel_rfl, rfl⟩⟩
instance fn95 : FnF Tryz.prog 95 := ⟨⟨_, Tryz.func95, by kernel_rfl, rfl⟩⟩
instance fn96 : FnF Tryz.prog 96 := ⟨⟨_, Tryz.func96, by kernel_rfl, rfl⟩⟩
instance fn48 : FnF Tryz.prog 48 := ⟨⟨_, Tryz.func48, by kernel_rfl, rfl⟩⟩
instance fn26 : FnF Tryz.prog 26 := ⟨⟨_, Tryz.func26, by kernel_rfl, rfl⟩⟩
instance fn35 : FnF Tryz.prog 35 := ⟨⟨_, Tryz.func35, by kernel_rfl, rfl⟩⟩
instance fn37 : FnF Tryz.prog 37 := ⟨⟨_, Tryz.func37, by kernel_rfl, rfl⟩⟩
instance fn36 : FnF Tryz.prog 36 := ⟨⟨_, Tryz.func36, by kernel_rfl, rfl⟩⟩
instance fn18 : FnF Tryz.prog 18 := ⟨⟨_, Tryz.func18, by kernel_rfl, rfl⟩⟩
instance fn19 : FnF Tryz.prog 19 := ⟨⟨_, Tryz.func19, by kernel_rfl, rfl⟩⟩
noncomputable def s_l12Find (a0 : List D_Inst) (a1 : D_Id) : Option Int :=
  whileP (fun s1 : Int => cond (decide (s1 < (a0.length : Int))) (Option.bind (idx a0 s1) (fun y3 => gb (decide (y3.1.1 = a1.1) && (decide (y3.1.2 = a1.2) && true)) (idx a0 s1) (fun y4 => cond ((decide (y3.1.1 = a1.1) && (decide (y3.1.2 = a1.2) && true)) && (decide (y4.2.2.2.1 = 3))) (Option.map .inr (some s1)) (some (.inl (IntKind.wrap .i64 (s1 + 1))))))) (Option.map .inr (some (-1)))) 0
theorem s_l12Find_walk (w : World) (a0 : TL T_Inst) (a1 : T_Id) (h0 : GT.rd w [] a0) (h1 : GT.rd w [] a1) (r : Int) (hp : s_l12Find (GT.dat a0) (GT.dat a1) = some r) : Spec Tryz.prog 135 [(TL.hdr a0), .agg (GT.cells a1).toArray].toArray w [] (IsV (.int .i64 r)) := by
  obtain ⟨a1_1, a1_2⟩ := a1
  change Spec _ _ ([(TL.hdr a0), Value.agg #[.int .i64 a1_1, .int .i64 a1_2]] : List Value).toArray w [] _
  refine Spec.intro Tryz.func135 rfl Tryz.ntmps135 rfl ?_
  unfold s_l12Find at hp
  replace hp := dd hp
  refine s2 ?_
  refine bx fun bk3 => ?_
  refine s8 ?_
  refine W_while (σ := Int) GT.dat (fun (v1_0 : Int) => [(5, .int .i64 v1_0)]) (fun (v1_0 : Int) => []) [(0, _), (3, _)] [blk bk3 _ _] 0 hp sb ms ?_
  clear hp
  rintro v1_0 x1 hp hx1
  replace hp := dd hp
  refine kq [0, 3, 5] ?_
  refine s8 ?_
  refine kp [0, 3, 5, 9] ?_
  refine W_cond rfl (fun hc2 => ?_) (fun hc2 => ?_)
  · replace hp := cond_t hc2 hp
    refine s4 ?_
    replace hp := idx_bind hp; obtain ⟨⟨⟨u3_1, u3_2⟩, u3_3, u3_4, u3_5, ⟨u3_6, u3_7, u3_8, u3_9, u3_10, u3_11, u3_12, u3_13⟩, u3_14, u3_15, u3_16⟩, hy3, hp⟩ := hp
    replace hp := idx_gb hp; obtain ⟨⟨⟨u4_1, u4_2⟩, u4_3, u4_4, u4_5, ⟨u4_6, u4_7, u4_8, u4_9, u4_10, u4_11, u4_12, u4_13⟩, u4_14, u4_15, u4_16⟩, hy4, hp⟩ := hp
    refine W_D0 [26] mix (by kernel_rfl) rfl ?_
    refine s2 ?_
    refine D_idxA (X := a0) GC.none (OpV.t rfl) (OpV.t rfl) el43.h (RdT.old h0) (fun _ => hy3) ?_
    refine s1 ?_
    refine D_loadW GC.none (OpV.t rfl) (fun hg => RdC.seg (RdT.at (RdT.old h0) (hy3).2) 0 2 rfl) (by exact agg71.h) ?_
    refine s1 ?_
    refine D_bin GC.none (OpV.t rfl) (OpV.t rfl) (fun hg => (bv_aeql eqsh71 (EqS.consI one3.h und3.h rfl rfl (EqS.consI one3.h und3.h rfl rfl EqS.nil)))) ?_
    refine s3 ?_
    refine D_idxA (X := a0) (GC.some rfl rfl) (OpV.s rfl) (OpV.s rfl) el43.h (RdT.old h0) (fun hg => hy4 hg.2) ?_
    refine s1 ?_
    refine D_load (GC.some rfl rfl) (OpV.s rfl) (fun hg => RdT.at (RdT.old h0) (hy4 hg.2).2) one3.h rfl ?_
    refine s19 ?_
    refine kp [0, 3, 5, 26] ?_
    refine W_cond rfl (fun hc5 => ?_) (fun hc5 => ?_)
    · replace hp := cond_t hc5 hp
      refine s5 ?_
      replace hp := map_any hp; obtain ⟨a6, hp, hx_a6⟩ := hp
      obtain rfl := hx1 _ hx_a6
      obtain rfl := Option.some.inj hp
      refine s1 ?_
      refine res1 rfl (ResOK.tmp rfl) ⟨rfl, rfl⟩ ms
    · replace hp := cond_f hc5 hp
      refine s6 ?_
      exact ⟨IntKind.wrap .i64 (v1_0 + 1), sb, (.sub ms), some_eq hp⟩
  · replace hp := cond_f hc2 hp
    refine W_exit ?_
    replace hp := map_any hp; obtain ⟨a7, hp, hx_a7⟩ := hp
    obtain rfl := hx1 _ hx_a7
    refine s4 ?_
    obtain rfl := Option.some.inj hp
    refine s1 ?_
    refine res1 rfl (ResOK.tmp rfl) ⟨rfl, rfl⟩ ms
noncomputable def s_l12Deps (a0 : List D_Inst) (a1 : D_Id) : Option (List D_Id) :=
  Option.bind (s_l12Find a0 (a1.1, a1.2)) (fun y1 => cond (decide (y1 < 0)) (Option.bind (some ([] : List D_Id)) (fun y4 => some y4)) (Option.bind (idx a0 y1) (fun y5 => some y5.2.2.2.2.2.2.1)))
theorem s_l12Deps_walk (w : World) (a0 : TL T_Inst) (a1 : T_Id) (h0 : GT.rd w [] a0) (h1 : GT.rd w [] a1) (r : (List D_Id)) (hp : s_l12Deps (GT.dat a0) (GT.dat a1) = some r) : Spec Tryz.prog 137 [(TL.hdr a0), .agg (GT.cells a1).toArray].toArray w [] (fun v M => ∃ (x0 : TL T_Id), v = (TL.hdr x0) ∧ GT.dat x0 = r ∧ M = [] ∧ (∀ (w' : World) (S : List Nat), GT.rd w' S a0 → GT.rd w' S a1 → GT.rd w' S x0)) := by
  obtain ⟨a1_1, a1_2⟩ := a1
  change Spec _ _ ([(TL.hdr a0), Value.agg #[.int .i64 a1_1, .int .i64 a1_2]] : List Value).toArray w [] _
  refine Spec.intro Tryz.func137 rfl Tryz.ntmps137 rfl ?_
  unfold s_l12Deps at hp
  replace hp := dd hp
  refine s2 ?_
  refine bx fun bk3 => ?_
  refine L_assign (v := (TL.hdr (TL.nil T_Id 0))) rfl rfl ?_
  refine s5 ?_
  replace hp := ba hp; obtain ⟨y1, hy1, hp⟩ := hp
  refine L_callX rfl fn135.h rfl (by exact fun w hw => s_l12Find_walk w a0 (a1_1, a1_2) (RdT.now (RdT.old h0) hw) (RdT.now (RdT.pair RdT.int RdT.int) hw) _ hy1) ?_
  refine s8 ?_
  refine kp [0, 5, 10] ?_
  refine W_cond rfl (fun hc2 => ?_) (fun hc2 => ?_)
  · replace hp := cond_t hc2 hp
    refine s2 ?_
    replace hp := ba hp; obtain ⟨y4, hy4, hp⟩ := hp
    refine L_mk0r T_Id rfl el51.h (fun X3 hdX3 hrX3 => ?_)
    obtain rfl : GT.dat X3 = y4 := hdX3.trans (Option.some.inj hy4)
    clear hy4 hdX3
    refine s2 ?_
    obtain rfl := Option.some.inj hp
    refine s1 ?_
    refine res1 rfl (ResOK.tmp rfl) ⟨X3, rfl, rfl, rfl, (fun w' S h0 h1 => (RdO.any hrX3))⟩ ms
  · replace hp := cond_f hc2 hp
    refine s5 ?_
    replace hp := idx_bind hp; obtain ⟨⟨⟨u5_1, u5_2⟩, u5_3, u5_4, u5_5, ⟨u5_6, u5_7, u5_8, u5_9, u5_10, u5_11, u5_12, u5_13⟩, u5_14, u5_15, u5_16⟩, hy5, hp⟩ := hp
    refine L_idxA (X := a0) rfl rfl rfl el43.h (RdT.old h0) hy5 ?_
    refine s1 ?_
    refine L_load rfl rfl (RdT.at (RdT.old h0) (hy5).2) one51.h rfl ?_
    refine s2 ?_
    obtain rfl := Option.some.inj hp
    refine s1 ?_
    refine res1 rfl (ResOK.tmp rfl) ⟨u5_15, rfl, rfl, rfl, (fun w' S h0 h1 => (RdO.fst (RdO.snd (RdO.snd (RdO.snd (RdO.snd (RdO.snd (RdO.snd (RdO.of (RdO.old h0) (hy5).2)))))))))⟩ ms
noncomputable def s_l8Join (a0 : List D_Id) (a1 : List D_Id) : Option (List D_Id) :=
  Option.bind (some ([] : List D_Id)) (fun y2 => whileP (fun s3 : (List D_Id) × Int × Int => cond (decide (s3.2.2 < (a1.length : Int))) (whileP (fun s5 : (List D_Id) × Int => gb (decide (s5.2 < (a0.length : Int))) (idx a0 s5.2) (fun y6 => gb (decide (s5.2 < (a0.length : Int))) (idx a1 s3.2.2) (fun y7 => gb (decide (s5.2 < (a0.length : Int))) (s_l8Less (y6.1, y6.2) (y7.1, y7.2)) (fun y8 => cond ((decide (s5.2 < (a0.length : Int))) && y8) (Option.bind (idx a0 s5.2) (fun y10 => Option.bind (appP s5.1 [(y10.1, y10.2)]) (fun y12 => some (.inl ((y12, IntKind.wrap .i64 (s5.2 + 1))))))) (Option.map .inr (gb (decide (s5.2 < (a0.length : Int))) (idx a0 s5.2) (fun y14 => gb (decide (s5.2 < (a0.length : Int))) (idx a1 s3.2.2) (fun y15 => cond ((decide (s5.2 < (a0.length : Int))) && (decide (y14.1 = y15.1) && (decide (y14.2 = y15.2) && true))) (Option.bind (idx a1 s3.2.2) (fun y17 => Option.bind (appP s5.1 [(y17.1, y17.2)]) (fun y19 => some (.inl ((y19, IntKind.wrap .i64 (s5.2 + 1), IntKind.wrap .i64 (s3.2.2 + 1))))))) (Option.bind (idx a1 s3.2.2) (fun y20 => Option.bind (appP s5.1 [(y20.1, y20.2)]) (fun y22 => some (.inl ((y22, s5.2, IntKind.wrap .i64 (s3.2.2 + 1))))))))))))))) (s3.1, s3.2.1)) (Option.map .inr (Option.bind (slcP a0 s3.2.1 (a0.length : Int)) (fun y24 => Option.bind (appP s3.1 y24) (fun y27 => some y27))))) (y2, 0, 0))
theorem s_l8Join_walk (w : World) (a0 : TL T_Id) (a1 : TL T_Id) (h0 : GT.rd w [] a0) (h1 : GT.rd w [] a1) (r : (List D_Id)) (hp : s_l8Join (GT.dat a0) (GT.dat a1) = some r) : Spec Tryz.prog 148 [(TL.hdr a0), (TL.hdr a1)].toArray w [] (fun v M => ∃ (x0 : TL T_Id), v = (TL.hdr x0) ∧ GT.dat x0 = r ∧ M = [treeH x0]) := by
  refine Spec.intro Tryz.func148 rfl Tryz.ntmps148 rfl ?_
  unfold s_l8Join at hp
  replace hp := dd hp
  refine s2 ?_
  refine L_assign (v := (TL.hdr (TL.nil T_Id 0))) rfl rfl ?_
  refine s3 ?_
  replace hp := ba hp; obtain ⟨y2, hy2, hp⟩ := hp
  refine L_mk0 T_Id rfl el51.h (fun X1 hdX1 => ?_)
  obtain rfl : GT.dat X1 = y2 := hdX1.trans (Option.some.inj hy2)
  clear hy2 hdX1
  refine s12 ?_
  refine W_while (σ := (TL T_Id) × Int × Int) GT.dat (fun ((v3_0, v3_1, v3_2) : (TL T_Id) × Int × Int) => [(5, (TL.hdr v3_0)), (6, .int .i64 v3_1), (7, .int .i64 v3_2)]) (fun ((v3_0, v3_1, v3_2) : (TL T_Id) × Int × Int) => [treeH v3_0]) [(0, _), (1, _)] [] (X1, 0, 0) hp sb ms ?_
  clear hp
  rintro ⟨v3_0, v3_1, v3_2⟩ x3 hp hx3
  replace hp := dd hp
  refine kq [0, 1, 5, 6, 7] ?_
  refine s8 ?_
  refine kp [0, 1, 5, 6, 7, 12] ?_
  refine W_cond rfl (fun hc4 => ?_) (fun hc4 => ?_)
  · replace hp := cond_t hc4 hp
    refine s5 ?_
    refine W_while (σ := (TL T_Id) × Int) GT.dat (fun ((v5_0, v5_1) : (TL T_Id) × Int) => [(5, (TL.hdr v5_0)), (6, .int .i64 v5_1)]) (fun ((v5_0, v5_1) : (TL T_Id) × Int) => [treeH v5_0]) [(0, _), (1, _), (7, _)] [] (v3_0, v3_1) hp sb ms ?_
    clear hp
    rintro ⟨v5_0, v5_1⟩ x5 hp hx5
    replace hp := dd hp
    refine kq [0, 1, 5, 6, 7] ?_
    refine s2 ?_
    replace hp := idx_gb hp; obtain ⟨⟨u6_1, u6_2⟩, hy6, hp⟩ := hp
    replace hp := idx_gb hp; obtain ⟨⟨u7_1, u7_2⟩, hy7, hp⟩ := hp
    replace hp := gb_any hp; obtain ⟨y8, hy8, hp⟩ := hp
    refine W_D0 [29] mix (by kernel_rfl) rfl ?_
    refine s2 ?_
    refine D_lenP (X := a0) GC.none (OpV.t rfl) el51.h ?_
    refine s4 ?_
    refine D_idxA (X := a0) (GC.some rfl rfl) (OpV.s rfl) (OpV.s rfl) el51.h (RdT.old h0) (fun hg => hy6 hg.2) ?_
    refine D_loadW (GC.some rfl rfl) (OpV.s rfl) (fun hg => RdT.at (RdT.old h0) (hy6 hg.2).2) (by exact agg71.h) ?_
    refine s2 ?_
    refine D_idxA (X := a1) (GC.some rfl rfl) (OpV.s rfl) (OpV.s rfl) el51.h (RdT.old h1) (fun hg => hy7 hg.2) ?_
    refine D_loadW (GC.some rfl rfl) (OpV.s rfl) (fun hg => RdT.at (RdT.old h1) (hy7 hg.2).2) (by exact agg71.h) ?_
    refine D_callX (GC.some rfl rfl) fn110.h (OpVs.cons (OpV.s rfl) (OpVs.cons (OpV.s rfl) (OpVs.nil))) (by exact fun hg w F hF hM => s_l8Less_walk w (u6_1, u6_2) (u7_1, u7_2) (RdT.nowS (RdT.pair RdT.int RdT.int) hF hM) (RdT.nowS (RdT.pair RdT.int RdT.int) hF hM) _ (hy8 hg.2)) ?_
    refine s18 ?_
    refine kp [0, 1, 5, 6, 7, 29] ?_
    refine W_cond rfl (fun hc9 => ?_) (fun hc9 => ?_)
    · replace hp := cond_t hc9 hp
      refine s7 ?_
      replace hp := idx_bind hp; obtain ⟨⟨u10_1, u10_2⟩, hy10, hp⟩ := hp
      refine L_idxA (X := a0) rfl rfl rfl el51.h (RdT.old h0) hy10 ?_
      refine L_loadW rfl rfl (RdT.at (RdT.old h0) (hy10).2) (by exact agg71.h) ?_
      refine L_buildSlice1 rfl rfl el51.h rfl (by decide) (by decide) rfl (fun bb35 => ?_)
      replace hp := ba hp; obtain ⟨y12, hy12, hp⟩ := hp
      refine L_app1F (X := v5_0) ((u10_1, u10_2) : T_Id) rfl rfl rfl el51.h rfl rfl pk mm  hy12 (by decide) (fun X11 hdX11 => ?_)
      subst hdX11
      refine s7 ?_
      exact ⟨(X11, IntKind.wrap .i64 (v5_1 + 1)), sb, (.sub ms), some_eq hp⟩
    · replace hp := cond_f hc9 hp
      refine W_exit ?_
      replace hp := map_any hp; obtain ⟨a13, hp, hx_a13⟩ := hp
      obtain rfl := hx5 _ hx_a13
      refine s2 ?_
      replace hp := idx_gb hp; obtain ⟨⟨u14_1, u14_2⟩, hy14, hp⟩ := hp
      replace hp := idx_gb hp; obtain ⟨⟨u15_1, u15_2⟩, hy15, hp⟩ := hp
      refine W_D0 [53] mix (by kernel_rfl) rfl ?_
      refine s2 ?_
      refine D_lenP (X := a0) GC.none (OpV.t rfl) el51.h ?_
      refine s4 ?_
      refine D_idxA (X := a0) (GC.some rfl rfl) (OpV.s rfl) (OpV.s rfl) el51.h (RdT.old h0) (fun hg => hy14 hg.2) ?_
      refine D_loadW (GC.some rfl rfl) (OpV.s rfl) (fun hg => RdT.at (RdT.old h0) (hy14 hg.2).2) (by exact agg71.h) ?_
      refine s2 ?_
      refine D_idxA (X := a1) (GC.some rfl rfl) (OpV.s rfl) (OpV.s rfl) el51.h (RdT.old h1) (fun hg => hy15 hg.2) ?_
      refine D_loadW (GC.some rfl rfl) (OpV.s rfl) (fun hg => RdT.at (RdT.old h1) (hy15 hg.2).2) (by exact agg71.h) ?_
      refine D_bin (GC.some rfl rfl) (OpV.s rfl) (OpV.s rfl) (fun hg => (bv_aeql eqsh71 (EqS.consI one3.h und3.h rfl rfl (EqS.consI one3.h und3.h rfl rfl EqS.nil)))) ?_
      refine s18 ?_
      refine kp [0, 1, 5, 6, 7, 53] ?_
      refine W_cond rfl (fun hc16 => ?_) (fun hc16 => ?_)
      · replace hp := cond_t hc16 hp
        refine s9 ?_
        replace hp := idx_bind hp; obtain ⟨⟨u17_1, u17_2⟩, hy17, hp⟩ := hp
        refine L_idxA (X := a1) rfl rfl rfl el51.h (RdT.old h1) hy17 ?_
        refine L_loadW rfl rfl (RdT.at (RdT.old h1) (hy17).2) (by exact agg71.h) ?_
        refine L_buildSlice1 rfl rfl el51.h rfl (by decide) (by decide) rfl (fun bb61 => ?_)
        replace hp := ba hp; obtain ⟨y19, hy19, hp⟩ := hp
        refine L_app1F (X := v5_0) ((u17_1, u17_2) : T_Id) rfl rfl rfl el51.h rfl rfl pk mm  hy19 (by decide) (fun X18 hdX18 => ?_)
        subst hdX18
        refine s7 ?_
        exact ⟨(X18, IntKind.wrap .i64 (v5_1 + 1), IntKind.wrap .i64 (v3_2 + 1)), sb, (.sub ms), some_eq hp⟩
      · replace hp := cond_f hc16 hp
        refine s5 ?_
        replace hp := idx_bind hp; obtain ⟨⟨u20_1, u20_2⟩, hy20, hp⟩ := hp
        refine L_idxA (X := a1) rfl rfl rfl el51.h (RdT.old h1) hy20 ?_
        refine L_loadW rfl rfl (RdT.at (RdT.old h1) (hy20).2) (by exact agg71.h) ?_
        refine L_buildSlice1 rfl rfl el51.h rfl (by decide) (by decide) rfl (fun bb61 => ?_)
        replace hp := ba hp; obtain ⟨y22, hy22, hp⟩ := hp
        refine L_app1F (X := v5_0) ((u20_1, u20_2) : T_Id) rfl rfl rfl el51.h rfl rfl pk mm  hy22 (by decide) (fun X21 hdX21 => ?_)
        subst hdX21
        refine s7 ?_
        exact ⟨(X21, v5_1, IntKind.wrap .i64 (v3_2 + 1)), sb, (.sub ms), some_eq hp⟩
  · replace hp := cond_f hc4 hp
    refine W_exit ?_
    replace hp := map_any hp; obtain ⟨a23, hp, hx_a23⟩ := hp
    obtain rfl := hx3 _ hx_a23
    refine s5 ?_
    replace hp := ba hp; obtain ⟨y24, hy24, hp⟩ := hp
    refine L_slc (X := a0) rfl rfl rfl rfl el51.h rfl (RdT.old h0) hy24 (fun X25 hdX25 hRX25 => ?_)
    subst hdX25
    replace hp := ba hp; obtain ⟨y27, hy27, hp⟩ := hp
    refine L_appT (X := v3_0) (Y := X25) rfl rfl rfl el51.h rfl rfl pk (RdT.map hRX25 (RdT.old h0)) hy27 (by decide) (fun X26 hdX26 => ?_)
    subst hdX26
    refine s2 ?_
    obtain rfl := Option.some.inj hp
    refine s1 ?_
    refine res1 rfl (ResOK.tmp rfl) ⟨X26, rfl, rfl, rfl⟩ ms
noncomputable def s_l12Reach (a0 : List D_Inst) (a1 : D_Id) : Option (List D_Id) :=
  Option.bind (some ([] : List D_Id)) (fun y2 => Option.bind (s_l12Deps a0 (a1.1, a1.2)) (fun y3 => Option.bind (s_l8Join y2 y3) (fun y4 => whileP (fun s5 : (List D_Id) × Int => cond (decide (s5.2 < 18)) (cond (decide (0 < (s5.1.length : Int))) (Option.bind (idx s5.1 0) (fun y8 => Option.bind (s_l12Deps a0 (y8.1, y8.2)) (fun y9 => Option.bind (s_l8Join s5.1 y9) (fun y10 => whileP (fun s11 : (List D_Id) × Int => cond (decide (s11.2 < (s5.1.length : Int))) (Option.bind (idx s5.1 s11.2) (fun y13 => Option.bind (s_l12Deps a0 (y13.1, y13.2)) (fun y14 => Option.bind (s_l8Join s11.1 y14) (fun y15 => some (.inl ((y15, IntKind.wrap .i64 (s11.2 + 1)))))))) (Option.map .inr (cond (decide ((s11.1.length : Int) = (s5.1.length : Int))) (Option.map .inr (some s5.1)) (some (.inl ((s11.1, IntKind.wrap .i64 (s5.2 + 1)))))))) (y10, IntKind.wrap .i64 (0 + 1)))))) (cond (decide ((s5.1.length : Int) = (s5.1.length : Int))) (Option.map .inr (some s5.1)) (some (.inl ((s5.1, IntKind.wrap .i64 (s5.2 + 1))))))) (Option.map .inr (some s5.1))) (y4, 0))))
theorem s_l12Reach_walk (w : World) (a0 : TL T_Inst) (a1 : T_Id) (h0 : GT.rd w [] a0) (h1 : GT.rd w [] a1) (r : (List D_Id)) (hp : s_l12Reach (GT.dat a0) (GT.dat a1) = some r) : Spec Tryz.prog 136 [(TL.hdr a0), .agg (GT.cells a1).toArray].toArray w [] (fun v M => ∃ (x0 : TL T_Id), v = (TL.hdr x0) ∧ GT.dat x0 = r ∧ M = [treeH x0]) := by
  obtain ⟨a1_1, a1_2⟩ := a1
  change Spec _ _ ([(TL.hdr a0), Value.agg #[.int .i64 a1_1, .int .i64 a1_2]] : List Value).toArray w [] _
  refine Spec.intro Tryz.func136 rfl Tryz.ntmps136 rfl ?_
  unfold s_l12Reach at hp
  replace hp := dd hp
  refine s2 ?_
  refine bx fun bk3 => ?_
  refine L_assign (v := (TL.hdr (TL.nil T_Id 0))) rfl rfl ?_
  refine s3 ?_
  replace hp := ba hp; obtain ⟨y2, hy2, hp⟩ := hp
  refine L_mk0 T_Id rfl el51.h (fun X1 hdX1 => ?_)
  obtain rfl : GT.dat X1 = y2 := hdX1.trans (Option.some.inj hy2)
  clear hy2 hdX1
  refine s2 ?_
  replace hp := ba hp; obtain ⟨y3, hy3, hp⟩ := hp
  refine L_callR rfl fn137.h rfl (by exact fun w hw => s_l12Deps_walk w a0 (a1_1, a1_2) (RdT.now (RdT.old h0) hw) (RdT.now (RdT.pair RdT.int RdT.int) hw) _ hy3) ?_
  rintro _ _ ⟨y3x0, rfl, rfl, rfl, hby3x0⟩
  refine sc ?_
  replace hp := dd hp
  replace hp := ba hp; obtain ⟨y4, hy4, hp⟩ := hp
  refine L_callR rfl fn148.h rfl (by exact fun w hw => s_l8Join_walk w X1 y3x0 (RdT.now (RdT.tree mm) hw) (RdT.now (RdT.map2 hby3x0 (RdT.old h0) (RdT.pair RdT.int RdT.int)) hw) _ hy4) ?_
  rintro _ _ ⟨y4x0, rfl, rfl, rfl⟩
  refine sc ?_
  replace hp := dd hp
  refine s8 ?_
  refine W_while (σ := (TL T_Id) × Int) GT.dat (fun ((v5_0, v5_1) : (TL T_Id) × Int) => [(5, (TL.hdr v5_0)), (6, .int .i64 v5_1)]) (fun ((v5_0, v5_1) : (TL T_Id) × Int) => [treeH v5_0]) [(0, _)] [] (y4x0, 0) hp sb ms ?_
  clear hp
  rintro ⟨v5_0, v5_1⟩ x5 hp hx5
  replace hp := dd hp
  refine kq [0, 5, 6] ?_
  refine s6 ?_
  refine kp [0, 5, 6, 15] ?_
  refine W_cond rfl (fun hc6 => ?_) (fun hc6 => ?_)
  · replace hp := cond_t hc6 hp
    refine s14 ?_
    refine W_peel ?_
    refine s8 ?_
    refine kp [0, 5, 6, 7, 8, 22] ?_
    refine W_cond rfl (fun hc7 => ?_) (fun hc7 => ?_)
    · replace hp := cond_t hc7 hp
      refine s8 ?_
      replace hp := idx_bind hp; obtain ⟨⟨u8_1, u8_2⟩, hy8, hp⟩ := hp
      refine L_idxA (X := v5_0) rfl rfl rfl el51.h (RdT.tree mm) hy8 ?_
      refine L_loadW rfl rfl (RdT.at (RdT.tree mm) (hy8).2) (by exact agg71.h) ?_
      replace hp := ba hp; obtain ⟨y9, hy9, hp⟩ := hp
      refine L_callR rfl fn137.h rfl (by exact fun w hw => s_l12Deps_walk w a0 (u8_1, u8_2) (RdT.now (RdT.old h0) hw) (RdT.now (RdT.pair RdT.int RdT.int) hw) _ hy9) ?_
      rintro _ _ ⟨y9x0, rfl, rfl, rfl, hby9x0⟩
      refine sc ?_
      replace hp := dd hp
      replace hp := ba hp; obtain ⟨y10, hy10, hp⟩ := hp
      refine L_callR rfl fn148.h rfl (by exact fun w hw => s_l8Join_walk w v5_0 y9x0 (RdT.now (RdT.tree mm) hw) (RdT.now (RdT.map2 hby9x0 (RdT.old h0) (RdT.pair RdT.int RdT.int)) hw) _ hy10) ?_
      rintro _ _ ⟨y10x0, rfl, rfl, rfl⟩
      refine sc ?_
      replace hp := dd hp
      refine s7 ?_
      refine WL_while (σ := (TL T_Id) × Int) GT.dat (fun ((v11_0, v11_1) : (TL T_Id) × Int) => [(7, (TL.hdr v11_0)), (8, .int .i64 v11_1)]) (fun ((v11_0, v11_1) : (TL T_Id) × Int) => [treeH v11_0]) [(0, _), (5, _), (6, _)] [treeH v5_0] (y10x0, IntKind.wrap .i64 (0 + 1)) hp sb ms ?_
      clear hp
      rintro ⟨v11_0, v11_1⟩ x11 hp hx11
      replace hp := dd hp
      refine kq [0, 5, 6, 7, 8] ?_
      refine s8 ?_
      refine kp [0, 5, 6, 7, 8, 22] ?_
      refine W_cond rfl (fun hc12 => ?_) (fun hc12 => ?_)
      · replace hp := cond_t hc12 hp
        refine s8 ?_
        replace hp := idx_bind hp; obtain ⟨⟨u13_1, u13_2⟩, hy13, hp⟩ := hp
        refine L_idxA (X := v5_0) rfl rfl rfl el51.h (RdT.tree mm) hy13 ?_
        refine L_loadW rfl rfl (RdT.at (RdT.tree mm) (hy13).2) (by exact agg71.h) ?_
        replace hp := ba hp; obtain ⟨y14, hy14, hp⟩ := hp
        refine L_callR rfl fn137.h rfl (by exact fun w hw => s_l12Deps_walk w a0 (u13_1, u13_2) (RdT.now (RdT.old h0) hw) (RdT.now (RdT.pair RdT.int RdT.int) hw) _ hy14) ?_
        rintro _ _ ⟨y14x0, rfl, rfl, rfl, hby14x0⟩
        refine sc ?_
        replace hp := dd hp
        replace hp := ba hp; obtain ⟨y15, hy15, hp⟩ := hp
        refine L_callR rfl fn148.h rfl (by exact fun w hw => s_l8Join_walk w v11_0 y14x0 (RdT.now (RdT.tree mm) hw) (RdT.now (RdT.map2 hby14x0 (RdT.old h0) (RdT.pair RdT.int RdT.int)) hw) _ hy15) ?_
        rintro _ _ ⟨y15x0, rfl, rfl, rfl⟩
        refine sc ?_
        replace hp := dd hp
        refine s7 ?_
        exact ⟨(y15x0, IntKind.wrap .i64 (v11_1 + 1)), sb, (.sub ms), some_eq hp⟩
      · replace hp := cond_f hc12 hp
        refine W_exit ?_
        replace hp := map_any hp; obtain ⟨a16, hp, hx_a16⟩ := hp
        obtain rfl := hx11 _ hx_a16
        refine s9 ?_
        refine kp [0, 5, 6, 7, 37] ?_
        refine W_cond rfl (fun hc17 => ?_) (fun hc17 => ?_)
        · replace hp := cond_t hc17 hp
          refine s5 ?_
          replace hp := map_any hp; obtain ⟨a18, hp, hx_a18⟩ := hp
          obtain rfl := hx5 _ hx_a18
          obtain rfl := Option.some.inj hp
          refine s1 ?_
          refine res1 rfl (ResOK.tmp rfl) ⟨v5_0, rfl, rfl, rfl⟩ ms
        · replace hp := cond_f hc17 hp
          refine s10 ?_
          exact ⟨(v11_0, IntKind.wrap .i64 (v5_1 + 1)), sb, (.sub ms), some_eq hp⟩
    · replace hp := cond_f hc7 hp
      refine W_exit ?_
      refine s9 ?_
      refine kp [0, 5, 6, 7, 37] ?_
      refine W_cond rfl (fun hc19 => ?_) (fun hc19 => ?_)
      · replace hp := cond_t hc19 hp
        refine s5 ?_
        replace hp := map_any hp; obtain ⟨a20, hp, hx_a20⟩ := hp
        obtain rfl := hx5 _ hx_a20
        obtain rfl := Option.some.inj hp
        refine s1 ?_
        refine res1 rfl (ResOK.tmp rfl) ⟨v5_0, rfl, rfl, rfl⟩ ms
      · replace hp := cond_f hc19 hp
        refine s10 ?_
        exact ⟨(v5_0, IntKind.wrap .i64 (v5_1 + 1)), sb, (.sub ms), some_eq hp⟩
  · replace hp := cond_f hc6 hp
    refine W_exit ?_
    replace hp := map_any hp; obtain ⟨a21, hp, hx_a21⟩ := hp
    obtain rfl := hx5 _ hx_a21
    refine s5 ?_
    obtain rfl := Option.some.inj hp
    refine s1 ?_
    refine res1 rfl (ResOK.tmp rfl) ⟨v5_0, rfl, rfl, rfl⟩ ms
noncomputable def s_l12Ready (a0 : List D_Inst) (a1 : D_Id) : Option Bool :=
  Option.bind (s_l12Find a0 (a1.1, a1.2)) (fun y1 => cond (decide (y1 < 0)) (some false) (Option.bind (s_l12Reach a0 (a1.1, a1.2)) (fun y3 => whileP (fun s4 : Int => cond (decide (s4 < (y3.length : Int))) (Option.bind (idx y3 s4) (fun y6 => Option.bind (s_l12Find a0 (y6.1, y6.2)) (fun y7 => cond (decide (y7 < 0)) (Option.map .inr (some false)) (some (.inl (IntKind.wrap .i64 (s4 + 1))))))) (Option.map .inr (some true))) 0)))
theorem s_l12Ready_walk (w : World) (a0 : TL T_Inst) (a1 : T_Id) (h0 : GT.rd w [] a0) (h1 : GT.rd w [] a1) (r : Bool) (hp : s_l12Ready (GT.dat a0) (GT.dat a1) = some r) : Spec Tryz.prog 94 [(TL.hdr a0), .agg (GT.cells a1).toArray].toArray w [] (IsV (.bool r)) := by
  obtain ⟨a1_1, a1_2⟩ := a1
  change Spec _ _ ([(TL.hdr a0), Value.agg #[.int .i64 a1_1, .int .i64 a1_2]] : List Value).toArray w [] _
  refine Spec.intro Tryz.func94 rfl Tryz.ntmps94 rfl ?_
  unfold s_l12Ready at hp
  replace hp := dd hp
  refine s2 ?_
  refine bx fun bk3 => ?_
  refine s7 ?_
  replace hp := ba hp; obtain ⟨y1, hy1, hp⟩ := hp
  refine L_callX rfl fn135.h rfl (by exact fun w hw => s_l12Find_walk w a0 (a1_1, a1_2) (RdT.now (RdT.old h0) hw) (RdT.now (RdT.pair RdT.int RdT.int) hw) _ hy1) ?_
  refine s2 ?_
  refine kp [0, 3, 10] ?_
  refine W_cond rfl (fun hc2 => ?_) (fun hc2 => ?_)
  · replace hp := cond_t hc2 hp
    refine s4 ?_
    obtain rfl := Option.some.inj hp
    refine s1 ?_
    refine res1 rfl (ResOK.tmp rfl) ⟨rfl, rfl⟩ ms
  · replace hp := cond_f hc2 hp
    refine s5 ?_
    replace hp := ba hp; obtain ⟨y3, hy3, hp⟩ := hp
    refine L_callR rfl fn136.h rfl (by exact fun w hw => s_l12Reach_walk w a0 (a1_1, a1_2) (RdT.now (RdT.old h0) hw) (RdT.now (RdT.pair RdT.int RdT.int) hw) _ hy3) ?_
    rintro _ _ ⟨y3x0, rfl, rfl, rfl⟩
    refine sc ?_
    replace hp := dd hp
    refine s8 ?_
    refine W_while (σ := Int) GT.dat (fun (v4_0 : Int) => [(6, .int .i64 v4_0)]) (fun (v4_0 : Int) => []) [(0, _), (5, _)] [treeH y3x0] 0 hp sb ms ?_
    clear hp
    rintro v4_0 x4 hp hx4
    replace hp := dd hp
    refine kq [0, 5, 6] ?_
    refine s8 ?_
    refine kp [0, 5, 6, 17] ?_
    refine W_cond rfl (fun hc5 => ?_) (fun hc5 => ?_)
    · replace hp := cond_t hc5 hp
      refine s8 ?_
      replace hp := idx_bind hp; obtain ⟨⟨u6_1, u6_2⟩, hy6, hp⟩ := hp
      refine L_idxA (X := y3x0) rfl rfl rfl el51.h (RdT.tree mm) hy6 ?_
      refine L_loadW rfl rfl (RdT.at (RdT.tree mm) (hy6).2) (by exact agg71.h) ?_
      replace hp := ba hp; obtain ⟨y7, hy7, hp⟩ := hp
      refine L_callX rfl fn135.h rfl (by exact fun w hw => s_l12Find_walk w a0 (u6_1, u6_2) (RdT.now (RdT.old h0) hw) (RdT.now (RdT.pair RdT.int RdT.int) hw) _ hy7) ?_
      refine s2 ?_
      refine kp [0, 5, 6, 26] ?_
      refine W_cond rfl (fun hc8 => ?_) (fun hc8 => ?_)
      · replace hp := cond_t hc8 hp
        refine s4 ?_
        replace hp := map_any hp; obtain ⟨a9, hp, hx_a9⟩ := hp
        obtain rfl := hx4 _ hx_a9
        obtain rfl := Option.some.inj hp
        refine s1 ?_
        refine res1 rfl (ResOK.tmp rfl) ⟨rfl, rfl⟩ ms
      · replace hp := cond_f hc8 hp
        refine s6 ?_
        exact ⟨IntKind.wrap .i64 (v4_0 + 1), sb, (.sub ms), some_eq hp⟩
    · replace hp := cond_f hc5 hp
      refine W_exit ?_
      replace hp := map_any hp; obtain ⟨a10, hp, hx_a10⟩ := hp
      obtain rfl := hx4 _ hx_a10
      refine s4 ?_
      obtain rfl := Option.some.inj hp
      refine s1 ?_
      refine res1 rfl (ResOK.tmp rfl) ⟨rfl, rfl⟩ ms
noncomputable def s_l12Part (a0 : List D_Inst) (a1 : D_Id) : Option (List D_Id) :=
  Option.bind (some ([] : List D_Id)) (fun y2 => Option.bind (s_l12Reach a0 (a1.1, a1.2)) (fun y3 => whileP (fun s4 : (List D_Id) × Int => cond (decide (s4.2 < (a0.length : Int))) (Option.bind (idx a0 s4.2) (fun y6 => gb (!(decide (y6.1.1 = a1.1) && (decide (y6.1.2 = a1.2) && true))) (s_l8Has y3 (y6.1.1, y6.1.2)) (fun y7 => gb ((!(decide (y6.1.1 = a1.1) && (decide (y6.1.2 = a1.2) && true))) && (!(!y7))) (s_l12Reach a0 (y6.1.1, y6.1.2)) (fun y8 => gb ((!(decide (y6.1.1 = a1.1) && (decide (y6.1.2 = a1.2) && true))) && (!(!y7))) (s_l8Has y8 (a1.1, a1.2)) (fun y9 => cond ((!(decide (y6.1.1 = a1.1) && (decide (y6.1.2 = a1.2) && true))) && ((!y7) || (!y9))) (some (.inl ((s4.1, IntKind.wrap .i64 (s4.2 + 1))))) (whileP (fun s11 : Int => gb (decide (0 < s11)) (idx s4.1 (IntKind.wrap .i64 (s11 - 1))) (fun y12 => gb (decide (0 < s11)) (s_l12Find a0 (y12.1, y12.2)) (fun y13 => gb (decide (0 < s11)) (idx a0 y13) (fun y14 => gb (decide (0 < s11)) (idx a0 s4.2) (fun y15 => cond ((decide (0 < s11)) && (decide (y15.2.2.2.2.2.1 < y14.2.2.2.2.2.1))) (some (.inl (IntKind.wrap .i64 (s11 - 1)))) (Option.map .inr (Option.bind (some ([] : List D_Id)) (fun y19 => Option.bind (slcP s4.1 s11 (s4.1.length : Int)) (fun y20 => Option.bind (appP y19 y20) (fun y23 => Option.bind (slcP s4.1 0 s11) (fun y24 => Option.bind (appP y24 [(y6.1.1, y6.1.2)]) (fun y28 => Option.bind (appP y28 y23) (fun y30 => some (.inl ((y30, IntKind.wrap .i64 (s4.2 + 1))))))))))))))))) (s4.1.length : Int))))))) (Option.map .inr (some s4.1))) (y2, 0)))
theorem s_l12Part_walk (w : World) (a0 : TL T_Inst) (a1 : T_Id) (h0 : GT.rd w [] a0) (h1 : GT.rd w [] a1) (r : (List D_Id)) (hp : s_l12Part (GT.dat a0) (GT.dat a1) = some r) : Spec Tryz.prog 95 [(TL.hdr a0), .agg (GT.cells a1).toArray].toArray w [] (fun v M => ∃ (x0 : TL T_Id), v = (TL.hdr x0) ∧ GT.dat x0 = r ∧ M = [treeH x0]) := by
  obtain ⟨a1_1, a1_2⟩ := a1
  change Spec _ _ ([(TL.hdr a0), Value.agg #[.int .i64 a1_1, .int .i64 a1_2]] : List Value).toArray w [] _
  refine Spec.intro Tryz.func95 rfl Tryz.ntmps95 rfl ?_
  unfold s_l12Part at hp
  replace hp := dd hp
  refine s2 ?_
  refine bx fun bk3 => ?_
  refine L_assign (v := (TL.hdr (TL.nil T_Id 0))) rfl rfl ?_
  refine s3 ?_
  replace hp := ba hp; obtain ⟨y2, hy2, hp⟩ := hp
  refine L_mk0 T_Id rfl el51.h (fun X1 hdX1 => ?_)
  obtain rfl : GT.dat X1 = y2 := hdX1.trans (Option.some.inj hy2)
  clear hy2 hdX1
  refine s6 ?_
  replace hp := ba hp; obtain ⟨y3, hy3, hp⟩ := hp
  refine L_callR rfl fn136.h rfl (by exact fun w hw => s_l12Reach_walk w a0 (a1_1, a1_2) (RdT.now (RdT.old h0) hw) (RdT.now (RdT.pair RdT.int RdT.int) hw) _ hy3) ?_
  rintro _ _ ⟨y3x0, rfl, rfl, rfl⟩
  refine sc ?_
  replace hp := dd hp
  refine s8 ?_
  refine W_while (σ := (TL T_Id) × Int) GT.dat (fun ((v4_0, v4_1) : (TL T_Id) × Int) => [(5, (TL.hdr v4_0)), (7, .int .i64 v4_1)]) (fun ((v4_0, v4_1) : (TL T_Id) × Int) => [treeH v4_0]) [(0, _), (3, _), (6, _)] [blk bk3 _ _, treeH y3x0] (X1, 0) hp sb ms ?_
  clear hp
  rintro ⟨v4_0, v4_1⟩ x4 hp hx4
  replace hp := dd hp
  refine kq [0, 3, 5, 6, 7] ?_
  refine s8 ?_
  refine kp [0, 3, 5, 6, 7, 18] ?_
  refine W_cond rfl (fun hc5 => ?_) (fun hc5 => ?_)
  · replace hp := cond_t hc5 hp
    refine s7 ?_
    replace hp := idx_bind hp; obtain ⟨⟨⟨u6_1, u6_2⟩, u6_3, u6_4, u6_5, ⟨u6_6, u6_7, u6_8, u6_9, u6_10, u6_11, u6_12, u6_13⟩, u6_14, u6_15, u6_16⟩, hy6, hp⟩ := hp
    refine L_idxA (X := a0) rfl rfl rfl el43.h (RdT.old h0) hy6 ?_
    refine s1 ?_
    refine L_loadW rfl rfl (RdC.seg (RdT.at (RdT.old h0) (hy6).2) 0 2 rfl) (by exact agg71.h) ?_
    refine al fun bk8 => ?_
    refine s4 ?_
    replace hp := gb_any hp; obtain ⟨y7, hy7, hp⟩ := hp
    replace hp := gb_any hp; obtain ⟨y8, hy8, hp⟩ := hp
    replace hp := gb_any hp; obtain ⟨y9, hy9, hp⟩ := hp
    refine W_D0 [42] mix (by kernel_rfl) rfl ?_
    refine s2 ?_
    refine D_bin GC.none (OpV.t rfl) (OpV.t rfl) (fun hg => (bv_aneq eqsh71 (EqS.consI one3.h und3.h rfl rfl (EqS.consI one3.h und3.h rfl rfl EqS.nil)))) ?_
    refine s3 ?_
    refine D_callX (GC.some rfl rfl) fn67.h (OpVs.cons (OpV.s rfl) (OpVs.cons (OpV.s rfl) (OpVs.nil))) (by exact fun hg w F hF hM => s_l8Has_walk w y3x0 (u6_1, u6_2) (RdT.nowS (RdT.tree mm) hF hM) (RdT.nowS (RdT.pair RdT.int RdT.int) hF hM) _ (hy7 hg.2)) ?_
    refine s4 ?_
    refine D_callGV (fun v M => ∃ (x0 : TL T_Id), v = (TL.hdr x0) ∧ GT.dat x0 = y8 ∧ M = [treeH x0]) (GC.some rfl rfl) fn136.h (OpVs.cons (OpV.s rfl) (OpVs.cons (OpV.s rfl) (OpVs.nil))) (by exact fun hg w F hF hM => s_l12Reach_walk w a0 (u6_1, u6_2) (RdT.nowS (RdT.old h0) hF hM) (RdT.nowS (RdT.pair RdT.int RdT.int) hF hM) _ (hy8 (gand hg.1.2 (gnot hg.2)))) ?_
    refine s1 ?_
    refine D_callGR [_, _] (GC.some rfl rfl) fn67.h ⟨⟨_, rfl, fun _ _ h => h⟩, ⟨⟨_, rfl, fun _ _ h => h⟩, trivial⟩⟩ (by rintro hg w F vs hF hM ⟨v0, u0, M0, rfl, g0, hin0, ⟨v1, u1, M1, rfl, g1, hin1, rfl⟩⟩; obtain ⟨m0, rfl, hd0, rfl⟩ := g0.1 hg; subst hd0; obtain rfl := g1.2.1 hg; exact s_l8Has_walk w m0 (a1_1, a1_2) (rd_of_tree (hin0 _ (List.mem_singleton.2 rfl)) hF.sees) (RdT.nowS (RdT.pair RdT.int RdT.int) hF hM) _ (hy9 (gand hg.1.2 (gnot hg.2)))) ?_
    refine s20 ?_
    refine s2 ?_
    refine kp [0, 3, 5, 6, 7, 8, 42] ?_
    refine W_cond rfl (fun hc10 => ?_) (fun hc10 => ?_)
    · replace hp := cond_t hc10 hp
      refine W_exit ?_
      refine s5 ?_
      exact ⟨(v4_0, IntKind.wrap .i64 (v4_1 + 1)), sb, (.sub ms), some_eq hp⟩
    · replace hp := cond_f hc10 hp
      refine s9 ?_
      refine W_while (σ := Int) GT.dat (fun (v11_0 : Int) => [(9, .int .i64 v11_0)]) (fun (v11_0 : Int) => []) [(0, _), (3, _), (5, _), (6, _), (7, _), (8, _)] [blk bk3 _ _, blk bk8 _ _, treeH v4_0, treeH y3x0] ((GT.dat v4_0).length : Int) hp sb ms ?_
      clear hp
      rintro v11_0 x11 hp hx11
      replace hp := dd hp
      refine kq [0, 3, 5, 6, 7, 8, 9] ?_
      refine s2 ?_
      replace hp := idx_gb hp; obtain ⟨⟨u12_1, u12_2⟩, hy12, hp⟩ := hp
      replace hp := gb_any hp; obtain ⟨y13, hy13, hp⟩ := hp
      replace hp := idx_gb hp; obtain ⟨⟨⟨u14_1, u14_2⟩, u14_3, u14_4, u14_5, ⟨u14_6, u14_7, u14_8, u14_9, u14_10, u14_11, u14_12, u14_13⟩, u14_14, u14_15, u14_16⟩, hy14, hp⟩ := hp
      replace hp := idx_gb hp; obtain ⟨⟨⟨u15_1, u15_2⟩, u15_3, u15_4, u15_5, ⟨u15_6, u15_7, u15_8, u15_9, u15_10, u15_11, u15_12, u15_13⟩, u15_14, u15_15, u15_16⟩, hy15, hp⟩ := hp
      refine W_D0 [65] mix (by kernel_rfl) rfl ?_
      refine s8 ?_
      refine D_idxA (X := v4_0) (GC.some rfl rfl) (OpV.s rfl) (OpV.s rfl) el51.h (RdT.tree mm) (fun hg => hy12 hg.2) ?_
      refine D_loadW (GC.some rfl rfl) (OpV.s rfl) (fun hg => RdT.at (RdT.tree mm) (hy12 hg.2).2) (by exact agg71.h) ?_
      refine D_callX (GC.some rfl rfl) fn135.h (OpVs.cons (OpV.s rfl) (OpVs.cons (OpV.s rfl) (OpVs.nil))) (by exact fun hg w F hF hM => s_l12Find_walk w a0 (u12_1, u12_2) (RdT.nowS (RdT.old h0) hF hM) (RdT.nowS (RdT.pair RdT.int RdT.int) hF hM) _ (hy13 hg.2)) ?_
      refine D_idxA (X := a0) (GC.some rfl rfl) (OpV.s rfl) (OpV.s rfl) el43.h (RdT.old h0) (fun hg => hy14 hg.2) ?_
      refine s1 ?_
      refine D_load (GC.some rfl rfl) (OpV.s rfl) (fun hg => RdT.at (RdT.old h0) (hy14 hg.2).2) one3.h rfl ?_
      refine s2 ?_
      refine D_idxA (X := a0) (GC.some rfl rfl) (OpV.s rfl) (OpV.s rfl) el43.h (RdT.old h0) (fun hg => hy15 hg.2) ?_
      refine s1 ?_
      refine D_load (GC.some rfl rfl) (OpV.s rfl) (fun hg => RdT.at (RdT.old h0) (hy15 hg.2).2) one3.h rfl ?_
      refine s20 ?_
      refine s5 ?_
      refine kp [0, 3, 5, 6, 7, 8, 9, 65] ?_
      refine W_cond rfl (fun hc16 => ?_) (fun hc16 => ?_)
      · replace hp := cond_t hc16 hp
        refine s7 ?_
        exact ⟨IntKind.wrap .i64 (v11_0 - 1), sb, (.sub ms), some_eq hp⟩
      · replace hp := cond_f hc16 hp
        refine W_exit ?_
        replace hp := map_any hp; obtain ⟨a17, hp, hx_a17⟩ := hp
        obtain rfl := hx11 _ hx_a17
        refine s2 ?_
        replace hp := ba hp; obtain ⟨y19, hy19, hp⟩ := hp
        refine L_mk0 T_Id rfl el51.h (fun X18 hdX18 => ?_)
        obtain rfl : GT.dat X18 = y19 := hdX18.trans (Option.some.inj hy19)
        clear hy19 hdX18
        refine s2 ?_
        replace hp := ba hp; obtain ⟨y20, hy20, hp⟩ := hp
        refine L_slcE (X := v4_0) rfl rfl rfl rfl el51.h rfl (RdT.tree mm) hy20 (fun X21 hdX21 heX21 => ?_)
        have hsX21 := hy20
        subst hdX21
        replace hp := ba hp; obtain ⟨y23, hy23, hp⟩ := hp
        refine L_appT (X := X18) (Y := X21) rfl rfl rfl el51.h rfl rfl pk (RdT.map (slcE_rd heX21 hsX21) (RdT.tree mm)) hy23 (by decide) (fun X22 hdX22 => ?_)
        subst hdX22
        refine s2 ?_
        refine W_fact (fun w h => cap_of pk h) (fun (hcapv4_0 : v4_0.els.length ≤ v4_0.cap) => ?_)
        refine W_AH [] mix ?_
        refine AH_take 0 rfl (PU_move rfl rfl) (by kernel_rfl) (by kernel_rfl) (by kernel_rfl) trivial ?_
        refine AH_take 1 rfl (PU_move rfl rfl) (by kernel_rfl) (by kernel_rfl) (by kernel_rfl) trivial ?_
        replace hp := ba hp; obtain ⟨y24, hy24, hp⟩ := hp
        refine AH_take 2 rfl (PU_slcF (X := v4_0) (a := (0 : Int)) (b := v11_0) rfl rfl rfl rfl el51.h rfl hcapv4_0 hy24) (by kernel_rfl) (by kernel_rfl) (by kernel_rfl) trivial ?_
        obtain ⟨X25, heX25, hdX25⟩ := slc_ex hy24
        rw [← heX25]
        have hsX25 := hy24
        subst hdX25
        refine AH_A [blk bk8 [.int .i64 u6_1, .int .i64 u6_2] 71] trivial ?_
        refine AH_take 3 rfl (PU_loadW rfl rfl (RdC.blk mm) (by exact agg71.h)) (by kernel_rfl) (by kernel_rfl) (by kernel_rfl) ⟨mm, trivial⟩ ?_
        refine AH_take 6 rfl (PU_move rfl rfl) (by kernel_rfl) (by kernel_rfl) (by kernel_rfl) ⟨mm, trivial⟩ ?_
        refine AH_one 4 rfl rfl (by kernel_rfl) ?_
        refine L_buildSlice1 rfl rfl el51.h rfl (by decide) (by decide) rfl (fun bb77 => ?_)
        refine L_nil ⟨⟨mm, trivial⟩, ?_⟩
        refine AH_one 5 rfl rfl (by kernel_rfl) ?_
        refine L_trunc (X := v4_0) (Y := X25) (u := ()) heX25 hsX25 rfl pk (fun X26 hdX26 hhX26 => ?_)
        try rw [← hdX26] at hp
        try rw [← hdX26]
        try rw [← hhX26]
        replace hp := ba hp; obtain ⟨y28, hy28, hp⟩ := hp
        refine L_app1F (X := X26) ((u6_1, u6_2) : T_Id) rfl rfl rfl el51.h rfl rfl pk mm  hy28 (by decide) (fun X27 hdX27 => ?_)
        subst hdX27
        refine L_nil ⟨⟨mm, trivial⟩, ?_⟩
        refine AH_one 7 rfl rfl (by kernel_rfl) ?_
        replace hp := ba hp; obtain ⟨y30, hy30, hp⟩ := hp
        refine L_appT (X := X27) (Y := X22) rfl rfl rfl el51.h rfl rfl pk (RdT.tree mm) hy30 (by decide) (fun X29 hdX29 => ?_)
        subst hdX29
        refine L_nil ⟨⟨mm, trivial⟩, ?_⟩
        refine AH_one 8 rfl rfl (by kernel_rfl) ?_
        refine s1 ?_
        refine L_nil ⟨⟨mm, trivial⟩, ?_⟩
        refine AH_done (by kernel_rfl) ?_
        refine s5 ?_
        exact ⟨(X29, IntKind.wrap .i64 (v4_1 + 1)), sb, (.sub ms), some_eq hp⟩
  · replace hp := cond_f hc5 hp
    refine W_exit ?_
    replace hp := map_any hp; obtain ⟨a31, hp, hx_a31⟩ := hp
    obtain rfl := hx4 _ hx_a31
    refine s5 ?_
    obtain rfl := Option.some.inj hp
    refine s1 ?_
    refine res1 rfl (ResOK.tmp rfl) ⟨v4_0, rfl, rfl, rfl⟩ ms
noncomputable def s_l12May (a0 : List D_Inst) (a1 : List D_Id) (a2 : List D_Id) : Option Bool :=
  whileP (fun s1 : Int => cond (decide (s1 < (a1.length : Int))) (Option.bind (idx a1 s1) (fun y3 => Option.bind (s_l12Deps a0 (y3.1, y3.2)) (fun y4 => whileP (fun s5 : Int => cond (decide (s5 < (y4.length : Int))) (Option.bind (idx y4 s5) (fun y7 => Option.bind (s_l8Has a1 (y7.1, y7.2)) (fun y8 => gb (!y8) (idx y4 s5) (fun y9 => gb (!y8) (s_l8Has a2 (y9.1, y9.2)) (fun y10 => cond ((!y8) && (!y10)) (Option.map .inr (Option.map .inr (some false))) (some (.inl (IntKind.wrap .i64 (s5 + 1))))))))) (Option.map .inr (some (.inl (IntKind.wrap .i64 (s1 + 1)))))) 0))) (Option.map .inr (some true))) 0
theorem s_l12May_walk (w : World) (a0 : TL T_Inst) (a1 : TL T_Id) (a2 : TL T_Id) (h0 : GT.rd w [] a0) (h1 : GT.rd w [] a1) (h2 : GT.rd w [] a2) (r : Bool) (hp : s_l12May (GT.dat a0) (GT.dat a1) (GT.dat a2) = some r) : Spec Tryz.prog 96 [(TL.hdr a0), (TL.hdr a1), (TL.hdr a2)].toArray w [] (IsV (.bool r)) := by
  refine Spec.intro Tryz.func96 rfl Tryz.ntmps96 rfl ?_
  unfold s_l12May at hp
  replace hp := dd hp
  refine s10 ?_
  refine W_while (σ := Int) GT.dat (fun (v1_0 : Int) => [(7, .int .i64 v1_0)]) (fun (v1_0 : Int) => []) [(0, _), (1, _), (2, _)] [] 0 hp sb ms ?_
  clear hp
  rintro v1_0 x1 hp hx1
  replace hp := dd hp
  refine kq [0, 1, 2, 7] ?_
  refine s8 ?_
  refine kp [0, 1, 2, 7, 13] ?_
  refine W_cond rfl (fun hc2 => ?_) (fun hc2 => ?_)
  · replace hp := cond_t hc2 hp
    refine s8 ?_
    replace hp := idx_bind hp; obtain ⟨⟨u3_1, u3_2⟩, hy3, hp⟩ := hp
    refine L_idxA (X := a1) rfl rfl rfl el51.h (RdT.old h1) hy3 ?_
    refine L_loadW rfl rfl (RdT.at (RdT.old h1) (hy3).2) (by exact agg71.h) ?_
    replace hp := ba hp; obtain ⟨y4, hy4, hp⟩ := hp
    refine L_callR rfl fn137.h rfl (by exact fun w hw => s_l12Deps_walk w a0 (u3_1, u3_2) (RdT.now (RdT.old h0) hw) (RdT.now (RdT.pair RdT.int RdT.int) hw) _ hy4) ?_
    rintro _ _ ⟨y4x0, rfl, rfl, rfl, hby4x0⟩
    refine sc ?_
    replace hp := dd hp
    refine s7 ?_
    refine W_while (σ := Int) GT.dat (fun (v5_0 : Int) => [(9, .int .i64 v5_0)]) (fun (v5_0 : Int) => []) [(0, _), (1, _), (2, _), (7, _), (8, _)] [] 0 hp sb ms ?_
    clear hp
    rintro v5_0 x5 hp hx5
    replace hp := dd hp
    refine kq [0, 1, 2, 7, 8, 9] ?_
    refine s8 ?_
    refine kp [0, 1, 2, 7, 8, 9, 25] ?_
    refine W_cond rfl (fun hc6 => ?_) (fun hc6 => ?_)
    · replace hp := cond_t hc6 hp
      refine s4 ?_
      replace hp := idx_bind hp; obtain ⟨⟨u7_1, u7_2⟩, hy7, hp⟩ := hp
      replace hp := ba hp; obtain ⟨y8, hy8, hp⟩ := hp
      replace hp := idx_gb hp; obtain ⟨⟨u9_1, u9_2⟩, hy9, hp⟩ := hp
      replace hp := gb_any hp; obtain ⟨y10, hy10, hp⟩ := hp
      refine W_D0 [43] mix (by kernel_rfl) rfl ?_
      refine s3 ?_
      refine D_idxA (X := y4x0) GC.none (OpV.t rfl) (OpV.t rfl) el51.h (RdT.map2 hby4x0 (RdT.old h0) (RdT.pair RdT.int RdT.int)) (fun _ => hy7) ?_
      refine D_loadW GC.none (OpV.t rfl) (fun hg => RdT.at (RdT.map2 hby4x0 (RdT.old h0) (RdT.pair RdT.int RdT.int)) (hy7).2) (by exact agg71.h) ?_
      refine D_callX GC.none fn67.h (OpVs.cons (OpV.t rfl) (OpVs.cons (OpV.t rfl) (OpVs.nil))) (by exact fun hg w F hF hM => s_l8Has_walk w a1 (u7_1, u7_2) (RdT.nowS (RdT.old h1) hF hM) (RdT.nowS (RdT.pair RdT.int RdT.int) hF hM) _ hy8) ?_
      refine s5 ?_
      refine D_idxA (X := y4x0) (GC.some rfl rfl) (OpV.s rfl) (OpV.s rfl) el51.h (RdT.map2 hby4x0 (RdT.old h0) (RdT.pair RdT.int RdT.int)) (fun hg => hy9 hg.2) ?_
      refine D_loadW (GC.some rfl rfl) (OpV.s rfl) (fun hg => RdT.at (RdT.map2 hby4x0 (RdT.old h0) (RdT.pair RdT.int RdT.int)) (hy9 hg.2).2) (by exact agg71.h) ?_
      refine D_callX (GC.some rfl rfl) fn67.h (OpVs.cons (OpV.s rfl) (OpVs.cons (OpV.s rfl) (OpVs.nil))) (by exact fun hg w F hF hM => s_l8Has_walk w a2 (u9_1, u9_2) (RdT.nowS (RdT.old h2) hF hM) (RdT.nowS (RdT.pair RdT.int RdT.int) hF hM) _ (hy10 hg.2)) ?_
      refine s20 ?_
      refine kp [0, 1, 2, 7, 8, 9, 43] ?_
      refine W_cond rfl (fun hc11 => ?_) (fun hc11 => ?_)
      · replace hp := cond_t hc11 hp
        refine s4 ?_
        replace hp := map_any hp; obtain ⟨a12, hp, hx_a12⟩ := hp
        obtain rfl := hx5 _ hx_a12
        replace hp := map_any hp; obtain ⟨a13, hp, hx_a13⟩ := hp
        obtain rfl := hx1 _ hx_a13
        obtain rfl := Option.some.inj hp
        refine s1 ?_
        refine res1 rfl (ResOK.tmp rfl) ⟨rfl, rfl⟩ ms
      · replace hp := cond_f hc11 hp
        refine s6 ?_
        exact ⟨IntKind.wrap .i64 (v5_0 + 1), sb, (.sub ms), some_eq hp⟩
    · replace hp := cond_f hc6 hp
      refine W_exit ?_
      replace hp := map_any hp; obtain ⟨a14, hp, hx_a14⟩ := hp
      obtain rfl := hx5 _ hx_a14
      refine s5 ?_
      exact ⟨IntKind.wrap .i64 (v1_0 + 1), sb, (.sub ms), some_eq hp⟩
  · replace hp := cond_f hc2 hp
    refine W_exit ?_
    replace hp := map_any hp; obtain ⟨a15, hp, hx_a15⟩ := hp
    obtain rfl := hx1 _ hx_a15
    refine s4 ?_
    obtain rfl := Option.some.inj hp
    refine s1 ?_
    refine res1 rfl (ResOK.tmp rfl) ⟨rfl, rfl⟩ ms
noncomputable def s_Parts (a0 : List D_Inst) : Option (List (List D_Id)) :=
  Option.bind (some ([] : List (List D_Id))) (fun y2 => Option.bind (some ([] : List D_Id)) (fun y4 => whileP (fun s5 : (List (List D_Id)) × (List D_Id) => Option.bind (s_InstsOk a0) (fun y6 => cond y6 (whileP (fun s8 : (List (List D_Id)) × (List D_Id) × Bool × Int => cond ((decide (s8.2.2.2 < (a0.length : Int))) && (!s8.2.2.1)) (Option.bind (idx a0 s8.2.2.2) (fun y10 => Option.bind (s_l8Has s8.2.1 (y10.1.1, y10.1.2)) (fun y11 => gb (!y11) (idx a0 s8.2.2.2) (fun y12 => gb (!y11) (s_l12Ready a0 (y12.1.1, y12.1.2)) (fun y13 => cond (y11 || (!y13)) (some (.inl ((s8.1, s8.2.1, s8.2.2.1, IntKind.wrap .i64 (s8.2.2.2 + 1))))) (Option.bind (idx a0 s8.2.2.2) (fun y15 => Option.bind (s_l12Part a0 (y15.1.1, y15.1.2)) (fun y16 => Option.bind (s_l12May a0 y16 s8.2.1) (fun y17 => cond y17 (Option.bind (appP s8.1 [y16]) (fun y20 => Option.bind (appP s8.2.1 y16) (fun y22 => some (.inl ((y20, y22, true, IntKind.wrap .i64 (s8.2.2.2 + 1))))))) (some (.inl ((s8.1, s8.2.1, s8.2.2.1, IntKind.wrap .i64 (s8.2.2.2 + 1)))))))))))))) (Option.map .inr (cond (!s8.2.2.1) (Option.map .inr (some s8.1)) (some (.inl ((s8.1, s8.2.1))))))) (s5.1, s5.2, false, 0)) (Option.map .inr (some s5.1)))) (y2, y4)))
theorem s_Parts_walk (w : World) (a0 : TL T_Inst) (h0 : GT.rd w [] a0) (r : (List (List D_Id))) (hp : s_Parts (GT.dat a0) = some r) : Spec Tryz.prog 48 [(TL.hdr a0)].toArray w [] (fun v M => ∃ (x0 : TL (TL T_Id)), v = (TL.hdr x0) ∧ GT.dat x0 = r ∧ M = [treeH x0]) := by
  refine Spec.intro Tryz.func48 rfl Tryz.ntmps48 rfl ?_
  unfold s_Parts at hp
  replace hp := dd hp
  refine s2 ?_
  refine L_assign (v := (TL.hdr (TL.nil (TL T_Id) 0))) rfl rfl ?_
  refine s3 ?_
  replace hp := ba hp; obtain ⟨y2, hy2, hp⟩ := hp
  refine L_mk0 (TL T_Id) rfl el85.h (fun X1 hdX1 => ?_)
  obtain rfl : GT.dat X1 = y2 := hdX1.trans (Option.some.inj hy2)
  clear hy2 hdX1
  refine s4 ?_
  replace hp := ba hp; obtain ⟨y4, hy4, hp⟩ := hp
  refine L_mk0 T_Id rfl el51.h (fun X3 hdX3 => ?_)
  obtain rfl : GT.dat X3 = y4 := hdX3.trans (Option.some.inj hy4)
  clear hy4 hdX3
  refine s4 ?_
  refine W_while (σ := (TL (TL T_Id)) × (TL T_Id)) GT.dat (fun ((v5_0, v5_1) : (TL (TL T_Id)) × (TL T_Id)) => [(3, (TL.hdr v5_0)), (4, (TL.hdr v5_1))]) (fun ((v5_0, v5_1) : (TL (TL T_Id)) × (TL T_Id)) => [treeH v5_0, treeH v5_1]) [(0, _)] [] (X1, X3) hp sb ms ?_
  clear hp
  rintro ⟨v5_0, v5_1⟩ x5 hp hx5
  replace hp := dd hp
  refine kq [0, 3, 4] ?_
  refine s4 ?_
  replace hp := ba hp; obtain ⟨y6, hy6, hp⟩ := hp
  refine L_callX rfl fn61.h rfl (by exact fun w hw => s_InstsOk_walk w a0 (RdT.now (RdT.old h0) hw) _ hy6) ?_
  refine s1 ?_
  refine kp [0, 3, 4, 11] ?_
  refine W_cond rfl (fun hc7 => ?_) (fun hc7 => ?_)
  · replace hp := cond_t hc7 hp
    refine s12 ?_
    refine W_while (σ := (TL (TL T_Id)) × (TL T_Id) × Bool × Int) GT.dat (fun ((v8_0, v8_1, v8_2, v8_3) : (TL (TL T_Id)) × (TL T_Id) × Bool × Int) => [(3, (TL.hdr v8_0)), (4, (TL.hdr v8_1)), (5, .bool v8_2), (6, .int .i64 v8_3)]) (fun ((v8_0, v8_1, v8_2, v8_3) : (TL (TL T_Id)) × (TL T_Id) × Bool × Int) => [treeH v8_0, treeH v8_1]) [(0, _)] [] (v5_0, v5_1, false, 0) hp sb ms ?_
    clear hp
    rintro ⟨v8_0, v8_1, v8_2, v8_3⟩ x8 hp hx8
    replace hp := dd hp
    refine kq [0, 3, 4, 5, 6] ?_
    refine s2 ?_
    refine W_D0 [19] mix (by kernel_rfl) rfl ?_
    refine s2 ?_
    refine D_lenP (X := a0) GC.none (OpV.t rfl) el43.h ?_
    refine s15 ?_
    refine kp [0, 3, 4, 5, 6, 19] ?_
    refine W_cond rfl (fun hc9 => ?_) (fun hc9 => ?_)
    · replace hp := cond_t hc9 hp
      refine s5 ?_
      replace hp := idx_bind hp; obtain ⟨⟨⟨u10_1, u10_2⟩, u10_3, u10_4, u10_5, ⟨u10_6, u10_7, u10_8, u10_9, u10_10, u10_11, u10_12, u10_13⟩, u10_14, u10_15, u10_16⟩, hy10, hp⟩ := hp
      replace hp := ba hp; obtain ⟨y11, hy11, hp⟩ := hp
      replace hp := idx_gb hp; obtain ⟨⟨⟨u12_1, u12_2⟩, u12_3, u12_4, u12_5, ⟨u12_6, u12_7, u12_8, u12_9, u12_10, u12_11, u12_12, u12_13⟩, u12_14, u12_15, u12_16⟩, hy12, hp⟩ := hp
      replace hp := gb_any hp; obtain ⟨y13, hy13, hp⟩ := hp
      refine W_D0 [38] mix (by kernel_rfl) rfl ?_
      refine s3 ?_
      refine D_idxA (X := a0) GC.none (OpV.t rfl) (OpV.t rfl) el43.h (RdT.old h0) (fun _ => hy10) ?_
      refine s1 ?_
      refine D_loadW GC.none (OpV.t rfl) (fun hg => RdC.seg (RdT.at (RdT.old h0) (hy10).2) 0 2 rfl) (by exact agg71.h) ?_
      refine D_callX GC.none fn67.h (OpVs.cons (OpV.t rfl) (OpVs.cons (OpV.t rfl) (OpVs.nil))) (by exact fun hg w F hF hM => s_l8Has_walk w v8_1 (u10_1, u10_2) (RdT.nowS (RdT.tree mm) hF hM) (RdT.nowS (RdT.pair RdT.int RdT.int) hF hM) _ hy11) ?_
      refine s4 ?_
      refine D_idxA (X := a0) (GC.some rfl rfl) (OpV.s rfl) (OpV.s rfl) el43.h (RdT.old h0) (fun hg => hy12 (gnot hg.2)) ?_
      refine s1 ?_
      refine D_loadW (GC.some rfl rfl) (OpV.s rfl) (fun hg => RdC.seg (RdT.at (RdT.old h0) (hy12 (gnot hg.2)).2) 0 2 rfl) (by exact agg71.h) ?_
      refine D_callX (GC.some rfl rfl) fn94.h (OpVs.cons (OpV.s rfl) (OpVs.cons (OpV.s rfl) (OpVs.nil))) (by exact fun hg w F hF hM => s_l12Ready_walk w a0 (u12_1, u12_2) (RdT.nowS (RdT.old h0) hF hM) (RdT.nowS (RdT.pair RdT.int RdT.int) hF hM) _ (hy13 (gnot hg.2))) ?_
      refine s20 ?_
      refine s1 ?_
      refine kp [0, 3, 4, 5, 6, 38] ?_
      refine W_cond rfl (fun hc14 => ?_) (fun hc14 => ?_)
      · replace hp := cond_t hc14 hp
        refine W_exit ?_
        refine s5 ?_
        exact ⟨(v8_0, v8_1, v8_2, IntKind.wrap .i64 (v8_3 + 1)), sb, (.sub ms), some_eq hp⟩
      · replace hp := cond_f hc14 hp
        refine s6 ?_
        replace hp := idx_bind hp; obtain ⟨u15, hy15, hp⟩ := hp
        obtain rfl : ((u10_1, u10_2), u10_3, u10_4, u10_5, (u10_6, u10_7, u10_8, u10_9, u10_10, u10_11, u10_12, u10_13), u10_14, u10_15, u10_16) = u15 := Option.some.inj (hy10.2.symm.trans hy15.2)
        refine L_idxA (X := a0) rfl rfl rfl el43.h (RdT.old h0) hy10 ?_
        refine s1 ?_
        refine L_loadW rfl rfl (RdC.seg (RdT.at (RdT.old h0) (hy10).2) 0 2 rfl) (by exact agg71.h) ?_
        replace hp := ba hp; obtain ⟨y16, hy16, hp⟩ := hp
        refine L_callR rfl fn95.h rfl (by exact fun w hw => s_l12Part_walk w a0 (u10_1, u10_2) (RdT.now (RdT.old h0) hw) (RdT.now (RdT.pair RdT.int RdT.int) hw) _ hy16) ?_
        rintro _ _ ⟨y16x0, rfl, rfl, rfl⟩
        refine sc ?_
        replace hp := dd hp
        refine s7 ?_
        replace hp := ba hp; obtain ⟨y17, hy17, hp⟩ := hp
        refine L_callX rfl fn96.h rfl (by exact fun w hw => s_l12May_walk w a0 y16x0 v8_1 (RdT.now (RdT.old h0) hw) (RdT.now (RdT.tree mm) hw) (RdT.now (RdT.tree mm) hw) _ hy17) ?_
        refine s1 ?_
        refine kp [0, 3, 4, 5, 6, 7, 49] ?_
        refine W_cond rfl (fun hc18 => ?_) (fun hc18 => ?_)
        · replace hp := cond_t hc18 hp
          refine s4 ?_
          refine L_buildSlice1 rfl rfl el85.h rfl (by decide) (by decide) rfl (fun bb52 => ?_)
          replace hp := ba hp; obtain ⟨y20, hy20, hp⟩ := hp
          refine L_app1m (X := v8_0) (y16x0 : (TL T_Id)) rfl rfl rfl el85.h rfl rfl pk mm pk hy20 (by decide) (fun X19 hdX19 hmX19 => ?_)
          subst hdX19
          refine s6 ?_
          replace hp := ba hp; obtain ⟨y22, hy22, hp⟩ := hp
          refine L_appT (X := v8_1) (Y := y16x0) rfl rfl rfl el51.h rfl rfl pk (RdT.el (RdT.tree mm) hmX19) hy22 (by decide) (fun X21 hdX21 => ?_)
          subst hdX21
          refine s10 ?_
          exact ⟨(X19, X21, true, IntKind.wrap .i64 (v8_3 + 1)), sb, (.sub ms), some_eq hp⟩
        · replace hp := cond_f hc18 hp
          refine s6 ?_
          exact ⟨(v8_0, v8_1, v8_2, IntKind.wrap .i64 (v8_3 + 1)), sb, (.sub ms), some_eq hp⟩
    · replace hp := cond_f hc9 hp
      refine W_exit ?_
      replace hp := map_any hp; obtain ⟨a23, hp, hx_a23⟩ := hp
      obtain rfl := hx8 _ hx_a23
      refine s5 ?_
      refine kp [0, 3, 4, 58] ?_
      refine W_cond rfl (fun hc24 => ?_) (fun hc24 => ?_)
      · replace hp := cond_t hc24 hp
        refine s5 ?_
        replace hp := map_any hp; obtain ⟨a25, hp, hx_a25⟩ := hp
        obtain rfl := hx5 _ hx_a25
        obtain rfl := Option.some.inj hp
        refine s1 ?_
        refine res1 rfl (ResOK.tmp rfl) ⟨v8_0, rfl, rfl, rfl⟩ ms
      · replace hp := cond_f hc24 hp
        refine s1 ?_
        exact ⟨(v8_0, v8_1), sb, (.sub ms), some_eq hp⟩
  · replace hp := cond_f hc7 hp
    refine W_exit ?_
    replace hp := map_any hp; obtain ⟨a26, hp, hx_a26⟩ := hp
    obtain rfl := hx5 _ hx_a26
    refine s5 ?_
    obtain rfl := Option.some.inj hp
    refine s1 ?_
    refine res1 rfl (ResOK.tmp rfl) ⟨v5_0, rfl, rfl, rfl⟩ ms
noncomputable def s_ExecOrder (a0 : List D_Inst) : Option (List D_Id) :=
  Option.bind (some ([] : List D_Id)) (fun y2 => Option.bind (s_Parts a0) (fun y3 => whileP (fun s4 : (List D_Id) × Int => cond (decide (s4.2 < (y3.length : Int))) (Option.bind (idx y3 s4.2) (fun y6 => Option.bind (appP s4.1 y6) (fun y8 => some (.inl ((y8, IntKind.wrap .i64 (s4.2 + 1))))))) (Option.map .inr (some s4.1))) (y2, 0)))
theorem s_ExecOrder_walk (w : World) (a0 : TL T_Inst) (h0 : GT.rd w [] a0) (r : (List D_Id)) (hp : s_ExecOrder (GT.dat a0) = some r) : Spec Tryz.prog 26 [(TL.hdr a0)].toArray w [] (fun v M => ∃ (x0 : TL T_Id), v = (TL.hdr x0) ∧ GT.dat x0 = r ∧ M = [treeH x0]) := by
  refine Spec.intro Tryz.func26 rfl Tryz.ntmps26 rfl ?_
  unfold s_ExecOrder at hp
  replace hp := dd hp
  refine s2 ?_
  refine L_assign (v := (TL.hdr (TL.nil T_Id 0))) rfl rfl ?_
  refine s3 ?_
  replace hp := ba hp; obtain ⟨y2, hy2, hp⟩ := hp
  refine L_mk0 T_Id rfl el51.h (fun X1 hdX1 => ?_)
  obtain rfl : GT.dat X1 = y2 := hdX1.trans (Option.some.inj hy2)
  clear hy2 hdX1
  refine s5 ?_
  replace hp := ba hp; obtain ⟨y3, hy3, hp⟩ := hp
  refine L_callR rfl fn48.h rfl (by exact fun w hw => s_Parts_walk w a0 (RdT.now (RdT.old h0) hw) _ hy3) ?_
  rintro _ _ ⟨y3x0, rfl, rfl, rfl⟩
  refine sc ?_
  replace hp := dd hp
  refine s8 ?_
  refine W_while (σ := (TL T_Id) × Int) GT.dat (fun ((v4_0, v4_1) : (TL T_Id) × Int) => [(3, (TL.hdr v4_0)), (5, .int .i64 v4_1)]) (fun ((v4_0, v4_1) : (TL T_Id) × Int) => [treeH v4_0]) [(4, _)] [treeH y3x0] (X1, 0) hp sb ms ?_
  clear hp
  rintro ⟨v4_0, v4_1⟩ x4 hp hx4
  replace hp := dd hp
  refine kq [3, 4, 5] ?_
  refine s8 ?_
  refine kp [3, 4, 5, 12] ?_
  refine W_cond rfl (fun hc5 => ?_) (fun hc5 => ?_)
  · replace hp := cond_t hc5 hp
    refine s7 ?_
    replace hp := idx_bind hp; obtain ⟨u6, hy6, hp⟩ := hp
    refine L_idxA (X := y3x0) rfl rfl rfl el85.h (RdT.tree mm) hy6 ?_
    refine L_load0 rfl rfl (RdT.at (RdT.tree mm) (hy6).2) one51.h rfl ?_
    replace hp := ba hp; obtain ⟨y8, hy8, hp⟩ := hp
    refine L_appT (X := v4_0) (Y := u6) rfl rfl rfl el51.h rfl rfl pk (RdT.of (RdT.tree mm) (hy6).2) hy8 (by decide) (fun X7 hdX7 => ?_)
    subst hdX7
    refine s7 ?_
    exact ⟨(X7, IntKind.wrap .i64 (v4_1 + 1)), sb, (.sub ms), some_eq hp⟩
  · replace hp := cond_f hc5 hp
    refine W_exit ?_
    replace hp := map_any hp; obtain ⟨a9, hp, hx_a9⟩ := hp
    obtain rfl := hx4 _ hx_a9
    refine s5 ?_
    obtain rfl := Option.some.inj hp
    refine s1 ?_
    refine res1 rfl (ResOK.tmp rfl) ⟨v4_0, rfl, rfl, rfl⟩ ms
noncomputable def s_l13At (a0 : List D_Id) (a1 : D_Id) : Option Int :=
  whileP (fun s1 : Int => cond (decide (s1 < (a0.length : Int))) (Option.bind (idx a0 s1) (fun y3 => cond (decide (y3.1 = a1.1) && (decide (y3.2 = a1.2) && true)) (Option.map .inr (some s1)) (some (.inl (IntKind.wrap .i64 (s1 + 1)))))) (Option.map .inr (some (-1)))) 0
theorem s_l13At_walk (w : World) (a0 : TL T_Id) (a1 : T_Id) (h0 : GT.rd w [] a0) (h1 : GT.rd w [] a1) (r : Int) (hp : s_l13At (GT.dat a0) (GT.dat a1) = some r) : Spec Tryz.prog 35 [(TL.hdr a0), .agg (GT.cells a1).toArray].toArray w [] (IsV (.int .i64 r)) := by
  obtain ⟨a1_1, a1_2⟩ := a1
  change Spec _ _ ([(TL.hdr a0), Value.agg #[.int .i64 a1_1, .int .i64 a1_2]] : List Value).toArray w [] _
  refine Spec.intro Tryz.func35 rfl Tryz.ntmps35 rfl ?_
  unfold s_l13At at hp
  replace hp := dd hp
  refine s2 ?_
  refine bx fun bk3 => ?_
  refine s8 ?_
  refine W_while (σ := Int) GT.dat (fun (v1_0 : Int) => [(5, .int .i64 v1_0)]) (fun (v1_0 : Int) => []) [(0, _), (3, _)] [blk bk3 _ _] 0 hp sb ms ?_
  clear hp
  rintro v1_0 x1 hp hx1
  replace hp := dd hp
  refine kq [0, 3, 5] ?_
  refine s8 ?_
  refine kp [0, 3, 5, 9] ?_
  refine W_cond rfl (fun hc2 => ?_) (fun hc2 => ?_)
  · replace hp := cond_t hc2 hp
    refine s4 ?_
    replace hp := idx_bind hp; obtain ⟨⟨u3_1, u3_2⟩, hy3, hp⟩ := hp
    refine W_D0 [17] mix (by kernel_rfl) rfl ?_
    refine s2 ?_
    refine D_idxA (X := a0) GC.none (OpV.t rfl) (OpV.t rfl) el51.h (RdT.old h0) (fun _ => hy3) ?_
    refine D_loadW GC.none (OpV.t rfl) (fun hg => RdT.at (RdT.old h0) (hy3).2) (by exact agg71.h) ?_
    refine s1 ?_
    refine D_bin GC.none (OpV.t rfl) (OpV.t rfl) (fun hg => (bv_aeql eqsh71 (EqS.consI one3.h und3.h rfl rfl (EqS.consI one3.h und3.h rfl rfl EqS.nil)))) ?_
    refine s8 ?_
    refine kp [0, 3, 5, 17] ?_
    refine W_cond rfl (fun hc4 => ?_) (fun hc4 => ?_)
    · replace hp := cond_t hc4 hp
      refine s5 ?_
      replace hp := map_any hp; obtain ⟨a5, hp, hx_a5⟩ := hp
      obtain rfl := hx1 _ hx_a5
      obtain rfl := Option.some.inj hp
      refine s1 ?_
      refine res1 rfl (ResOK.tmp rfl) ⟨rfl, rfl⟩ ms
    · replace hp := cond_f hc4 hp
      refine s6 ?_
      exact ⟨IntKind.wrap .i64 (v1_0 + 1), sb, (.sub ms), some_eq hp⟩
  · replace hp := cond_f hc2 hp
    refine W_exit ?_
    replace hp := map_any hp; obtain ⟨a6, hp, hx_a6⟩ := hp
    obtain rfl := hx1 _ hx_a6
    refine s4 ?_
    obtain rfl := Option.some.inj hp
    refine s1 ?_
    refine res1 rfl (ResOK.tmp rfl) ⟨rfl, rfl⟩ ms
noncomputable def s_Clash (a0 : D_Cmd) (a1 : D_Cmd) : Option Bool :=
  Option.bind (s_CmdOk (a0.1, a0.2.1, a0.2.2.1, a0.2.2.2.1, a0.2.2.2.2.1, a0.2.2.2.2.2.1, a0.2.2.2.2.2.2.1, a0.2.2.2.2.2.2.2)) (fun y1 => gb (!(!y1)) (s_CmdOk (a1.1, a1.2.1, a1.2.2.1, a1.2.2.2.1, a1.2.2.2.2.1, a1.2.2.2.2.2.1, a1.2.2.2.2.2.2.1, a1.2.2.2.2.2.2.2)) (fun y2 => cond ((((!y1) || (!y2)) || (decide (a0.1 = 0))) || (decide (a1.1 = 0))) (some false) (some (((decide (a0.1 = 7)) || (decide (a1.1 = 7))) || (decide (a0.2.2.2.1 = a1.2.2.2.1))))))
theorem s_Clash_walk (w : World) (a0 : T_Cmd) (a1 : T_Cmd) (h0 : GT.rd w [] a0) (h1 : GT.rd w [] a1) (r : Bool) (hp : s_Clash (GT.dat a0) (GT.dat a1) = some r) : Spec Tryz.prog 36 [.agg (GT.cells a0).toArray, .agg (GT.cells a1).toArray].toArray w [] (IsV (.bool r)) := by
  obtain ⟨a0_1, a0_2, a0_3, a0_4, a0_5, a0_6, a0_7, a0_8⟩ := a0
  obtain ⟨a1_1, a1_2, a1_3, a1_4, a1_5, a1_6, a1_7, a1_8⟩ := a1
  change Spec _ _ ([Value.agg #[.int .i64 a0_1, .int .i64 a0_2, .int .i64 a0_3, .string a0_4, .string a0_5, .string a0_6, .int .i64 a0_7, (TL.hdr a0_8)], Value.agg #[.int .i64 a1_1, .int .i64 a1_2, .int .i64 a1_3, .string a1_4, .string a1_5, .string a1_6, .int .i64 a1_7, (TL.hdr a1_8)]] : List Value).toArray w [] _
  refine Spec.intro Tryz.func36 rfl Tryz.ntmps36 rfl ?_
  unfold s_Clash at hp
  replace hp := dd hp
  refine s2 ?_
  refine bx fun bk2 => ?_
  refine bx fun bk3 => ?_
  refine s4 ?_
  replace hp := ba hp; obtain ⟨y1, hy1, hp⟩ := hp
  replace hp := gb_any hp; obtain ⟨y2, hy2, hp⟩ := hp
  refine W_D0 [22] mix (by kernel_rfl) rfl ?_
  refine s1 ?_
  refine D_callX GC.none fn65.h (OpVs.cons (OpV.t rfl) (OpVs.nil)) (by exact fun hg w F hF hM => s_CmdOk_walk w (a0_1, a0_2, a0_3, a0_4, a0_5, a0_6, a0_7, a0_8) (RdT.nowS (RdT.pair RdT.int (RdT.pair RdT.int (RdT.pair RdT.int (RdT.pair RdT.str (RdT.pair RdT.str (RdT.pair RdT.str (RdT.pair RdT.int (RdT.old h0.2.2.2.2.2.2.2)))))))) hF hM) _ hy1) ?_
  refine s3 ?_
  refine D_callX (GC.some rfl rfl) fn65.h (OpVs.cons (OpV.s rfl) (OpVs.nil)) (by exact fun hg w F hF hM => s_CmdOk_walk w (a1_1, a1_2, a1_3, a1_4, a1_5, a1_6, a1_7, a1_8) (RdT.nowS (RdT.pair RdT.int (RdT.pair RdT.int (RdT.pair RdT.int (RdT.pair RdT.str (RdT.pair RdT.str (RdT.pair RdT.str (RdT.pair RdT.int (RdT.old h1.2.2.2.2.2.2.2)))))))) hF hM) _ (hy2 (gnot hg.2))) ?_
  refine s20 ?_
  refine s12 ?_
  refine kp [2, 3, 22] ?_
  refine W_cond rfl (fun hc3 => ?_) (fun hc3 => ?_)
  · replace hp := cond_t hc3 hp
    refine s4 ?_
    obtain rfl := Option.some.inj hp
    refine s1 ?_
    refine res1 rfl (ResOK.tmp rfl) ⟨rfl, rfl⟩ ms
  · replace hp := cond_f hc3 hp
    refine s2 ?_
    refine W_D0 [4] mix (by kernel_rfl) rfl ?_
    refine s20 ?_
    refine s14 ?_
    obtain rfl := Option.some.inj hp
    refine s1 ?_
    refine res1 rfl (ResOK.tmp rfl) ⟨rfl, rfl⟩ ms
noncomputable def s_l14Same (a0 : List D_Inst) (a1 : List D_Inst) : Option Bool :=
  Option.bind (s_ExecOrder a0) (fun y1 => Option.bind (s_ExecOrder a1) (fun y2 => whileP (fun s3 : Int => cond (decide (s3 < (y1.length : Int))) (whileP (fun s5 : Int => cond (decide (s5 < (y1.length : Int))) (Option.bind (idx y1 s3) (fun y7 => Option.bind (s_l13At y2 (y7.1, y7.2)) (fun y8 => Option.bind (idx y1 s5) (fun y9 => Option.bind (s_l13At y2 (y9.1, y9.2)) (fun y10 => gb (((decide (0 ≤ y8)) && (decide (0 ≤ y10))) && (decide (y10 < y8))) (idx y1 s3) (fun y11 => gb (((decide (0 ≤ y8)) && (decide (0 ≤ y10))) && (decide (y10 < y8))) (s_InstAt a0 (y11.1, y11.2)) (fun y12 => gb (((decide (0 ≤ y8)) && (decide (0 ≤ y10))) && (decide (y10 < y8))) (idx y1 s5) (fun y13 => gb (((decide (0 ≤ y8)) && (decide (0 ≤ y10))) && (decide (y10 < y8))) (s_InstAt a0 (y13.1, y13.2)) (fun y14 => gb (((decide (0 ≤ y8)) && (decide (0 ≤ y10))) && (decide (y10 < y8))) (s_Clash y12.2.2.2.2.1 y14.2.2.2.2.1) (fun y15 => cond ((((decide (0 ≤ y8)) && (decide (0 ≤ y10))) && (decide (y10 < y8))) && y15) (Option.map .inr (Option.map .inr (some false))) (some (.inl (IntKind.wrap .i64 (s5 + 1)))))))))))))) (Option.map .inr (some (.inl (IntKind.wrap .i64 (s3 + 1)))))) (IntKind.wrap .i64 (s3 + 1))) (Option.map .inr (some true))) 0))
theorem s_l14Same_walk (w : World) (a0 : TL T_Inst) (a1 : TL T_Inst) (h0 : GT.rd w [] a0) (h1 : GT.rd w [] a1) (r : Bool) (hp : s_l14Same (GT.dat a0) (GT.dat a1) = some r) : Spec Tryz.prog 19 [(TL.hdr a0), (TL.hdr a1)].toArray w [] (IsV (.bool r)) := by
  refine Spec.intro Tryz.func19 rfl Tryz.ntmps19 rfl ?_
  unfold s_l14Same at hp
  replace hp := dd hp
  refine s7 ?_
  replace hp := ba hp; obtain ⟨y1, hy1, hp⟩ := hp
  refine L_callR rfl fn26.h rfl (by exact fun w hw => s_ExecOrder_walk w a0 (RdT.now (RdT.old h0) hw) _ hy1) ?_
  rintro _ _ ⟨y1x0, rfl, rfl, rfl⟩
  refine sc ?_
  replace hp := dd hp
  refine s5 ?_
  replace hp := ba hp; obtain ⟨y2, hy2, hp⟩ := hp
  refine L_callR rfl fn26.h rfl (by exact fun w hw => s_ExecOrder_walk w a1 (RdT.now (RdT.old h1) hw) _ hy2) ?_
  rintro _ _ ⟨y2x0, rfl, rfl, rfl⟩
  refine sc ?_
  replace hp := dd hp
  refine s8 ?_
  refine W_while (σ := Int) GT.dat (fun (v3_0 : Int) => [(7, .int .i64 v3_0)]) (fun (v3_0 : Int) => []) [(0, _), (5, _), (6, _)] [treeH y1x0, treeH y2x0] 0 hp sb ms ?_
  clear hp
  rintro v3_0 x3 hp hx3
  replace hp := dd hp
  refine kq [0, 5, 6, 7] ?_
  refine s8 ?_
  refine kp [0, 5, 6, 7, 18] ?_
  refine W_cond rfl (fun hc4 => ?_) (fun hc4 => ?_)
  · replace hp := cond_t hc4 hp
    refine s10 ?_
    refine W_while (σ := Int) GT.dat (fun (v5_0 : Int) => [(8, .int .i64 v5_0)]) (fun (v5_0 : Int) => []) [(0, _), (5, _), (6, _), (7, _)] [treeH y1x0, treeH y2x0] (IntKind.wrap .i64 (v3_0 + 1)) hp sb ms ?_
    clear hp
    rintro v5_0 x5 hp hx5
    replace hp := dd hp
    refine kq [0, 5, 6, 7, 8] ?_
    refine s8 ?_
    refine kp [0, 5, 6, 7, 8, 26] ?_
    refine W_cond rfl (fun hc6 => ?_) (fun hc6 => ?_)
    · replace hp := cond_t hc6 hp
      refine s8 ?_
      replace hp := idx_bind hp; obtain ⟨⟨u7_1, u7_2⟩, hy7, hp⟩ := hp
      refine L_idxA (X := y1x0) rfl rfl rfl el51.h (RdT.tree mm) hy7 ?_
      refine L_loadW rfl rfl (RdT.at (RdT.tree mm) (hy7).2) (by exact agg71.h) ?_
      replace hp := ba hp; obtain ⟨y8, hy8, hp⟩ := hp
      refine L_callX rfl fn35.h rfl (by exact fun w hw => s_l13At_walk w y2x0 (u7_1, u7_2) (RdT.now (RdT.tree mm) hw) (RdT.now (RdT.pair RdT.int RdT.int) hw) _ hy8) ?_
      refine s7 ?_
      replace hp := idx_bind hp; obtain ⟨⟨u9_1, u9_2⟩, hy9, hp⟩ := hp
      refine L_idxA (X := y1x0) rfl rfl rfl el51.h (RdT.tree mm) hy9 ?_
      refine L_loadW rfl rfl (RdT.at (RdT.tree mm) (hy9).2) (by exact agg71.h) ?_
      replace hp := ba hp; obtain ⟨y10, hy10, hp⟩ := hp
      refine L_callX rfl fn35.h rfl (by exact fun w hw => s_l13At_walk w y2x0 (u9_1, u9_2) (RdT.now (RdT.tree mm) hw) (RdT.now (RdT.pair RdT.int RdT.int) hw) _ hy10) ?_
      refine s3 ?_
      replace hp := idx_gb hp; obtain ⟨⟨u11_1, u11_2⟩, hy11, hp⟩ := hp
      replace hp := gb_any hp; obtain ⟨y12, hy12, hp⟩ := hp
      replace hp := idx_gb hp; obtain ⟨⟨u13_1, u13_2⟩, hy13, hp⟩ := hp
      replace hp := gb_any hp; obtain ⟨y14, hy14, hp⟩ := hp
      replace hp := gb_any hp; obtain ⟨y15, hy15, hp⟩ := hp
      refine W_D0 [68] mix (by kernel_rfl) rfl ?_
      refine s15 ?_
      refine D_idxA (X := y1x0) (GC.some rfl rfl) (OpV.s rfl) (OpV.s rfl) el51.h (RdT.tree mm) (fun hg => hy11 hg.2) ?_
      refine D_loadW (GC.some rfl rfl) (OpV.s rfl) (fun hg => RdT.at (RdT.tree mm) (hy11 hg.2).2) (by exact agg71.h) ?_
      refine D_callGV (fun v M => ∃ (x0 : T_Inst), v = .agg (GT.cells x0).toArray ∧ GT.dat x0 = y12 ∧ M = [treeH x0]) (GC.some rfl rfl) fn37.h (OpVs.cons (OpV.s rfl) (OpVs.cons (OpV.s rfl) (OpVs.nil))) (by exact fun hg w F hF hM => s_InstAt_walk w a0 (u11_1, u11_2) (RdT.nowS (RdT.old h0) hF hM) (RdT.nowS (RdT.pair RdT.int RdT.int) hF hM) _ (hy12 hg.2)) ?_
      refine D_fieldGC (t := 58) (fun v M => ∃ x0 : T_Inst, v = .agg (GT.cells x0.2.2.2.2.1).toArray ∧ GT.dat x0 = y12 ∧ M = [treeH x0]) rfl (GC.some rfl rfl) (show fldA _ 79 4 = some (5, 8) by kernel_rfl) (by rintro v M ⟨x, rfl, hd, rfl⟩; obtain ⟨⟨x_1, x_2⟩, x_3, x_4, x_5, ⟨x_6, x_7, x_8, x_9, x_10, x_11, x_12, x_13⟩, x_14, x_15, x_16⟩ := x; exact ⟨_, rfl, _, rfl, hd, rfl⟩) (by kernel_rfl) ?_
      refine s3 ?_
      refine D_idxA (X := y1x0) (GC.some rfl rfl) (OpV.s rfl) (OpV.s rfl) el51.h (RdT.tree mm) (fun hg => hy13 hg.2) ?_
      refine D_loadW (GC.some rfl rfl) (OpV.s rfl) (fun hg => RdT.at (RdT.tree mm) (hy13 hg.2).2) (by exact agg71.h) ?_
      refine D_callGV (fun v M => ∃ (x0 : T_Inst), v = .agg (GT.cells x0).toArray ∧ GT.dat x0 = y14 ∧ M = [treeH x0]) (GC.some rfl rfl) fn37.h (OpVs.cons (OpV.s rfl) (OpVs.cons (OpV.s rfl) (OpVs.nil))) (by exact fun hg w F hF hM => s_InstAt_walk w a0 (u13_1, u13_2) (RdT.nowS (RdT.old h0) hF hM) (RdT.nowS (RdT.pair RdT.int RdT.int) hF hM) _ (hy14 hg.2)) ?_
      refine D_fieldGC (t := 65) (fun v M => ∃ x0 : T_Inst, v = .agg (GT.cells x0.2.2.2.2.1).toArray ∧ GT.dat x0 = y14 ∧ M = [treeH x0]) rfl (GC.some rfl rfl) (show fldA _ 79 4 = some (5, 8) by kernel_rfl) (by rintro v M ⟨x, rfl, hd, rfl⟩; obtain ⟨⟨x_1, x_2⟩, x_3, x_4, x_5, ⟨x_6, x_7, x_8, x_9, x_10, x_11, x_12, x_13⟩, x_14, x_15, x_16⟩ := x; exact ⟨_, rfl, _, rfl, hd, rfl⟩) (by kernel_rfl) ?_
      refine D_callGR [_, _] (GC.some rfl rfl) fn36.h ⟨⟨_, rfl, fun _ _ h => h⟩, ⟨⟨_, rfl, fun _ _ h => h⟩, trivial⟩⟩ (by rintro hg w F vs hF hM ⟨v0, u0, M0, rfl, g0, hin0, ⟨v1, u1, M1, rfl, g1, hin1, rfl⟩⟩; obtain ⟨m0, rfl, hd0, rfl⟩ := g0.1 hg; subst hd0; obtain ⟨m1, rfl, hd1, rfl⟩ := g1.1 hg; subst hd1; exact s_Clash_walk w m0.2.2.2.2.1 m1.2.2.2.2.1 (rd_of_tree (hin0 _ (List.mem_singleton.2 rfl)) hF.sees).2.2.2.2.1 (rd_of_tree (hin1 _ (List.mem_singleton.2 rfl)) hF.sees).2.2.2.2.1 _ (hy15 hg.2)) ?_
      refine s20 ?_
      refine s11 ?_
      refine kp [0, 5, 6, 7, 8, 68] ?_
      refine W_cond rfl (fun hc16 => ?_) (fun hc16 => ?_)
      · replace hp := cond_t hc16 hp
        refine s4 ?_
        replace hp := map_any hp; obtain ⟨a17, hp, hx_a17⟩ := hp
        obtain rfl := hx5 _ hx_a17
        replace hp := map_any hp; obtain ⟨a18, hp, hx_a18⟩ := hp
        obtain rfl := hx3 _ hx_a18
        obtain rfl := Option.some.inj hp
        refine s1 ?_
        refine res1 rfl (ResOK.tmp rfl) ⟨rfl, rfl⟩ ms
      · replace hp := cond_f hc16 hp
        refine s6 ?_
        exact ⟨IntKind.wrap .i64 (v5_0 + 1), sb, (.sub ms), some_eq hp⟩
    · replace hp := cond_f hc6 hp
      refine W_exit ?_
      replace hp := map_any hp; obtain ⟨a19, hp, hx_a19⟩ := hp
      obtain rfl := hx5 _ hx_a19
      refine s5 ?_
      exact ⟨IntKind.wrap .i64 (v3_0 + 1), sb, (.sub ms), some_eq hp⟩
  · replace hp := cond_f hc4 hp
    refine W_exit ?_
    replace hp := map_any hp; obtain ⟨a20, hp, hx_a20⟩ := hp
    obtain rfl := hx3 _ hx_a20
    refine s4 ?_
    obtain rfl := Option.some.inj hp
    refine s1 ?_
    refine res1 rfl (ResOK.tmp rfl) ⟨rfl, rfl⟩ ms
noncomputable def s_EOrdered (a0 : D_ENet) : Option Bool :=
  Option.bind (s_ENetOk (a0.1, a0.2)) (fun y1 => cond (!y1) (some false) (whileP (fun s3 : Int => cond (decide (s3 < 3)) (whileP (fun s5 : Int => cond (decide (s5 < s3)) (Option.bind (idx a0.1 s3) (fun y7 => Option.bind (idx a0.1 s5) (fun y8 => Option.bind (s_l14Same y7.2.2.1 y8.2.2.1) (fun y9 => gb (!(!y9)) (idx a0.1 s5) (fun y10 => gb (!(!y9)) (idx a0.1 s3) (fun y11 => gb (!(!y9)) (s_l14Same y10.2.2.1 y11.2.2.1) (fun y12 => cond ((!y9) || (!y12)) (Option.map .inr (Option.map .inr (some false))) (some (.inl (IntKind.wrap .i64 (s5 + 1))))))))))) (Option.map .inr (some (.inl (IntKind.wrap .i64 (s3 + 1)))))) 0) (Option.map .inr (some true))) 0))
theorem s_EOrdered_walk (w : World) (a0 : T_ENet) (h0 : GT.rd w [] a0) (r : Bool) (hp : s_EOrdered (GT.dat a0) = some r) : Spec Tryz.prog 6 [.agg (GT.cells a0).toArray].toArray w [] (IsV (.bool r)) := by
  obtain ⟨a0_1, a0_2⟩ := a0
  change Spec _ _ ([Value.agg #[(TL.hdr a0_1), (TL.hdr a0_2)]] : List Value).toArray w [] _
  refine Spec.intro Tryz.func6 rfl Tryz.ntmps6 rfl ?_
  unfold s_EOrdered at hp
  replace hp := dd hp
  refine s2 ?_
  refine bx fun bk1 => ?_
  refine s6 ?_
  replace hp := ba hp; obtain ⟨y1, hy1, hp⟩ := hp
  refine L_callX rfl fn18.h rfl (by exact fun w hw => s_ENetOk_walk w (a0_1, a0_2) (RdT.now (RdT.pair (RdT.old h0.1) (RdT.old h0.2)) hw) _ hy1) ?_
  refine s2 ?_
  refine kp [1, 7] ?_
  refine W_cond rfl (fun hc2 => ?_) (fun hc2 => ?_)
  · replace hp := cond_t hc2 hp
    refine s4 ?_
    obtain rfl := Option.some.inj hp
    refine s1 ?_
    refine res1 rfl (ResOK.tmp rfl) ⟨rfl, rfl⟩ ms
  · replace hp := cond_f hc2 hp
    refine s7 ?_
    refine W_while (σ := Int) GT.dat (fun (v3_0 : Int) => [(3, .int .i64 v3_0)]) (fun (v3_0 : Int) => []) [(1, _)] [blk bk1 _ _] 0 hp sb ms ?_
    clear hp
    rintro v3_0 x3 hp hx3
    replace hp := dd hp
    refine kq [1, 3] ?_
    refine s6 ?_
    refine kp [1, 3, 9] ?_
    refine W_cond rfl (fun hc4 => ?_) (fun hc4 => ?_)
    · replace hp := cond_t hc4 hp
      refine s8 ?_
      refine W_while (σ := Int) GT.dat (fun (v5_0 : Int) => [(4, .int .i64 v5_0)]) (fun (v5_0 : Int) => []) [(1, _), (3, _)] [blk bk1 _ _] 0 hp sb ms ?_
      clear hp
      rintro v5_0 x5 hp hx5
      replace hp := dd hp
      refine kq [1, 3, 4] ?_
      refine s7 ?_
      refine kp [1, 3, 4, 14] ?_
      refine W_cond rfl (fun hc6 => ?_) (fun hc6 => ?_)
      · replace hp := cond_t hc6 hp
        refine s4 ?_
        replace hp := idx_bind hp; obtain ⟨⟨u7_1, u7_2, u7_3, u7_4⟩, hy7, hp⟩ := hp
        replace hp := idx_bind hp; obtain ⟨⟨u8_1, u8_2, u8_3, u8_4⟩, hy8, hp⟩ := hp
        replace hp := ba hp; obtain ⟨y9, hy9, hp⟩ := hp
        replace hp := idx_gb hp; obtain ⟨⟨u10_1, u10_2, u10_3, u10_4⟩, hy10, hp⟩ := hp
        replace hp := idx_gb hp; obtain ⟨⟨u11_1, u11_2, u11_3, u11_4⟩, hy11, hp⟩ := hp
        replace hp := gb_any hp; obtain ⟨y12, hy12, hp⟩ := hp
        refine W_D0 [46] mix (by kernel_rfl) rfl ?_
        refine s3 ?_
        refine D_idxA (X := a0_1) GC.none (OpV.t rfl) (OpV.t rfl) el28.h (RdT.old h0.1) (fun _ => hy7) ?_
        refine s1 ?_
        refine D_load GC.none (OpV.t rfl) (fun hg => RdT.at (RdT.old h0.1) (hy7).2) one43.h rfl ?_
        refine s3 ?_
        refine D_idxA (X := a0_1) GC.none (OpV.t rfl) (OpV.t rfl) el28.h (RdT.old h0.1) (fun _ => hy8) ?_
        refine s1 ?_
        refine D_load GC.none (OpV.t rfl) (fun hg => RdT.at (RdT.old h0.1) (hy8).2) one43.h rfl ?_
        refine D_callX GC.none fn19.h (OpVs.cons (OpV.t rfl) (OpVs.cons (OpV.t rfl) (OpVs.nil))) (by exact fun hg w F hF hM => s_l14Same_walk w u7_3 u8_3 (RdT.nowS (RdT.fst (RdT.snd (RdT.snd (RdT.of (RdT.old h0.1) (hy7).2)))) hF hM) (RdT.nowS (RdT.fst (RdT.snd (RdT.snd (RdT.of (RdT.old h0.1) (hy8).2)))) hF hM) _ hy9) ?_
        refine s5 ?_
        refine D_idxA (X := a0_1) (GC.some rfl rfl) (OpV.s rfl) (OpV.s rfl) el28.h (RdT.old h0.1) (fun hg => hy10 (gnot hg.2)) ?_
        refine s1 ?_
        refine D_load (GC.some rfl rfl) (OpV.s rfl) (fun hg => RdT.at (RdT.old h0.1) (hy10 (gnot hg.2)).2) one43.h rfl ?_
        refine s3 ?_
        refine D_idxA (X := a0_1) (GC.some rfl rfl) (OpV.s rfl) (OpV.s rfl) el28.h (RdT.old h0.1) (fun hg => hy11 (gnot hg.2)) ?_
        refine s1 ?_
        refine D_load (GC.some rfl rfl) (OpV.s rfl) (fun hg => RdT.at (RdT.old h0.1) (hy11 (gnot hg.2)).2) one43.h rfl ?_
        refine D_callX (GC.some rfl rfl) fn19.h (OpVs.cons (OpV.s rfl) (OpVs.cons (OpV.s rfl) (OpVs.nil))) (by exact fun hg w F hF hM => s_l14Same_walk w u10_3 u11_3 (RdT.nowS (RdT.fst (RdT.snd (RdT.snd (RdT.of (RdT.old h0.1) (hy10 (gnot hg.2)).2)))) hF hM) (RdT.nowS (RdT.fst (RdT.snd (RdT.snd (RdT.of (RdT.old h0.1) (hy11 (gnot hg.2)).2)))) hF hM) _ (hy12 (gnot hg.2))) ?_
        refine s20 ?_
        refine s14 ?_
        refine kp [1, 3, 4, 46] ?_
        refine W_cond rfl (fun hc13 => ?_) (fun hc13 => ?_)
        · replace hp := cond_t hc13 hp
          refine s4 ?_
          replace hp := map_any hp; obtain ⟨a14, hp, hx_a14⟩ := hp
          obtain rfl := hx5 _ hx_a14
          replace hp := map_any hp; obtain ⟨a15, hp, hx_a15⟩ := hp
          obtain rfl := hx3 _ hx_a15
          obtain rfl := Option.some.inj hp
          refine s1 ?_
          refine res1 rfl (ResOK.tmp rfl) ⟨rfl, rfl⟩ ms
        · replace hp := cond_f hc13 hp
          refine s6 ?_
          exact ⟨IntKind.wrap .i64 (v5_0 + 1), sb, (.sub ms), some_eq hp⟩
      · replace hp := cond_f hc6 hp
        refine W_exit ?_
        replace hp := map_any hp; obtain ⟨a16, hp, hx_a16⟩ := hp
        obtain rfl := hx5 _ hx_a16
        refine s5 ?_
        exact ⟨IntKind.wrap .i64 (v3_0 + 1), sb, (.sub ms), some_eq hp⟩
    · replace hp := cond_f hc4 hp
      refine W_exit ?_
      replace hp := map_any hp; obtain ⟨a17, hp, hx_a17⟩ := hp
      obtain rfl := hx3 _ hx_a17
      refine s4 ?_
      obtain rfl := Option.some.inj hp
      refine s1 ?_
      refine res1 rfl (ResOK.tmp rfl) ⟨rfl, rfl⟩ ms
end Go.Proofs.SL
/- from P0.lean -/
namespace Go.Proofs.SL
open Go
theorem l1In_eq (x a b : Int) : s_l1In x a b = some (decide (a ≤ x ∧ x ≤ b)) := by
  unfold s_l1In; rw [Bool.decide_and]
theorem within_eq (x a b : Int) : i_within x a b = some (decide (a ≤ x ∧ x ≤ b)) := by
  unfold i_within; rw [Bool.decide_and]
theorem firstI_some {α : Type} {p : α → Bool} {xs : List α} {k : Nat} (h : xs.findIdx? p = some k) : firstI p xs = (k : Int) := by unfold firstI; rw [h]
theorem firstI_none {α : Type} {p : α → Bool} {xs : List α} (h : xs.findIdx? p = none) : firstI p xs = -1 := by unfold firstI; rw [h]
theorem gbs {α β : Type} [Inhabited α] (g : Bool) (a : α) (k : α → Option β) : gb g (some a) k = if g then k a else k default := by cases g <;> rfl
theorem prev_idx' {δ : Type} {l : List δ} {k : Nat} (hk : k < l.length) (hl : l.length ≤ 9223372036854775807) (h0 : 0 < k) : ∃ r, l[k - 1]? = some r ∧ idx l (IntKind.wrap .i64 ((k : Int) - 1)) = some r := by
  refine ⟨l[k - 1], List.getElem?_eq_getElem (by omega), ?_⟩
  rw [wrap64_in (by unfold inR; omega), show ((k : Int) - 1) = ((k - 1 : Nat) : Int) by omega, idx_nat]
  exact List.getElem?_eq_getElem (by omega)
theorem gb_none {α β : Type} [Inhabited α] (g : Bool) (o : Option α) (k : α → Option β) (h : g = false) : gb g o k = k default := by subst h; rfl
theorem sidx_lt {s : ByteArray} {k : Nat} (h : k < s.size) : ∃ n, sidx s (k : Int) = some n ∧ 0 ≤ n ∧ n < 256 := by
  refine ⟨((s[k]'h).toNat : Int), ?_, by omega, by have := (s[k]'h).toNat_lt; omega⟩
  unfold sidx
  rw [dif_pos ⟨by omega, by simpa using h⟩]
  simp
/-- A check of each element. -/
theorem each_loop {β γ : Type} {l : List γ} {p : γ → Bool} {no yes : Option β} {f : Int → Option (Int ⊕ β)} (hl : l.length ≤ 9223372036854775807)
    (hf : ∀ (k : Nat) (x : γ), l[k]? = some x → f (k : Int) = if p x then some (.inl (IntKind.wrap .i64 ((k : Int) + 1))) else no.map .inr) (hn : f (l.length : Int) = yes.map .inr) :
    whileP f 0 = if l.all p then yes else no := by
  rw [whileP_all (n := l.length) (fun k => (l[k]?).all p) no yes ?_ hn, all_range_get]
  intro k hk
  rw [hf k l[k] (List.getElem?_eq_getElem hk), List.getElem?_eq_getElem hk, wrap_succ (by omega)]
  rfl
theorem bds_mem {τ δ : Type} [GT τ δ] [Bk τ] [Bd τ] {l : List δ} {x : δ} (h : x ∈ l) : Bd.bd (τ := τ) x ≤ bds τ l := by
  induction l with
  | nil => cases h
  | cons y ys ih =>
    rcases List.mem_cons.1 h with rfl | h
    · simp only [bds]; omega
    · have := ih h; simp only [bds]; omega
end Go.Proofs.SL
/- from PO.lean -/
namespace Go.Proofs.SL
open Go
theorem pairwise_of_step {α : Type} {R : α → α → Prop} (tr : ∀ a b c, R a b → R b c → R a c) : ∀ (l : List α), (∀ k (h : k + 1 < l.length), R l[k] l[k + 1]) → l.Pairwise R
  | [], _ => List.Pairwise.nil
  | [a], _ => List.pairwise_singleton _ _
  | a :: b :: l, h => by
    have ih := pairwise_of_step tr (b :: l) (fun k hk => h (k + 1) (by simp at hk ⊢; omega))
    refine List.pairwise_cons.2 ⟨fun x hx => ?_, ih⟩
    have h0 : R a b := h 0 (by simp)
    rcases List.mem_cons.1 hx with rfl | hx
    · exact h0
    · exact tr _ _ _ h0 (List.rel_of_pairwise_cons ih hx)
end Go.Proofs.SL
/- from PNo.lean -/
namespace Go.Proofs.SL
open Go
theorem isRep_eq (x : Int) : i_isRep x = some (decide (0 ≤ x ∧ x < 3)) := by
  unfold i_isRep
  rw [within_eq, show decide (0 ≤ x ∧ x ≤ 2) = decide (0 ≤ x ∧ x < 3) by rw [Bool.eq_iff_iff]; simp; omega]; rfl
theorem l9Node_eq (x : Int) : s_l9Node x = some (decide (0 ≤ x ∧ x < 3)) := by unfold s_l9Node; rw [Bool.decide_and]
def nodeOk (ns : List Int) (k : Nat) : Bool := match ns[k]? with
  | none => false
  | some n => decide (0 ≤ n ∧ n < 3) && (decide (k = 0) || (ns[k - 1]?).all fun r => decide (r < n))
def nodesOk (ns : List Int) : Bool := (List.range ns.length).all (nodeOk ns)
theorem firstI_any {α : Type} (p : α → Bool) (l : List α) : decide (0 ≤ firstI p l) = l.any p := by
  rcases firstI_find p l with ⟨h1, h2⟩ | ⟨k, x, h1, h2, h3, _⟩
  · rw [h1]
    cases h : l.any p with
    | false => rfl
    | true =>
      obtain ⟨x, hx, hp⟩ := List.any_eq_true.1 h
      exact absurd hp (List.find?_eq_none.1 h2 x hx)
  · rw [h1, show decide (0 ≤ (k : Int)) = true by simp]
    symm
    exact List.any_eq_true.2 ⟨x, List.mem_of_getElem? h2, List.find?_some h3⟩
theorem foldl_filter' {β : Type} (p : β → Bool) : ∀ (xs acc : List β), xs.foldl (fun t x => if p x then t ++ [x] else t) acc = acc ++ xs.filter p
  | [], acc => by simp
  | x :: xs, acc => by
    rw [List.foldl_cons]
    cases hp : p x with
    | true => simp only [if_true]; rw [foldl_filter' p xs]; simp [hp]
    | false => simp only [Bool.false_eq_true, if_false]; rw [foldl_filter' p xs]; simp [hp]
/-- What right uploads hold. -/
theorem nodesOk_facts {ns : List Int} (h : nodesOk ns = true) : (∀ n, n ∈ ns → 0 ≤ n ∧ n < 3) ∧ ns.Pairwise (· < ·) := by
  unfold nodesOk at h
  simp only [List.all_eq_true, List.mem_range] at h
  have h1 : ∀ n, n ∈ ns → 0 ≤ n ∧ n < 3 := fun n hn => by
    obtain ⟨k, hk⟩ := List.getElem?_of_mem hn
    have := h k (List.getElem?_eq_some_iff.1 hk).1
    unfold nodeOk at this
    rw [hk] at this
    simp only [Bool.and_eq_true, decide_eq_true_eq] at this
    exact this.1
  refine ⟨h1, pairwise_of_step (R := (· < ·)) (fun a b c => Int.lt_trans) ns fun k hk => ?_⟩
  have := h (k + 1) hk
  unfold nodeOk at this
  rw [List.getElem?_eq_getElem hk] at this
  simp only [Bool.and_eq_true, decide_eq_true_eq, Bool.or_eq_true, Nat.add_sub_cancel, List.getElem?_eq_getElem (show k < ns.length by omega), Option.all_some] at this
  rcases this.2 with h2 | h2
  · omega
  · exact h2
theorem sorted_le : ∀ {l : List Int} {a b : Int}, l.Pairwise (· < ·) → (∀ n, n ∈ l → a ≤ n ∧ n < b) → (l.length : Int) ≤ max 0 (b - a)
  | [], a, b, _, _ => by simp; omega
  | x :: l, a, b, h1, h2 => by
    obtain ⟨h3, h4⟩ := List.pairwise_cons.1 h1
    have hx := h2 x (List.mem_cons_self ..)
    have := sorted_le (a := x + 1) (b := b) h4 (fun n hn => ⟨by have := h3 n hn; omega, (h2 n (List.mem_cons_of_mem _ hn)).2⟩)
    simp only [List.length_cons]
    omega
theorem nodes_le {l : List Int} (h1 : ∀ n, n ∈ l → 0 ≤ n ∧ n < 3) (h2 : l.Pairwise (· < ·)) : l.length ≤ 3 := by
  have := sorted_le h2 h1
  omega
end Go.Proofs.SL
/- from PM.lean -/
namespace Go.Proofs.SL
open Go
/-- Byte k of a text is a small letter. -/
def letter (s : ByteArray) (k : Nat) : Bool := match sidx s (k : Int) with
  | some n => !(decide (n < 97) || decide (122 < n))
  | none => false
def isWordB (s : ByteArray) : Bool := decide (1 ≤ (s.size : Int) ∧ (s.size : Int) ≤ 8) && (List.range s.size).all (letter s)
theorem word_loop {β : Type} {s : ByteArray} {no yes : Option β} {f : Int → Option (Int ⊕ β)} (hl : s.size ≤ 9223372036854775807)
    (hf : ∀ (k : Nat) (n : Int), k < s.size → sidx s (k : Int) = some n → f (k : Int) = if !(decide (n < 97) || decide (122 < n)) then some (.inl (IntKind.wrap .i64 ((k : Int) + 1))) else no.map .inr) (hn : f (s.size : Int) = yes.map .inr) :
    whileP f 0 = if (List.range s.size).all (letter s) then yes else no := by
  refine whileP_all (letter s) no yes (fun k hk => ?_) hn
  obtain ⟨n, hs, _, _⟩ := sidx_lt hk
  rw [hf k n hk hs, wrap_succ (by omega)]
  unfold letter
  rw [hs]
theorem s_l4Word_eq {s : ByteArray} (hl : s.size ≤ 9223372036854775807) : s_l4Word s = some (isWordB s) := by
  unfold s_l4Word isWordB
  rw [l1In_eq]
  cases h : decide (1 ≤ (s.size : Int) ∧ (s.size : Int) ≤ 8) with
  | false => rfl
  | true =>
    simp only [Option.bind_some, Bool.not_true, cond_false, Bool.true_and]
    rw [word_loop (no := some false) (yes := some true) hl]
    · cases (List.range s.size).all (letter s) <;> rfl
    · intro k n hk hs
      simp only [lt_dec hk, cond_true, hs, Option.bind_some]
      rw [show ∀ (g : Bool) (q : Int → Option (Int ⊕ Bool)), gb g (some n) q = if g then q n else q default from fun g q => by cases g <;> rfl]
      cases decide (n < 97) <;> cases decide (122 < n) <;> rfl
    · simp only [ge_dec]; rfl
theorem i_isWord_eq {s : ByteArray} (hl : s.size ≤ 9223372036854775807) : i_isWord s = some (isWordB s) := by
  unfold i_isWord isWordB
  simp only [within_eq, Option.bind_some]
  rw [word_loop (no := some false) (yes := some (decide (1 ≤ (s.size : Int) ∧ (s.size : Int) ≤ 8))) hl]
  · cases (List.range s.size).all (letter s) <;> simp
  · intro k n hk hs
    simp only [lt_dec hk, cond_true, hs, Option.bind_some]
    rw [show ∀ (g : Bool) (q : Int → Option (Int ⊕ Bool)), gb g (some n) q = if g then q n else q default from fun g q => by cases g <;> rfl]
    cases decide (n < 97) <;> cases decide (122 < n) <;> rfl
  · simp only [ge_dec]; rfl
def wordIfB (s : ByteArray) (is : Bool) : Bool := if is then isWordB s else decide (s = ByteArray.empty)
theorem s_l4May_eq {s : ByteArray} {b : Bool} (hl : s.size ≤ 9223372036854775807) : s_l4May s b = some (wordIfB s b) := by
  unfold s_l4May wordIfB
  rw [s_l4Word_eq hl]
  cases b <;> rfl
theorem i_wordIf_eq {s : ByteArray} {b : Bool} (hl : s.size ≤ 9223372036854775807) : i_wordIf s b = some (wordIfB s b) := by
  unfold i_wordIf wordIfB
  rw [i_isWord_eq hl]
  cases b <;> rfl
def areChunksB (l : List ByteArray) : Bool := l.all fun c => decide ((c.size : Int) = 8)
theorem i_areChunks_eq {l : List ByteArray} (hl : l.length ≤ 9223372036854775807) : i_areChunks l = some (areChunksB l) := by
  unfold i_areChunks areChunksB
  rw [each_loop (p := fun c => decide ((c.size : Int) = 8)) (no := some false) (yes := some true) hl]
  · cases l.all _ <;> rfl
  · intro k x hx
    simp only [lt_dec (List.getElem?_eq_some_iff.1 hx).1, cond_true, idx_nat, hx, Option.bind_some]
    cases decide ((x.size : Int) = 8) <;> rfl
  · simp only [ge_dec]; rfl
theorem s_l4Texts_eq {a b : List ByteArray} (hl : a.length ≤ 9223372036854775807) : s_l4Texts a b = some (decide (a = b)) := by
  unfold s_l4Texts
  by_cases h : a.length = b.length
  · rw [show decide ((a.length : Int) = (b.length : Int)) = true by simp; omega]
    simp only [Bool.not_true, cond_false]
    rw [whileP_all (n := a.length) (fun k => decide (a[k]? = b[k]?)) (some false) (some true)]
    · by_cases e : a = b
      · subst e; simp
      · rw [decide_eq_false e]
        have : (List.range a.length).all (fun k => decide (a[k]? = b[k]?)) = false := by
          rw [Bool.eq_false_iff]
          intro hh
          refine e (List.ext_getElem? fun i => ?_)
          by_cases hi : i < a.length
          · simpa using List.all_eq_true.1 hh i (List.mem_range.2 hi)
          · rw [List.getElem?_eq_none (by omega), List.getElem?_eq_none (by omega)]
        rw [this]; rfl
    · intro k hk
      have h1 : a[k]? = some a[k] := List.getElem?_eq_getElem hk
      have h2 : b[k]? = some (b[k]'(by omega)) := List.getElem?_eq_getElem (by omega)
      simp only [lt_dec hk, cond_true, idx_nat, h1, h2, Option.bind_some, wrap_succ (show k < 9223372036854775807 by omega), Option.some.injEq]
      cases decide (a[k] = b[k]'(by omega)) <;> rfl
    · simp only [ge_dec]; rfl
  · rw [show decide ((a.length : Int) = (b.length : Int)) = false by simp; omega, decide_eq_false (fun e => h (by rw [e]))]; rfl
theorem s_SameCmd_eq {a b : D_Cmd} (ho : Ok.ok a) : s_SameCmd a b = some (pB (a = b)) := by
  obtain ⟨a1, a2, a3, a4, a5, a6, a7, a8⟩ := a
  obtain ⟨b1, b2, b3, b4, b5, b6, b7, b8⟩ := b
  have hl : a8.length ≤ 9223372036854775807 := ho.2.2.2.2.2.2.2.1
  unfold s_SameCmd
  rw [s_l4Texts_eq hl, gb_some (fun h => by rw [h]; simp)]
  congr 1
  rw [Bool.eq_iff_iff, pB_iff]
  simp [and_assoc]
theorem i_SameCmd_eq {a b : D_Cmd} (ho : Ok.ok a) : i_SameCmd a b = some (pB (a = b)) := s_SameCmd_eq ho
def noCmd : D_Cmd := (0, 0, 0, ByteArray.empty, ByteArray.empty, ByteArray.empty, 0, [])
noncomputable def cmdOkB (c : D_Cmd) : Bool :=
  if c.1 = 0 then pB (c = noCmd) else
    decide (1 ≤ c.1 ∧ c.1 ≤ 7) && decide (1 ≤ c.2.1 ∧ c.2.1 ≤ 9) && decide (1 ≤ c.2.2.1 ∧ c.2.2.1 ≤ 1000) && wordIfB c.2.2.2.1 (!decide (c.1 = 7)) && wordIfB c.2.2.2.2.1 (decide (c.1 = 3) || decide (c.1 = 4)) && wordIfB c.2.2.2.2.2.1 (decide (c.1 = 4)) &&
    (decide (c.2.2.2.2.2.2.1 = 0) || (decide (c.1 = 5) && decide (0 ≤ c.2.2.2.2.2.2.1 ∧ c.2.2.2.2.2.2.1 ≤ 9))) && (if c.1 = 3 then decide (1 ≤ (c.2.2.2.2.2.2.2.length : Int) ∧ (c.2.2.2.2.2.2.2.length : Int) ≤ 4) && areChunksB c.2.2.2.2.2.2.2 else decide ((c.2.2.2.2.2.2.2.length : Int) = 0))
set_option maxHeartbeats 1000000 in
theorem i_CmdOk_eq {c : D_Cmd} (ho : Ok.ok c) : i_CmdOk c = some (cmdOkB c) := by
  have hl : c.2.2.2.2.2.2.2.length ≤ 9223372036854775807 := ho.2.2.2.2.2.2.2.1
  have h4 : c.2.2.2.1.size ≤ 9223372036854775807 := ho.2.2.2.1
  have h5 : c.2.2.2.2.1.size ≤ 9223372036854775807 := ho.2.2.2.2.1
  have h6 : c.2.2.2.2.2.1.size ≤ 9223372036854775807 := ho.2.2.2.2.2.1
  unfold i_CmdOk cmdOkB
  simp only [i_SameCmd_eq ho, within_eq, i_wordIf_eq h4, i_wordIf_eq h5, i_wordIf_eq h6, i_areChunks_eq hl, Option.bind_some, gbs]
  by_cases h0 : c.1 = 0
  · rw [if_pos h0, decide_eq_true h0]; rfl
  · rw [if_neg h0, decide_eq_false h0]
    generalize wordIfB c.2.2.2.1 _ = W1
    generalize wordIfB c.2.2.2.2.1 _ = W2
    generalize wordIfB c.2.2.2.2.2.1 _ = W3
    generalize areChunksB c.2.2.2.2.2.2.2 = W4
    by_cases h5 : c.1 = 5
    · simp only [h5]
      cases decide (1 ≤ c.2.1 ∧ c.2.1 ≤ 9) <;> cases decide (1 ≤ c.2.2.1 ∧ c.2.2.1 ≤ 1000) <;> cases W1 <;> cases W2 <;> cases W3 <;> cases decide (c.2.2.2.2.2.2.1 = 0) <;> cases decide (0 ≤ c.2.2.2.2.2.2.1 ∧ c.2.2.2.2.2.2.1 ≤ 9) <;> simp
    · by_cases h3 : c.1 = 3
      · simp only [h3]
        cases decide (1 ≤ c.2.1 ∧ c.2.1 ≤ 9) <;> cases decide (1 ≤ c.2.2.1 ∧ c.2.2.1 ≤ 1000) <;> cases W1 <;> cases W2 <;> cases W3 <;> cases decide (c.2.2.2.2.2.2.1 = 0) <;> cases decide (1 ≤ (c.2.2.2.2.2.2.2.length : Int) ∧ (c.2.2.2.2.2.2.2.length : Int) ≤ 4) <;> simp
      · rw [decide_eq_false h5, decide_eq_false h3, if_neg h3]
        cases decide (1 ≤ c.1 ∧ c.1 ≤ 7) <;> cases decide (1 ≤ c.2.1 ∧ c.2.1 ≤ 9) <;> cases decide (1 ≤ c.2.2.1 ∧ c.2.2.1 ≤ 1000) <;> cases W1 <;> cases W2 <;> cases W3 <;> cases decide (c.2.2.2.2.2.2.1 = 0) <;> simp
set_option maxHeartbeats 1000000 in
theorem s_CmdOk_eq {c : D_Cmd} (ho : Ok.ok c) : s_CmdOk c = some (cmdOkB c) := by
  have hl : c.2.2.2.2.2.2.2.length ≤ 9223372036854775807 := ho.2.2.2.2.2.2.2.1
  have h4 : c.2.2.2.1.size ≤ 9223372036854775807 := ho.2.2.2.1
  have h5 : c.2.2.2.2.1.size ≤ 9223372036854775807 := ho.2.2.2.2.1
  have h6 : c.2.2.2.2.2.1.size ≤ 9223372036854775807 := ho.2.2.2.2.2.1
  unfold s_CmdOk cmdOkB
  simp only [s_SameCmd_eq ho, l1In_eq, s_l4May_eq h4, s_l4May_eq h5, s_l4May_eq h6, Option.bind_some, gbs]
  rw [each_loop (p := fun c => decide ((c.size : Int) = 8)) (no := some false) (yes := some true) hl]
  rotate_left
  · intro k x hx
    simp only [lt_dec (List.getElem?_eq_some_iff.1 hx).1, cond_true, idx_nat, hx, Option.bind_some]
    cases decide ((x.size : Int) = 8) <;> rfl
  · simp only [ge_dec]; rfl
  by_cases h0 : c.1 = 0
  · rw [if_pos h0, decide_eq_true h0, decide_eq_true (show 0 ≤ c.1 ∧ c.1 ≤ 7 by omega)]; rfl
  · rw [if_neg h0, decide_eq_false h0]
    have e7 : decide (0 ≤ c.1 ∧ c.1 ≤ 7) = decide (1 ≤ c.1 ∧ c.1 ≤ 7) := by rw [Bool.eq_iff_iff]; simp; omega
    rw [e7]
    show _ = some (_ && (if c.1 = 3 then _ && c.2.2.2.2.2.2.2.all (fun c => decide ((c.size : Int) = 8)) else _))
    generalize wordIfB c.2.2.2.1 _ = W1
    generalize wordIfB c.2.2.2.2.1 _ = W2
    generalize wordIfB c.2.2.2.2.2.1 _ = W3
    generalize c.2.2.2.2.2.2.2.all _ = W4
    by_cases h5 : c.1 = 5
    · simp only [h5]
      cases decide (1 ≤ c.2.1 ∧ c.2.1 ≤ 9) <;> cases decide (1 ≤ c.2.2.1 ∧ c.2.2.1 ≤ 1000) <;> cases W1 <;> cases W2 <;> cases W3 <;> cases decide (c.2.2.2.2.2.2.1 = 0) <;> cases decide (0 ≤ c.2.2.2.2.2.2.1 ∧ c.2.2.2.2.2.2.1 ≤ 9) <;> simp
    · by_cases h3 : c.1 = 3
      · simp only [h3]
        cases decide (1 ≤ c.2.1 ∧ c.2.1 ≤ 9) <;> cases decide (1 ≤ c.2.2.1 ∧ c.2.2.1 ≤ 1000) <;> cases W1 <;> cases W2 <;> cases W3 <;> cases decide (c.2.2.2.2.2.2.1 = 0) <;> cases decide (1 ≤ (c.2.2.2.2.2.2.2.length : Int) ∧ (c.2.2.2.2.2.2.2.length : Int) ≤ 4) <;> cases W4 <;> simp
      · rw [decide_eq_false h5, decide_eq_false h3, if_neg h3]
        cases decide (1 ≤ c.1 ∧ c.1 ≤ 7) <;> cases decide (1 ≤ c.2.1 ∧ c.2.1 ≤ 9) <;> cases decide (1 ≤ c.2.2.1 ∧ c.2.2.1 ≤ 1000) <;> cases W1 <;> cases W2 <;> cases W3 <;> cases decide (c.2.2.2.2.2.2.1 = 0) <;> simp
end Go.Proofs.SL
/- from PN.lean -/
namespace Go.Proofs.SL
open Go
def idOkB (x : D_Id) : Bool := decide (0 ≤ x.1 ∧ x.1 ≤ 2) && decide (1 ≤ x.2 ∧ x.2 ≤ 6)
theorem s_l8Id_eq (x : D_Id) : s_l8Id x = some (idOkB x) := by
  unfold s_l8Id idOkB
  simp only [l1In_eq, Option.bind_some, gbs]
  cases decide (0 ≤ x.1 ∧ x.1 ≤ 2) <;> cases decide (1 ≤ x.2 ∧ x.2 ≤ 6) <;> rfl
theorem i_idOk_eq (x : D_Id) : i_idOk x = some (idOkB x) := by
  unfold i_idOk idOkB
  simp only [within_eq, Option.bind_some, gbs]
  cases decide (0 ≤ x.1 ∧ x.1 ≤ 2) <;> cases decide (1 ≤ x.2 ∧ x.2 ≤ 6) <;> rfl
def idLt (a b : D_Id) : Bool := decide (a.1 < b.1) || (decide (a.1 = b.1) && decide (a.2 < b.2))
theorem s_l8Less_eq (a b : D_Id) : s_l8Less a b = some (idLt a b) := rfl
theorem compareIds_eq (a b : D_Id) : ∃ c, i_compareIds a b = some c ∧ decide (0 ≤ c) = !idLt a b := by
  unfold i_compareIds idLt
  cases h : decide (a.1 < b.1) || (decide (a.1 = b.1) && decide (a.2 < b.2)) with
  | true => exact ⟨-1, rfl, rfl⟩
  | false =>
    cases h2 : decide (a.1 = b.1) && (decide (a.2 = b.2) && true) with
    | true => exact ⟨0, rfl, rfl⟩
    | false => exact ⟨1, rfl, rfl⟩
def idEq (a b : D_Id) : Bool := decide (a.1 = b.1) && (decide (a.2 = b.2) && true)
theorem idEq_comm (a b : D_Id) : idEq a b = idEq b a := by unfold idEq; rw [Bool.eq_iff_iff]; simp only [Bool.and_eq_true, decide_eq_true_eq, and_true]; constructor <;> (rintro ⟨h1, h2⟩; exact ⟨h1.symm, h2.symm⟩)
def idAt (l : List D_Id) (k : Nat) : Bool := match l[k]? with
  | none => false
  | some x => idOkB x && (decide (k = 0) || (l[k - 1]?).all fun r => idLt r x)
def idsOkB (l : List D_Id) : Bool := (List.range l.length).all (idAt l)
theorem s_IdsOk_eq {l : List D_Id} (hl : l.length ≤ 9223372036854775807) : s_IdsOk l = some (idsOkB l) := by
  unfold s_IdsOk idsOkB
  rw [whileP_all (n := l.length) (idAt l) (some false) (some true)]
  · cases (List.range l.length).all (idAt l) <;> rfl
  · intro k hk
    have hx : l[k]? = some l[k] := List.getElem?_eq_getElem hk
    generalize l[k] = x at hx
    simp only [lt_dec hk, cond_true, idx_nat, hx, Option.bind_some, Prod.eta, s_l8Id_eq, s_l8Less_eq, wrap_succ (show k < 9223372036854775807 by omega)]
    unfold idAt
    simp only [hx]
    rcases Nat.eq_zero_or_pos k with h0 | h0
    · subst h0
      rw [gb_none _ _ _ (by simp)]
      cases idOkB x <;> simp [gb]
    · obtain ⟨r, hr1, hr2⟩ := prev_idx' hk hl h0
      have h5 : decide (0 < (k : Int)) = true := by simp; omega
      have h6 : decide (k = 0) = false := by simp; omega
      rw [hr1, hr2, h5, h6, gbs]
      simp only [Option.all_some]
      by_cases h7 : idLt r x = true <;> cases idOkB x <;> simp [gb, h7]
  · simp only [ge_dec]; rfl
theorem i_IdsOk_eq {l : List D_Id} (hl : l.length ≤ 9223372036854775807) : i_IdsOk l = some (idsOkB l) := by
  unfold i_IdsOk idsOkB
  rw [whileP_all (n := l.length) (idAt l) (some false) (some true)]
  · cases (List.range l.length).all (idAt l) <;> rfl
  · intro k hk
    have hx : l[k]? = some l[k] := List.getElem?_eq_getElem hk
    generalize l[k] = x at hx
    simp only [lt_dec hk, cond_true, idx_nat, hx, Option.bind_some, Prod.eta, i_idOk_eq, wrap_succ (show k < 9223372036854775807 by omega)]
    unfold idAt
    simp only [hx]
    rcases Nat.eq_zero_or_pos k with h0 | h0
    · subst h0
      rw [gb_none _ _ _ (by simp), gb_none _ _ _ (by simp)]
      cases idOkB x <;> simp
    · obtain ⟨r, hr1, hr2⟩ := prev_idx' hk hl h0
      have h5 : decide (0 < (k : Int)) = true := by simp; omega
      have h6 : decide (k = 0) = false := by simp; omega
      obtain ⟨c, hc1, hc2⟩ := compareIds_eq r x
      rw [hr1, hr2, h5, h6, gbs]
      simp only [Option.all_some, hc1]
      by_cases h7 : idLt r x = true <;> cases idOkB x <;> simp [gb, h7, hc2]
  · simp only [ge_dec]; rfl
theorem s_l8Has_eq {l : List D_Id} {x : D_Id} (h : l.length ≤ 9223372036854775807) : s_l8Has l x = some (l.any fun y => idEq y x) := by
  unfold s_l8Has
  rw [whileP_find (fun y => idEq y x) (fun i => some (decide (0 ≤ i))) h, firstI_any]
  · intro k y hy
    simp only [lt_dec (List.getElem?_eq_some_iff.1 hy).1, cond_true, idx_nat, hy, Option.bind_some]
    show cond (idEq y x) _ _ = _
    cases idEq y x <;> simp
  · simp only [ge_dec]; rfl
theorem containsId_eq {l : List D_Id} {x : D_Id} (h : l.length ≤ 9223372036854775807) : sl_Contains_implIdimplId l x = some (l.any fun y => idEq y x) := by
  unfold sl_Contains_implIdimplId sl_Index_implIdimplId
  rw [whileP_find (fun y => idEq y x) some h]
  · rw [Option.bind_some, firstI_any]
  · intro k y hy
    simp only [lt_dec (List.getElem?_eq_some_iff.1 hy).1, cond_true, idx_nat, hy, Option.bind_some]
    show cond (idEq x y) _ _ = _
    rw [idEq_comm]
    cases idEq y x <;> rfl
  · simp only [ge_dec]; rfl
noncomputable def instOkB (x : D_Inst) : Bool := idOkB x.1 && decide (-1 ≤ x.2.1 ∧ x.2.1 ≤ 600) && decide (-1 ≤ x.2.2.1 ∧ x.2.2.1 ≤ x.2.1) && decide (0 ≤ x.2.2.2.1 ∧ x.2.2.2.1 ≤ 3) && cmdOkB x.2.2.2.2.1 && decide (0 ≤ x.2.2.2.2.2.1 ∧ x.2.2.2.2.2.1 ≤ 60) && idsOkB x.2.2.2.2.2.2.1 && !(x.2.2.2.2.2.2.1.any fun y => idEq y x.1) &&
  ((!decide (x.2.2.2.1 = 0)) || (((((decide (x.2.2.1 = (-1))) && (decide (x.2.2.2.2.1.1 = 0))) && (decide (x.2.2.2.2.2.1 = 0))) && (decide ((x.2.2.2.2.2.2.1.length : Int) = 0))) && (!x.2.2.2.2.2.2.2)))
theorem s_l8Inst_eq {x : D_Inst} (ho : Ok.ok x) : s_l8Inst x = some (instOkB x) := by
  have hc : Ok.ok x.2.2.2.2.1 := ho.2.2.2.2.1
  have hd : x.2.2.2.2.2.2.1.length ≤ 9223372036854775807 := ho.2.2.2.2.2.2.1.1
  unfold s_l8Inst instOkB
  simp only [Prod.eta, s_l8Id_eq, l1In_eq, s_CmdOk_eq hc, s_IdsOk_eq hd, s_l8Has_eq hd, Option.bind_some]
  generalize ((!decide (x.2.2.2.1 = 0)) || (((((decide (x.2.2.1 = (-1))) && (decide (x.2.2.2.2.1.1 = 0))) && (decide (x.2.2.2.2.2.1 = 0))) && (decide ((x.2.2.2.2.2.2.1.length : Int) = 0))) && (!x.2.2.2.2.2.2.2))) = b9
  generalize (x.2.2.2.2.2.2.1.any fun y => idEq y x.1) = b8
  generalize idsOkB x.2.2.2.2.2.2.1 = b7
  generalize decide (0 ≤ x.2.2.2.2.2.1 ∧ x.2.2.2.2.2.1 ≤ 60) = b6
  generalize cmdOkB x.2.2.2.2.1 = b5
  generalize decide (0 ≤ x.2.2.2.1 ∧ x.2.2.2.1 ≤ 3) = b4
  generalize decide (-1 ≤ x.2.2.1 ∧ x.2.2.1 ≤ x.2.1) = b3
  generalize decide (-1 ≤ x.2.1 ∧ x.2.1 ≤ 600) = b2
  generalize idOkB x.1 = b1
  cases b1
  · rfl
  cases b2
  · rfl
  cases b3
  · rfl
  cases b4
  · rfl
  cases b5
  · rfl
  cases b6
  · rfl
  cases b7
  · rfl
  cases b8 <;> rfl
theorem i_instOk_eq {x : D_Inst} (ho : Ok.ok x) : i_instOk x = some (instOkB x) := by
  have hc : Ok.ok x.2.2.2.2.1 := ho.2.2.2.2.1
  have hd : x.2.2.2.2.2.2.1.length ≤ 9223372036854775807 := ho.2.2.2.2.2.2.1.1
  unfold i_instOk instOkB
  simp only [Prod.eta, i_idOk_eq, within_eq, i_CmdOk_eq hc, i_IdsOk_eq hd, containsId_eq hd, Option.bind_some]
  generalize ((!decide (x.2.2.2.1 = 0)) || (((((decide (x.2.2.1 = (-1))) && (decide (x.2.2.2.2.1.1 = 0))) && (decide (x.2.2.2.2.2.1 = 0))) && (decide ((x.2.2.2.2.2.2.1.length : Int) = 0))) && (!x.2.2.2.2.2.2.2))) = b9
  generalize (x.2.2.2.2.2.2.1.any fun y => idEq y x.1) = b8
  generalize idsOkB x.2.2.2.2.2.2.1 = b7
  generalize decide (0 ≤ x.2.2.2.2.2.1 ∧ x.2.2.2.2.2.1 ≤ 60) = b6
  generalize cmdOkB x.2.2.2.2.1 = b5
  generalize decide (0 ≤ x.2.2.2.1 ∧ x.2.2.2.1 ≤ 3) = b4
  generalize decide (-1 ≤ x.2.2.1 ∧ x.2.2.1 ≤ x.2.1) = b3
  generalize decide (-1 ≤ x.2.1 ∧ x.2.1 ≤ 600) = b2
  generalize idOkB x.1 = b1
  cases b1
  · rfl
  cases b2
  · rfl
  cases b3
  · rfl
  cases b4
  · rfl
  cases b5
  · rfl
  cases b6
  · rfl
  cases b7
  · rfl
  cases b8 <;> rfl
noncomputable def instAt (l : List D_Inst) (k : Nat) : Bool := match l[k]? with
  | none => false
  | some x => instOkB x && (decide (k = 0) || (l[k - 1]?).all fun r => idLt r.1 x.1)
noncomputable def instsOkB (l : List D_Inst) : Bool := (List.range l.length).all (instAt l)
theorem s_InstsOk_eq {l : List D_Inst} (ho : Ok.ok l) : s_InstsOk l = some (instsOkB l) := by
  have hl : l.length ≤ 9223372036854775807 := ho.1
  unfold s_InstsOk instsOkB
  rw [whileP_all (n := l.length) (instAt l) (some false) (some true)]
  · cases (List.range l.length).all (instAt l) <;> rfl
  · intro k hk
    have hx : l[k]? = some l[k] := List.getElem?_eq_getElem hk
    generalize l[k] = x at hx
    have hox : Ok.ok x := ho.2 x (List.mem_of_getElem? hx)
    simp only [lt_dec hk, cond_true, idx_nat, hx, Option.bind_some, Prod.eta, s_l8Inst_eq hox, s_l8Less_eq, wrap_succ (show k < 9223372036854775807 by omega)]
    unfold instAt
    simp only [hx]
    rcases Nat.eq_zero_or_pos k with h0 | h0
    · subst h0
      rw [gb_none _ _ _ (by simp)]
      cases instOkB x <;> simp [gb]
    · obtain ⟨r, hr1, hr2⟩ := prev_idx' hk hl h0
      have h5 : decide (0 < (k : Int)) = true := by simp; omega
      have h6 : decide (k = 0) = false := by simp; omega
      rw [hr1, hr2, h5, h6, gbs]
      simp only [Option.all_some]
      by_cases h7 : idLt r.1 x.1 = true <;> cases instOkB x <;> simp [gb, h7]
  · simp only [ge_dec]; rfl
theorem i_InstsOk_eq {l : List D_Inst} (ho : Ok.ok l) : i_InstsOk l = some (instsOkB l) := by
  have hl : l.length ≤ 9223372036854775807 := ho.1
  unfold i_InstsOk instsOkB
  rw [whileP_all (n := l.length) (instAt l) (some false) (some true)]
  · cases (List.range l.length).all (instAt l) <;> rfl
  · intro k hk
    have hx : l[k]? = some l[k] := List.getElem?_eq_getElem hk
    generalize l[k] = x at hx
    have hox : Ok.ok x := ho.2 x (List.mem_of_getElem? hx)
    simp only [lt_dec hk, cond_true, idx_nat, hx, Option.bind_some, Prod.eta, i_instOk_eq hox, wrap_succ (show k < 9223372036854775807 by omega)]
    unfold instAt
    simp only [hx]
    rcases Nat.eq_zero_or_pos k with h0 | h0
    · subst h0
      rw [gb_none _ _ _ (by simp), gb_none _ _ _ (by simp)]
      cases instOkB x <;> simp
    · obtain ⟨r, hr1, hr2⟩ := prev_idx' hk hl h0
      have h5 : decide (0 < (k : Int)) = true := by simp; omega
      have h6 : decide (k = 0) = false := by simp; omega
      obtain ⟨c, hc1, hc2⟩ := compareIds_eq r.1 x.1
      rw [hr1, hr2, h5, h6, gbs]
      simp only [Option.all_some, hc1]
      by_cases h7 : idLt r.1 x.1 = true <;> cases instOkB x <;> simp [gb, h7, hc2]
  · simp only [ge_dec]; rfl
end Go.Proofs.SL
/- from PN2.lean -/
namespace Go.Proofs.SL
open Go
noncomputable def leadOkB (x : D_Lead) : Bool := idOkB x.1 && decide (0 ≤ x.2.1 ∧ x.2.1 ≤ 600) && decide (1 ≤ x.2.2.1 ∧ x.2.2.1 ≤ 3) && decide (0 ≤ x.2.2.2.1 ∧ x.2.2.2.1 ≤ 60) && idsOkB x.2.2.2.2.1 && !(x.2.2.2.2.1.any fun y => idEq y x.1) && nodesOk x.2.2.2.2.2.1
theorem nodes_loop {α : Type} {l : List Int} {f : Int → Option (Int ⊕ α)} (no yes : Option α) (hl : l.length ≤ 9223372036854775807)
    (hf : ∀ (k : Nat) (y : Int), l[k]? = some y → f (k : Int) = gb ((!(!decide (0 ≤ y ∧ y < 3))) && (decide (0 < (k : Int)))) (idx l (IntKind.wrap .i64 ((k : Int) - 1))) (fun r => cond ((!decide (0 ≤ y ∧ y < 3)) || ((decide (0 < (k : Int))) && (decide (y ≤ r)))) (no.map .inr) (some (.inl (IntKind.wrap .i64 ((k : Int) + 1))))))
    (he : f (l.length : Int) = yes.map .inr) : whileP f 0 = if nodesOk l then yes else no := by
  refine whileP_all (n := l.length) (nodeOk l) no yes (fun k hk => ?_) he
  have hy : l[k]? = some l[k] := List.getElem?_eq_getElem hk
  generalize l[k] = y at hy
  rw [hf k y hy]
  simp only [wrap_succ (show k < 9223372036854775807 by omega)]
  unfold nodeOk
  simp only [hy]
  rcases Nat.eq_zero_or_pos k with h0 | h0
  · subst h0
    rw [gb_none _ _ _ (by simp)]
    cases decide (0 ≤ y ∧ y < 3) <;> simp
  · obtain ⟨r, hr1, hr2⟩ := prev_idx' hk hl h0
    have h5 : decide (0 < (k : Int)) = true := by simp; omega
    have h6 : decide (k = 0) = false := by simp; omega
    rw [hr1, hr2, h5, h6, gbs]
    simp only [Option.all_some]
    by_cases h7 : r < y
    · have h8 : decide (y ≤ r) = false := by simp; omega
      cases decide (0 ≤ y ∧ y < 3) <;> simp [h7, h8]
    · have h8 : decide (y ≤ r) = true := by simp; omega
      cases decide (0 ≤ y ∧ y < 3) <;> simp [h7, h8]
theorem s_l9Lead_eq {x : D_Lead} (ho : Ok.ok x) : s_l9Lead x = some (leadOkB x) := by
  have hd : x.2.2.2.2.1.length ≤ 9223372036854775807 := ho.2.2.2.2.1.1
  have hf : x.2.2.2.2.2.1.length ≤ 9223372036854775807 := ho.2.2.2.2.2.1.1
  unfold s_l9Lead leadOkB
  rw [nodes_loop (l := x.2.2.2.2.2.1) (some false) (some true) hf]
  · simp only [Prod.eta, s_l8Id_eq, l1In_eq, s_IdsOk_eq hd, s_l8Has_eq hd, Option.bind_some]
    have h3 : nodesOk x.2.2.2.2.2.1 = true → decide (3 < (x.2.2.2.2.2.1.length : Int)) = false := fun h => by
      obtain ⟨h1, h2⟩ := nodesOk_facts h
      have := nodes_le h1 h2
      simp; omega
    generalize decide (3 < (x.2.2.2.2.2.1.length : Int)) = b8 at *
    generalize nodesOk x.2.2.2.2.2.1 = b7 at *
    generalize (x.2.2.2.2.1.any fun y => idEq y x.1) = b6
    generalize idsOkB x.2.2.2.2.1 = b5
    generalize decide (0 ≤ x.2.2.2.1 ∧ x.2.2.2.1 ≤ 60) = b4
    generalize decide (1 ≤ x.2.2.1 ∧ x.2.2.1 ≤ 3) = b3
    generalize decide (0 ≤ x.2.1 ∧ x.2.1 ≤ 600) = b2
    generalize idOkB x.1 = b1
    cases b1
    · rfl
    cases b2
    · rfl
    cases b3
    · rfl
    cases b4
    · rfl
    cases b5
    · rfl
    cases b6
    · cases b7
      · cases b8 <;> rfl
      · rw [h3 rfl]; rfl
    · rfl
  · intro k y hy
    simp only [lt_dec (List.getElem?_eq_some_iff.1 hy).1, cond_true, idx_nat, hy, Option.bind_some, l9Node_eq]
    congr 1
    funext r
    cases h : ((!(!decide (0 ≤ y ∧ y < 3))) && decide (0 < (k : Int))) with
    | true => rfl
    | false =>
      simp only [gb]
      simp only [Bool.and_eq_false_imp, Bool.not_not] at h
      cases h1 : decide (0 ≤ y ∧ y < 3) with
      | false => rfl
      | true => rw [h h1]; rfl
  · simp only [ge_dec]; rfl
theorem i_areDeps_eq {l : List D_Id} {x : D_Id} (h : l.length ≤ 9223372036854775807) : i_areDeps l x = some (idsOkB l && !(l.any fun y => idEq y x)) := by
  unfold i_areDeps
  simp only [Prod.eta, i_IdsOk_eq h, containsId_eq h, Option.bind_some, gbs]
  cases idsOkB l <;> rfl
theorem i_leadOk_eq {x : D_Lead} (ho : Ok.ok x) : i_leadOk x = some (leadOkB x) := by
  have hd : x.2.2.2.2.1.length ≤ 9223372036854775807 := ho.2.2.2.2.1.1
  have hf : x.2.2.2.2.2.1.length ≤ 9223372036854775807 := ho.2.2.2.2.2.1.1
  unfold i_leadOk leadOkB
  rw [nodes_loop (l := x.2.2.2.2.2.1) (some false) (some (idOkB x.1 && decide (0 ≤ x.2.1 ∧ x.2.1 ≤ 600) && decide (1 ≤ x.2.2.1 ∧ x.2.2.1 ≤ 3) && decide (0 ≤ x.2.2.2.1 ∧ x.2.2.2.1 ≤ 60) && (idsOkB x.2.2.2.2.1 && !(x.2.2.2.2.1.any fun y => idEq y x.1)))) hf]
  · cases nodesOk x.2.2.2.2.2.1 with
    | true => simp only [if_true, Bool.and_true, Bool.and_assoc]
    | false => simp
  · intro k y hy
    simp only [lt_dec (List.getElem?_eq_some_iff.1 hy).1, cond_true, idx_nat, hy, Option.bind_some, isRep_eq]
  · simp only [ge_dec, cond_false, Prod.eta, i_idOk_eq, within_eq, i_areDeps_eq hd, Option.bind_some, gbs]
    generalize (idsOkB x.2.2.2.2.1 && !(x.2.2.2.2.1.any fun y => idEq y x.1)) = b5
    generalize decide (0 ≤ x.2.2.2.1 ∧ x.2.2.2.1 ≤ 60) = b4
    generalize decide (1 ≤ x.2.2.1 ∧ x.2.2.1 ≤ 3) = b3
    generalize decide (0 ≤ x.2.1 ∧ x.2.1 ≤ 600) = b2
    generalize idOkB x.1 = b1
    cases b1 <;> cases b2 <;> cases b3 <;> cases b4 <;> cases b5 <;> rfl
theorem s_l9At_eq {d : D_ENode} {x : D_Id} (h : d.2.2.2.length ≤ 9223372036854775807) : s_l9At d x = some (firstI (fun y : D_Lead => idEq y.1 x) d.2.2.2) := by
  unfold s_l9At
  rw [whileP_find (fun y : D_Lead => idEq y.1 x) some h]
  · intro k y hy
    simp only [lt_dec (List.getElem?_eq_some_iff.1 hy).1, cond_true, idx_nat, hy, Option.bind_some]
    show cond (idEq y.1 x) _ _ = _
    cases idEq y.1 x <;> rfl
  · simp only [ge_dec]; rfl
theorem i_lead_eq {d : D_ENode} {x : D_Id} (h : d.2.2.2.length ≤ 9223372036854775807) : i_ENode_lead d x = some (firstI (fun y : D_Lead => idEq y.1 x) d.2.2.2) := by
  unfold i_ENode_lead sl_IndexFunc_implLeadimplLead i_ENode_lead_c1
  rw [whileP_find (fun y : D_Lead => idEq y.1 x) some h]
  · rfl
  · intro k y hy
    simp only [lt_dec (List.getElem?_eq_some_iff.1 hy).1, cond_true, idx_nat, hy, Option.bind_some]
    show cond (idEq y.1 x) _ _ = _
    cases idEq y.1 x <;> rfl
  · simp only [ge_dec]; rfl
noncomputable def leadAt (l : List D_Lead) (k : Nat) : Bool := match l[k]? with
  | none => false
  | some x => leadOkB x && decide (firstI (fun y : D_Lead => idEq y.1 x.1) l = (k : Int))
noncomputable def nodeOkB (d : D_ENode) : Bool := decide (0 ≤ d.1 ∧ d.1 < 3) && decide (1 ≤ d.2.1 ∧ d.2.1 ≤ 7) && instsOkB d.2.2.1 && decide (d.2.2.2.length ≤ 8) && (d.2.2.1.all fun x => !(decide (x.1.1 = d.1) && decide (d.2.1 ≤ x.1.2))) && (List.range d.2.2.2.length).all (leadAt d.2.2.2)
theorem s_ENodeOk_eq {d : D_ENode} (ho : Ok.ok d) : s_ENodeOk d = some (nodeOkB d) := by
  have hi : Ok.ok d.2.2.1 := ho.2.2.1
  have hil : d.2.2.1.length ≤ 9223372036854775807 := ho.2.2.1.1
  have hll : d.2.2.2.length ≤ 9223372036854775807 := ho.2.2.2.1
  have hin : (whileP (fun s12 : Int => cond (decide (s12 < (d.2.2.2.length : Int))) (Option.bind (idx d.2.2.2 s12) (fun y14 => Option.bind (s_l9Lead y14) (fun y15 => gb (!(!y15)) (idx d.2.2.2 s12) (fun y16 => gb (!(!y15)) (s_l9At d y16.1) (fun y17 => cond ((!y15) || (!decide (y17 = s12))) (Option.map .inr (some false)) (some (.inl (IntKind.wrap .i64 (s12 + 1))))))))) (Option.map .inr (some true))) 0 : Option Bool) = if (List.range d.2.2.2.length).all (leadAt d.2.2.2) then some true else some false := by
    refine whileP_all (n := d.2.2.2.length) (leadAt d.2.2.2) (some false) (some true) ?_ ?_
    · intro k hk
      have hx : d.2.2.2[k]? = some d.2.2.2[k] := List.getElem?_eq_getElem hk
      generalize d.2.2.2[k] = x at hx
      have hox : Ok.ok x := ho.2.2.2.2 x (List.mem_of_getElem? hx)
      simp only [lt_dec hk, cond_true, idx_nat, hx, Option.bind_some, s_l9Lead_eq hox, s_l9At_eq hll, wrap_succ (show k < 9223372036854775807 by omega)]
      unfold leadAt
      simp only [hx]
      cases leadOkB x with
      | false => rfl
      | true =>
        simp only [Bool.not_true, Bool.not_false, gb, Option.bind_some, Bool.true_and, Bool.false_or]
        cases decide (firstI (fun y : D_Lead => idEq y.1 x.1) d.2.2.2 = (k : Int)) <;> rfl
    · simp only [ge_dec]; rfl
  unfold s_ENodeOk nodeOkB
  simp only [Prod.eta]
  rw [hin, each_loop (l := d.2.2.1) (p := fun x => !(decide (x.1.1 = d.1) && decide (d.2.1 ≤ x.1.2))) (no := some false) (yes := if (List.range d.2.2.2.length).all (leadAt d.2.2.2) then some true else some false) hil]
  · have h8 : decide (8 < (d.2.2.2.length : Int)) = !decide (d.2.2.2.length ≤ 8) := by rw [Bool.eq_iff_iff]; simp; omega
    simp only [l9Node_eq, l1In_eq, s_InstsOk_eq hi, Option.bind_some, h8]
    generalize (List.range d.2.2.2.length).all (leadAt d.2.2.2) = b6
    generalize (d.2.2.1.all fun x => !(decide (x.1.1 = d.1) && decide (d.2.1 ≤ x.1.2))) = b5
    generalize decide (d.2.2.2.length ≤ 8) = b4
    generalize instsOkB d.2.2.1 = b3
    generalize decide (1 ≤ d.2.1 ∧ d.2.1 ≤ 7) = b2
    generalize decide (0 ≤ d.1 ∧ d.1 < 3) = b1
    cases b1
    · rfl
    cases b2
    · rfl
    cases b3
    · rfl
    cases b4
    · rfl
    cases b5
    · rfl
    cases b6 <;> rfl
  · intro k x hx
    simp only [lt_dec (List.getElem?_eq_some_iff.1 hx).1, cond_true, idx_nat, hx, Option.bind_some]
    cases h1 : decide (x.1.1 = d.1) <;> cases h2 : decide (d.2.1 ≤ x.1.2) <;> simp [gb, h2]
  · simp only [ge_dec]; rfl
theorem i_ENodeOk_eq {d : D_ENode} (ho : Ok.ok d) : i_ENodeOk d = some (nodeOkB d) := by
  have hi : Ok.ok d.2.2.1 := ho.2.2.1
  have hil : d.2.2.1.length ≤ 9223372036854775807 := ho.2.2.1.1
  have hll : d.2.2.2.length ≤ 9223372036854775807 := ho.2.2.2.1
  have hin : (whileP (fun s12 : Int => cond (decide (s12 < (d.2.2.2.length : Int))) (Option.bind (idx d.2.2.2 s12) (fun y14 => Option.bind (i_leadOk y14) (fun y15 => gb (!(!y15)) (i_ENode_lead d y14.1) (fun y16 => cond ((!y15) || (!decide (y16 = s12))) (Option.map .inr (some false)) (some (.inl (IntKind.wrap .i64 (s12 + 1)))))))) (Option.map .inr (some true))) 0 : Option Bool) = if (List.range d.2.2.2.length).all (leadAt d.2.2.2) then some true else some false := by
    refine whileP_all (n := d.2.2.2.length) (leadAt d.2.2.2) (some false) (some true) ?_ ?_
    · intro k hk
      have hx : d.2.2.2[k]? = some d.2.2.2[k] := List.getElem?_eq_getElem hk
      generalize d.2.2.2[k] = x at hx
      have hox : Ok.ok x := ho.2.2.2.2 x (List.mem_of_getElem? hx)
      simp only [lt_dec hk, cond_true, idx_nat, hx, Option.bind_some, i_leadOk_eq hox, i_lead_eq hll, wrap_succ (show k < 9223372036854775807 by omega)]
      unfold leadAt
      simp only [hx]
      cases leadOkB x with
      | false => rfl
      | true =>
        simp only [Bool.not_true, Bool.not_false, gb, Option.bind_some, Bool.true_and, Bool.false_or]
        cases decide (firstI (fun y : D_Lead => idEq y.1 x.1) d.2.2.2 = (k : Int)) <;> rfl
    · simp only [ge_dec]; rfl
  unfold i_ENodeOk nodeOkB
  simp only [Prod.eta]
  rw [hin, each_loop (l := d.2.2.1) (p := fun x => !(decide (x.1.1 = d.1) && decide (d.2.1 ≤ x.1.2))) (no := some false) (yes := if (List.range d.2.2.2.length).all (leadAt d.2.2.2) then some true else some false) hil]
  · have h8 : decide (8 < (d.2.2.2.length : Int)) = !decide (d.2.2.2.length ≤ 8) := by rw [Bool.eq_iff_iff]; simp; omega
    simp only [isRep_eq, within_eq, i_InstsOk_eq hi, Option.bind_some, h8]
    generalize (List.range d.2.2.2.length).all (leadAt d.2.2.2) = b6
    generalize (d.2.2.1.all fun x => !(decide (x.1.1 = d.1) && decide (d.2.1 ≤ x.1.2))) = b5
    generalize decide (d.2.2.2.length ≤ 8) = b4
    generalize instsOkB d.2.2.1 = b3
    generalize decide (1 ≤ d.2.1 ∧ d.2.1 ≤ 7) = b2
    generalize decide (0 ≤ d.1 ∧ d.1 < 3) = b1
    cases b1
    · rfl
    cases b2
    · rfl
    cases b3
    · rfl
    cases b4
    · rfl
    cases b5
    · rfl
    cases b6 <;> rfl
  · intro k x hx
    simp only [lt_dec (List.getElem?_eq_some_iff.1 hx).1, cond_true, idx_nat, hx, Option.bind_some, i_ENode_unknown]
    cases h1 : decide (x.1.1 = d.1) <;> cases h2 : decide (d.2.1 ≤ x.1.2) <;> simp
  · simp only [ge_dec]; rfl
/-! Copies -/
def smallI (x : D_Inst) : Prop := x.2.2.2.2.1.2.2.2.2.2.2.2.length ≤ 1048576 ∧ x.2.2.2.2.2.2.1.length ≤ 1048576
theorem s_l4Copy_eq {c : D_Cmd} (h : c.2.2.2.2.2.2.2.length ≤ 1048576) : s_l4Copy c = some c := by
  unfold s_l4Copy
  simp only [Option.bind_some]
  rw [appP_ok (by simp; omega)]; rfl
theorem s_l8Copy_eq {x : D_Inst} (h : smallI x) : s_l8Copy x = some x := by
  unfold s_l8Copy
  simp only [Prod.eta, s_l4Copy_eq h.1, Option.bind_some]
  have := h.2
  rw [appP_ok (by simp; omega)]; rfl
theorem copyTexts_eq {l : List ByteArray} (h : l.length ≤ 4294967296) : i_copyTexts l = some l := by
  unfold i_copyTexts
  rw [appP_ok (by simpa using h)]; rfl
theorem i_copyCmd_eq {c : D_Cmd} (h : c.2.2.2.2.2.2.2.length ≤ 1048576) : i_copyCmd c = some c := by
  unfold i_copyCmd
  rw [copyTexts_eq (by omega)]; rfl
theorem i_copyIds_eq {l : List D_Id} (h : l.length ≤ 4294967296) : i_copyIds l = some l := by
  unfold i_copyIds
  rw [appP_ok (by simpa using h)]; rfl
theorem i_copyInst_eq {x : D_Inst} (h : smallI x) : i_copyInst x = some x := by
  unfold i_copyInst
  have := h.2
  simp only [Prod.eta, i_copyCmd_eq h.1, Option.bind_some, i_copyIds_eq (show x.2.2.2.2.2.2.1.length ≤ 4294967296 by omega)]
end Go.Proofs.SL
/- from PDk.lean -/
namespace Go.Proofs.SL
open Go
theorem whileP_is {σ α : Type} {f : σ → Option (σ ⊕ α)} {r : α} {s : σ} (I : σ → Prop) (μ : σ → Nat) (h : ∀ s, I s → (∃ s', f s = some (.inl s') ∧ I s' ∧ μ s' < μ s) ∨ f s = some (.inr r)) (hs : I s) : whileP f s = some r := by
  obtain ⟨a, ha, rfl⟩ := whileP_rule I μ (· = r) (fun s hs => (h s hs).imp id fun h => ⟨r, h, rfl⟩) s hs
  exact ha
end Go.Proofs.SL
/- from PRb.lean -/
namespace Go.Proofs.SL
open Go
theorem whileP_inl {σ σ' α : Type} {f : σ → Option (σ ⊕ (σ' ⊕ α))} (I : σ → Prop) (μ : σ → Nat) (P : σ' → Prop)
    (h : ∀ s, I s → (∃ s', f s = some (.inl s') ∧ I s' ∧ μ s' < μ s) ∨ ∃ s', f s = some (.inr (.inl s')) ∧ P s') (s : σ) (hs : I s) : ∃ s', whileP f s = some (.inl s') ∧ P s' := by
  obtain ⟨r, h1, s', h2, h3⟩ := whileP_rule I μ (fun r : σ' ⊕ α => ∃ s', r = .inl s' ∧ P s') (fun s hi => by
    rcases h s hi with h | ⟨s', h1, h2⟩
    · exact .inl h
    · exact .inr ⟨_, h1, _, rfl, h2⟩) s hs
  exact ⟨s', by rw [h1, h2], h3⟩
end Go.Proofs.SL
/- from PRa.lean -/
namespace Go.Proofs.SL
open Go
structure MB (m : D_Cmd) : Prop where
  k : inR m.1
  cl : inR m.2.1
  no : inR m.2.2.1
  s1 : m.2.2.2.1.size ≤ 9
  s2 : m.2.2.2.2.1.size ≤ 9
  s3 : m.2.2.2.2.2.1.size ≤ 9
  n : inR m.2.2.2.2.2.2.1
  len : m.2.2.2.2.2.2.2.length ≤ 5
  ch : ∀ x, x ∈ m.2.2.2.2.2.2.2 → x.size ≤ 9
theorem MB.ok {m : D_Cmd} (h : MB m) : Ok.ok m :=
  ⟨h.k, h.cl, h.no, by have := h.s1; show _ ≤ _; omega, by have := h.s2; show _ ≤ _; omega, by have := h.s3; show _ ≤ _; omega, h.n, by have := h.len; omega, fun x hx => by have := h.ch x hx; show x.size ≤ _; omega⟩
end Go.Proofs.SL
/- from PLg.lean -/
namespace Go.Proofs.SL
open Go
end Go.Proofs.SL
namespace Go.Proofs.SL
open Go
namespace Gr
variable {ι : Type}
/-- Who is reached in one step or more. -/
inductive Rch (dp : ι → List ι) : ι → ι → Prop
  | one {x y : ι} : y ∈ dp x → Rch dp x y
  | cons {x y z : ι} : y ∈ dp x → Rch dp y z → Rch dp x z
theorem Rch.trans {dp : ι → List ι} {x y z : ι} (h : Rch dp x y) (k : Rch dp y z) : Rch dp x z := by
  induction h with
  | one h => exact .cons h k
  | cons h _ ih => exact .cons h (ih k)
theorem Rch.snoc {dp : ι → List ι} {x y z : ι} (h : Rch dp x y) (k : z ∈ dp y) : Rch dp x z := h.trans (.one k)
theorem Rch.closed {dp : ι → List ι} {out : List ι} (hc : ∀ z, z ∈ out → ∀ y, y ∈ dp z → y ∈ out) {x y : ι} (h : Rch dp x y) (hx : ∀ y, y ∈ dp x → y ∈ out) : y ∈ out := by
  induction h with
  | one h => exact hx _ h
  | cons h _ ih => exact ih (hc _ (hx _ h))
/-! Parts -/
section
variable [DecidableEq ι]
/-- The parts of those that are ready, in the order of their first ones. -/
def comps (rdy : ι → Bool) (part : ι → List ι) : List (List ι) → List ι → List (List ι)
  | _, [] => []
  | S, x :: xs => if rdy x && !(S.any fun p => decide (x ∈ p)) then part x :: comps rdy part (part x :: S) xs else comps rdy part S xs
structure PartOk (rdy : ι → Bool) (part : ι → List ι) (ids : List ι) : Prop where
  self : ∀ x, x ∈ ids → rdy x = true → x ∈ part x
  mem : ∀ x, x ∈ ids → rdy x = true → ∀ y, y ∈ part x → y ∈ ids ∧ rdy y = true ∧ part y = part x
theorem comps_mem {rdy : ι → Bool} {part : ι → List ι} : ∀ (xs : List ι) (S : List (List ι)) (p : List ι), p ∈ comps rdy part S xs → ∃ x, x ∈ xs ∧ rdy x = true ∧ p = part x ∧ ∀ q, q ∈ S → ¬ x ∈ q
  | [], _, p, h => by cases h
  | x :: xs, S, p, h => by
    unfold comps at h
    split at h
    · rename_i hc
      rw [Bool.and_eq_true, Bool.not_eq_true'] at hc
      rcases List.mem_cons.1 h with rfl | h
      · refine ⟨x, List.mem_cons_self .., hc.1, rfl, fun q hq hx => ?_⟩
        have := hc.2
        rw [List.any_eq_false] at this
        exact this q hq (decide_eq_true hx)
      · obtain ⟨y, h1, h2, h3, h4⟩ := comps_mem xs _ p h
        exact ⟨y, List.mem_cons_of_mem _ h1, h2, h3, fun q hq => h4 q (List.mem_cons_of_mem _ hq)⟩
    · obtain ⟨y, h1, h2, h3, h4⟩ := comps_mem xs S p h
      exact ⟨y, List.mem_cons_of_mem _ h1, h2, h3, h4⟩
theorem comps_nodup {rdy : ι → Bool} {part : ι → List ι} {ids : List ι} (hk : PartOk rdy part ids) : ∀ (xs : List ι) (S : List (List ι)), (∀ x, x ∈ xs → x ∈ ids) → (comps rdy part S xs).Nodup
  | [], _, _ => List.nodup_nil
  | x :: xs, S, hs => by
    unfold comps
    split
    · rename_i hc
      rw [Bool.and_eq_true] at hc
      refine List.nodup_cons.2 ⟨fun hm => ?_, comps_nodup hk xs _ fun y hy => hs y (List.mem_cons_of_mem _ hy)⟩
      obtain ⟨y, h1, h2, h3, h4⟩ := comps_mem xs _ _ hm
      have hy := hk.self y (hs y (List.mem_cons_of_mem _ h1)) h2
      rw [← h3] at hy
      exact h4 _ (List.mem_cons_self ..) hy
    · exact comps_nodup hk xs S fun y hy => hs y (List.mem_cons_of_mem _ hy)
/-- The first that may go on, among those that are left, and among all. -/
theorem find_first {rdy : ι → Bool} {part : ι → List ι} {ids : List ι} (hk : PartOk rdy part ids) {out : List (List ι)} (hout : ∀ p, p ∈ out → ∃ z, z ∈ ids ∧ rdy z = true ∧ p = part z) (free : List ι → Bool) :
    ∀ (xs : List ι) (S : List (List ι)), (∀ x, x ∈ xs → x ∈ ids) → (∀ p, p ∈ S → (∃ z, z ∈ ids ∧ rdy z = true ∧ p = part z) ∧ (p ∈ out ∨ free p = false)) →
      (xs.find? fun x => !decide (x ∈ out.flatten) && rdy x && free (part x)).map part = ((comps rdy part S xs).filter fun p => !decide (p ∈ out)).find? free
  | [], _, _, _ => rfl
  | x :: xs, S, hs, hS => by
    have hxi := hs x (List.mem_cons_self ..)
    have hs' : ∀ y, y ∈ xs → y ∈ ids := fun y hy => hs y (List.mem_cons_of_mem _ hy)
    have told : rdy x = true → (x ∈ out.flatten ↔ part x ∈ out) := fun hr => by
      rw [List.mem_flatten]
      constructor
      · rintro ⟨p, hp, hx⟩
        obtain ⟨z, z1, z2, rfl⟩ := hout p hp
        rw [(hk.mem z z1 z2 x hx).2.2]; exact hp
      · intro hp
        exact ⟨_, hp, hk.self x hxi hr⟩
    unfold comps
    cases hr : rdy x with
    | false =>
      rw [if_neg (by simp), List.find?_cons_of_neg (by simp [hr])]
      exact find_first hk hout free xs S hs' hS
    | true =>
      have ht := told hr
      by_cases hkn : (S.any fun p => decide (x ∈ p)) = true
      · rw [if_neg (by simp [hkn])]
        obtain ⟨p, hp, hx⟩ := List.any_eq_true.1 hkn
        have hx : x ∈ p := of_decide_eq_true hx
        obtain ⟨⟨z, z1, z2, rfl⟩, hz⟩ := hS p hp
        have e := (hk.mem z z1 z2 x hx).2.2
        rw [List.find?_cons_of_neg]
        · exact find_first hk hout free xs S hs' hS
        · rcases hz with hz | hz
          · rw [← e] at hz; simp [ht.2 hz]
          · rw [← e] at hz; simp [hz]
      · have hkn : (S.any fun p => decide (x ∈ p)) = false := by simpa using hkn
        rw [if_pos (by simp [hkn])]
        have hS' : (part x ∈ out ∨ free (part x) = false) → ∀ p, p ∈ part x :: S → (∃ z, z ∈ ids ∧ rdy z = true ∧ p = part z) ∧ (p ∈ out ∨ free p = false) := fun h p hp => by
          rcases List.mem_cons.1 hp with rfl | hp
          · exact ⟨⟨x, hxi, hr, rfl⟩, h⟩
          · exact hS p hp
        by_cases ho : part x ∈ out
        · rw [List.filter_cons_of_neg (by simp [ho]), List.find?_cons_of_neg (by simp [ht.2 ho])]
          exact find_first hk hout free xs _ hs' (hS' (.inl ho))
        · rw [List.filter_cons_of_pos (by simp [ho])]
          have hno : ¬ x ∈ out.flatten := fun h => ho (ht.1 h)
          cases hf : free (part x) with
          | true => rw [List.find?_cons_of_pos (by simp [hno, hr, hf]), List.find?_cons_of_pos hf]; rfl
          | false =>
            rw [List.find?_cons_of_neg (by simp [hf]), List.find?_cons_of_neg (by simp [hf])]
            exact find_first hk hout free xs _ hs' (hS' (.inr hf))
theorem erase_filter {L out : List (List ι)} (hn : L.Nodup) {k : Nat} {p : List ι} (hk : (L.filter fun p => !decide (p ∈ out))[k]? = some p) :
    (L.filter fun p => !decide (p ∈ out)).eraseIdx k = L.filter fun q => !decide (q ∈ out ++ [p]) := by
  have hn2 : (L.filter fun p => !decide (p ∈ out)).Nodup := hn.filter _
  have e : (L.filter fun q => !decide (q ∈ out ++ [p])) = (L.filter fun p => !decide (p ∈ out)).filter fun q => !decide (q = p) := by
    rw [List.filter_filter]
    refine List.filter_congr fun q _ => ?_
    rw [Bool.eq_iff_iff]
    simp only [List.mem_append, List.mem_singleton, Bool.not_eq_true', decide_eq_false_iff_not, Bool.and_eq_true, not_or]
    exact And.comm
  rw [e]
  generalize (L.filter fun p => !decide (p ∈ out)) = M at hn2 hk
  clear e
  induction M generalizing k with
  | nil => simp at hk
  | cons a M ih =>
    obtain ⟨n1, n2⟩ := List.nodup_cons.1 hn2
    cases k with
    | zero =>
      simp only [List.getElem?_cons_zero, Option.some.injEq] at hk
      subst hk
      rw [List.eraseIdx_cons_zero, List.filter_cons_of_neg (by simp), List.filter_eq_self.2 fun q hq => ?_]
      simp only [Bool.not_eq_true', decide_eq_false_iff_not]
      intro e; rw [e] at hq; exact n1 hq
    | succ k =>
      rw [List.getElem?_cons_succ] at hk
      rw [List.eraseIdx_cons_succ, ih n2 hk, List.filter_cons_of_pos]
      simp only [Bool.not_eq_true', decide_eq_false_iff_not]
      intro e; rw [e] at n1; exact n1 (List.mem_of_getElem? hk)
end
end Gr
end Go.Proofs.SL
