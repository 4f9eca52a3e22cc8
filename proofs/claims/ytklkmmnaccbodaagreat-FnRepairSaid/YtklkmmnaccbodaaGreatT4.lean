/- The texts of the proof, part 4: the base, walks of functions, plain Lean. -/
import Derived.Test.YtklkmmnaccbodaaGreatT3
import Derived.Test.YtklkmmnaccbodaaGreatT2
namespace Go.Proofs.SL
open Go
set_option maxHeartbeats 2000000
abbrev D_Copy := ByteArray × Int × Int
instance fn62 : FnF Tryz.prog 62 := ⟨⟨_, Tryz.func62, by kernel_rfl, rfl⟩⟩
instance fn55 : FnF Tryz.prog 55 := ⟨⟨_, Tryz.func55, by kernel_rfl, rfl⟩⟩
instance fn63 : FnF Tryz.prog 63 := ⟨⟨_, Tryz.func63, by kernel_rfl, rfl⟩⟩
instance fn30 : FnF Tryz.prog 30 := ⟨⟨_, Tryz.func30, by kernel_rfl, rfl⟩⟩
instance el46 : ElF Tryz.prog 46 4 1 1 [.bool false] := ⟨by kernel_rfl⟩
instance fn26 : FnF Tryz.prog 26 := ⟨⟨_, Tryz.func26, by kernel_rfl, rfl⟩⟩
instance fn27 : FnF Tryz.prog 27 := ⟨⟨_, Tryz.func27, by kernel_rfl, rfl⟩⟩
instance fn28 : FnF Tryz.prog 28 := ⟨⟨_, Tryz.func28, by kernel_rfl, rfl⟩⟩
instance fn47 : FnF Tryz.prog 47 := ⟨⟨_, Tryz.func47, by kernel_rfl, rfl⟩⟩
instance fn37 : FnF Tryz.prog 37 := ⟨⟨_, Tryz.func37, by kernel_rfl, rfl⟩⟩
instance fn42 : FnF Tryz.prog 42 := ⟨⟨_, Tryz.func42, by kernel_rfl, rfl⟩⟩
instance fn13 : FnF Tryz.prog 13 := ⟨⟨_, Tryz.func13, by kernel_rfl, rfl⟩⟩
instance one4 : OneF Tryz.prog 4 := ⟨by kernel_rfl⟩
instance el49 : ElF Tryz.prog 49 52 3 32 [.string ByteArray.empty, .int .i64 0, .int .i64 0] := ⟨by kernel_rfl⟩
instance fn50 : FnF Tryz.prog 50 := ⟨⟨_, Tryz.func50, by kernel_rfl, rfl⟩⟩
instance bld52 : BldF Tryz.prog 52 [(0, 1), (1, 1), (2, 1)] [.string ByteArray.empty, .int .i64 0, .int .i64 0] := ⟨by kernel_rfl⟩
instance fn20 : FnF Tryz.prog 20 := ⟨⟨_, Tryz.func20, by kernel_rfl, rfl⟩⟩
noncomputable def s_l18Chunk (a0 : D_l1Cur) : Option (ByteArray × D_l1Cur) :=
  Option.bind (s_l1Once (a0.1, a0.2.1, a0.2.2) 25) (fun y1 => cond y1.1 (Option.bind (s_l1Text (y1.2.1, y1.2.2.1, y1.2.2.2) 9) (fun y3 => some (y3.1, (y3.2.1, y3.2.2.1, y3.2.2.2)))) (Option.bind (s_l1Below (y1.2.1, y1.2.2.1, y1.2.2.2) 5) (fun y4 => Option.bind (u8P (IntKind.wrap .u8 y4.1)) (fun y5 => Option.bind (some ([y5] : List UInt8)) (fun y6 => Option.bind (s_Short (strP y6)) (fun y8 => some (y8, (y4.2.1, y4.2.2.1, y4.2.2.2))))))))
theorem s_l18Chunk_walk (w : World) (b0_ : Nat) (a0 : T_l1Cur) (h0_0 : GT.rd w (fps [blk b0_ (GT.cells a0) 87]) a0.1) (r : ByteArray × D_l1Cur) (hp : s_l18Chunk (GT.dat a0) = some r) : Spec Tryz.prog 55 [Value.pointer (some ⟨b0_, 0, none⟩)].toArray w [blk b0_ (GT.cells a0) 87] (fun v M => ∃ (x0 : ByteArray) (y0 : T_l1Cur), v = .string x0 ∧ (GT.dat x0, GT.dat y0) = r ∧ M = [blk b0_ (GT.cells y0) 87] ∧ y0.1 = a0.1) := by
  obtain ⟨a0_1, a0_2, a0_3⟩ := a0
  change Spec _ _ ([Value.pointer (some ⟨b0_, 0, none⟩)] : List Value).toArray w _ _
  refine Spec.intro Tryz.func55 rfl Tryz.ntmps55 rfl ?_
  unfold s_l18Chunk at hp
  replace hp := dd hp
  refine s8 ?_
  replace hp := ba hp; obtain ⟨y1, hy1, hp⟩ := hp
  refine L_callM [blk b0_ _ _] _ rfl fn29.h rfl pc (by exact fun w hw => s_l1Once_walk w b0_ (a0_1, a0_2, a0_3) 25 ((RdX.old h0_0) w hw) _ hy1) ?_
  rintro _ _ ⟨y1x0, ⟨y1y0_1, y1y0_2, y1y0_3⟩, rfl, rfl, rfl, hey1_0⟩
  obtain rfl : a0_1 = y1y0_1 := hey1_0.symm
  refine sc ?_
  replace hp := dd hp
  refine s1 ?_
  refine kp [0, 4] ?_
  refine W_cond rfl (fun hc2 => ?_) (fun hc2 => ?_)
  · replace hp := cond_t hc2 hp
    refine s3 ?_
    replace hp := ba hp; obtain ⟨y3, hy3, hp⟩ := hp
    refine L_callM [blk b0_ _ _] _ rfl fn75.h rfl pc (by exact fun w hw => s_l1Text_walk w b0_ (a0_1, y1y0_2, y1y0_3) 9 ((RdX.old h0_0) w hw) _ hy3) ?_
    rintro _ _ ⟨y3x0, ⟨y3y0_1, y3y0_2, y3y0_3⟩, rfl, rfl, rfl, hey3_0⟩
    obtain rfl : a0_1 = y3y0_1 := hey3_0.symm
    refine sc ?_
    replace hp := dd hp
    refine s2 ?_
    obtain rfl := Option.some.inj hp
    refine s1 ?_
    refine res1 rfl (ResOK.tmp rfl) ⟨y3x0, (a0_1, y3y0_2, y3y0_3), rfl, rfl, rfl, rfl⟩ ms
  · replace hp := cond_f hc2 hp
    refine s4 ?_
    replace hp := ba hp; obtain ⟨y4, hy4, hp⟩ := hp
    refine L_callM [blk b0_ _ _] _ rfl fn56.h rfl pc (by exact fun w hw => s_l1Below_walk w b0_ (a0_1, y1y0_2, y1y0_3) 5 ((RdX.old h0_0) w hw) _ hy4) ?_
    rintro _ _ ⟨y4x0, ⟨y4y0_1, y4y0_2, y4y0_3⟩, rfl, rfl, rfl, hey4_0⟩
    obtain rfl : a0_1 = y4y0_1 := hey4_0.symm
    refine sc ?_
    replace hp := dd hp
    refine L_convInt rfl rfl und5.h (by rw [und3.h]; rfl) ?_
    replace hp := ba hp; obtain ⟨y5, hy5, hp⟩ := hp
    have ey5 := u8P_some hy5
    try simp only [dat_u8] at ey5
    try simp only [ey5]
    replace hp := ba hp; obtain ⟨y6, hy6, hp⟩ := hp
    refine L_bsN ([y5] : List UInt8) (xs := [(0, .tmp 9)]) rfl rfl el22.h rfl rfl rfl rfl rfl rfl rfl hy6 (fun X7 hdX7 => ?_)
    subst hdX7
    refine L_toStr (X := X7) rfl rfl und22.h und5.h und9.h (RdT.tree mm) ?_
    replace hp := ba hp; obtain ⟨y8, hy8, hp⟩ := hp
    refine L_callX rfl fn76.h rfl (by exact fun w hw => s_Short_walk w (strP (GT.dat X7))  _ hy8) ?_
    refine s2 ?_
    obtain rfl := Option.some.inj hp
    refine s1 ?_
    refine res1 rfl (ResOK.tmp rfl) ⟨y8, (a0_1, y4y0_2, y4y0_3), rfl, rfl, rfl, rfl⟩ ms
noncomputable def s_l18Some (a0 : D_l1Cur) : Option (D_Ups × D_l1Cur) :=
  Option.bind (s_l1Below (a0.1, a0.2.1, a0.2.2) 16) (fun y1 => whileP (fun s2 : Int × Int × Int × Int × (List D_Up) => cond (decide (0 < s2.1)) (Option.bind (s_l1Below (y1.2.1, s2.2.1, s2.2.2.1) 6) (fun y4 => cond (decide (y4.1 = 0)) (Option.bind (s_UpNext (s2.2.2.2.1, s2.2.2.2.2)) (fun y6 => some (.inl ((IntKind.wrap .i64 (s2.1 - 1), y4.2.2.1, y4.2.2.2, y6.1.1, y6.1.2))))) (cond (decide (y4.1 = 1)) (Option.bind (s_l18Chunk (y4.2.1, y4.2.2.1, y4.2.2.2)) (fun y9 => Option.bind (s_l1Below (y9.2.1, y9.2.2.1, y9.2.2.2) 3) (fun y11 => Option.bind (s_UpLost (s2.2.2.2.1, s2.2.2.2.2) y9.1 y11.1) (fun y13 => some (.inl ((IntKind.wrap .i64 (s2.1 - 1), y11.2.2.1, y11.2.2.2, y13.1.1, y13.1.2))))))) (Option.bind (s_l18Chunk (y4.2.1, y4.2.2.1, y4.2.2.2)) (fun y15 => Option.bind (s_l1Below (y15.2.1, y15.2.2.1, y15.2.2.2) 3) (fun y17 => Option.bind (s_UpAck (s2.2.2.2.1, s2.2.2.2.2) y15.1 y17.1) (fun y19 => some (.inl ((IntKind.wrap .i64 (s2.1 - 1), y17.2.2.1, y17.2.2.2, y19.1.1, y19.1.2)))))))))) (Option.map .inr (Option.bind (s_l1Once (y1.2.1, s2.2.1, s2.2.2.1) 10) (fun y21 => cond y21.1 (Option.bind (s_l1Below (y21.2.1, y21.2.2.1, y21.2.2.2) 3) (fun y23 => cond (decide (y23.1 = 0)) (Option.bind (some ([(-1), 0, 1000, 1001] : List Int)) (fun y25 => Option.bind (s_l1PickInt (y23.2.1, y23.2.2.1, y23.2.2.2) y25) (fun y27 => some ((y27.1, s2.2.2.2.2), (y27.2.1, y27.2.2.1, y27.2.2.2))))) (cond (decide (y23.1 = 1)) (Option.bind (s_l18Chunk (y23.2.1, y23.2.2.1, y23.2.2.2)) (fun y29 => Option.bind (s_l1Below (y29.2.1, y29.2.2.1, y29.2.2.2) 4) (fun y30 => Option.bind (some ([y30.1] : List Int)) (fun y31 => Option.bind (appP s2.2.2.2.2 [(y29.1, y31, 0)]) (fun y34 => some ((s2.2.2.2.1, y34), (y30.2.1, y30.2.2.1, y30.2.2.2))))))) (cond (decide (0 < (s2.2.2.2.2.length : Int))) (Option.bind (some ([] : List Int)) (fun y37 => Option.bind (idx s2.2.2.2.2 0) (fun y38 => Option.bind (some (s2.2.2.2.2.set ((0 : Int).toNat) (y38.1, y37, y38.2.2))) (fun y39 => some ((s2.2.2.2.1, y39), (y23.2.1, y23.2.2.1, y23.2.2.2)))))) (some ((s2.2.2.2.1, s2.2.2.2.2), (y23.2.1, y23.2.2.1, y23.2.2.2))))))) (some ((s2.2.2.2.1, s2.2.2.2.2), (y21.2.1, y21.2.2.1, y21.2.2.2))))))) (y1.1, y1.2.2.1, y1.2.2.2, 0, ([] : List D_Up)))
theorem s_l18Some_walk (w : World) (b0_ : Nat) (a0 : T_l1Cur) (h0_0 : GT.rd w (fps [blk b0_ (GT.cells a0) 87]) a0.1) (r : D_Ups × D_l1Cur) (hp : s_l18Some (GT.dat a0) = some r) : Spec Tryz.prog 28 [Value.pointer (some ⟨b0_, 0, none⟩)].toArray w [blk b0_ (GT.cells a0) 87] (fun v M => ∃ (x0 : T_Ups) (y0 : T_l1Cur), v = .agg (GT.cells x0).toArray ∧ (GT.dat x0, GT.dat y0) = r ∧ M = [treeH x0, blk b0_ (GT.cells y0) 87] ∧ y0.1 = a0.1) := by
  obtain ⟨a0_1, a0_2, a0_3⟩ := a0
  change Spec _ _ ([Value.pointer (some ⟨b0_, 0, none⟩)] : List Value).toArray w _ _
  refine Spec.intro Tryz.func28 rfl Tryz.ntmps28 rfl ?_
  unfold s_l18Some at hp
  replace hp := dd hp
  refine s2 ?_
  refine al fun bk2 => ?_
  refine s3 ?_
  refine L_build (xs := []) (cs := [.int .i64 0, (TL.hdr (TL.nil T_Up 0))]) rfl rfl bld29.h rfl ?_
  refine al fun bk3 => ?_
  refine s6 ?_
  replace hp := ba hp; obtain ⟨y1, hy1, hp⟩ := hp
  refine L_callM [blk b0_ _ _] _ rfl fn56.h rfl pc (by exact fun w hw => s_l1Below_walk w b0_ (a0_1, a0_2, a0_3) 16 ((RdX.old h0_0) w hw) _ hy1) ?_
  rintro _ _ ⟨y1x0, ⟨y1y0_1, y1y0_2, y1y0_3⟩, rfl, rfl, rfl, hey1_0⟩
  obtain rfl : a0_1 = y1y0_1 := hey1_0.symm
  refine sc ?_
  replace hp := dd hp
  refine s3 ?_
  refine W_conv (M' := treeH (TL.nil T_Up 0) :: _) (fun w h => addNilT (τ := T_Up) 0 h) ?_
  refine W_while (σ := Int × Int × Int × Int × (TL T_Up)) GT.dat (fun ((v2_0, v2_1, v2_2, v2_3, v2_4) : Int × Int × Int × Int × (TL T_Up)) => [(4, .int .i64 v2_0)]) (fun ((v2_0, v2_1, v2_2, v2_3, v2_4) : Int × Int × Int × Int × (TL T_Up)) => [blk b0_ [(TL.hdr a0_1), .int .i64 v2_1, .int .i64 v2_2] 87, blk bk3 [.int .i64 v2_3, (TL.hdr v2_4)] 29, treeH v2_4]) [(0, _), (2, _), (3, _)] [blk bk2 _ _] (y1x0, y1y0_2, y1y0_3, 0, (TL.nil T_Up 0)) hp sb ms ?_
  clear hp
  rintro ⟨v2_0, v2_1, v2_2, v2_3, v2_4⟩ x2 hp hx2
  replace hp := dd hp
  refine kq [0, 2, 3, 4] ?_
  refine s6 ?_
  refine kp [0, 2, 3, 4, 15] ?_
  refine W_cond rfl (fun hc3 => ?_) (fun hc3 => ?_)
  · replace hp := cond_t hc3 hp
    refine s6 ?_
    replace hp := ba hp; obtain ⟨y4, hy4, hp⟩ := hp
    refine L_callM [blk b0_ _ _] _ rfl fn56.h rfl pc (by exact fun w hw => s_l1Below_walk w b0_ (a0_1, v2_1, v2_2) 6 ((RdX.old h0_0) w hw) _ hy4) ?_
    rintro _ _ ⟨y4x0, ⟨y4y0_1, y4y0_2, y4y0_3⟩, rfl, rfl, rfl, hey4_0⟩
    obtain rfl : a0_1 = y4y0_1 := hey4_0.symm
    refine sc ?_
    replace hp := dd hp
    refine s7 ?_
    refine kp [0, 2, 3, 4, 19, 30] ?_
    refine W_cond rfl (fun hc5 => ?_) (fun hc5 => ?_)
    · replace hp := cond_t hc5 hp
      refine s3 ?_
      replace hp := ba hp; obtain ⟨y6, hy6, hp⟩ := hp
      refine L_callR rfl fn62.h rfl (by exact fun w hw => s_UpNext_walk w (v2_3, v2_4) (RdT.now (RdT.pair RdT.int (RdT.tree mm)) hw) _ hy6) ?_
      rintro _ _ ⟨⟨y6x0_1, y6x0_2⟩, y6x1, rfl, rfl, rfl⟩
      refine sc ?_
      replace hp := dd hp
      refine xL ((y6x0_1, y6x0_2) : T_Ups) ?_
      refine s3 ?_
      refine al fun bk5 => ?_
      refine s12 ?_
      exact ⟨(IntKind.wrap .i64 (v2_0 - 1), y4y0_2, y4y0_3, y6x0_1, y6x0_2), sb, (.sub ms), some_eq hp⟩
    · replace hp := cond_f hc5 hp
      refine s5 ?_
      refine kp [0, 2, 3, 4, 38] ?_
      refine W_cond rfl (fun hc7 => ?_) (fun hc7 => ?_)
      · replace hp := cond_t hc7 hp
        refine s1 ?_
        refine W_AP [] 9 7 [.int .i64 0, .slice none 0 0] 29 11 mix rfl ?_
        refine AP_A [blk bk3 [.int .i64 v2_3, (TL.hdr v2_4)] 29] trivial ?_
        refine AP_take 0 rfl (PU_loadW rfl rfl (RdC.blk mm) (by exact agg29.h)) (by kernel_rfl) (by kernel_rfl) (by kernel_rfl) (by kernel_rfl) (by kernel_rfl) rfl rfl rfl ⟨mm, trivial⟩ ?_
        refine AP_take 1 rfl (PU_move rfl rfl) (by kernel_rfl) (by kernel_rfl) (by kernel_rfl) (by kernel_rfl) (by kernel_rfl) rfl rfl rfl ⟨mm, trivial⟩ ?_
        refine AP_take 3 rfl (PU_move rfl rfl) (by kernel_rfl) (by kernel_rfl) (by kernel_rfl) (by kernel_rfl) (by kernel_rfl) rfl rfl rfl ⟨mm, trivial⟩ ?_
        refine AP_step 2 rfl rfl (by first | exact .inl (by kernel_rfl) | exact .inr (by kernel_rfl)) (by kernel_rfl) rfl rfl rfl rfl rfl (fun l M => L_alloc rfl zero29.h (fun b => L_nil ⟨b, rfl, rfl⟩)) ⟨mm, trivial⟩ (fun fr8 => ?_)
        replace hp := ba hp; obtain ⟨y9, hy9, hp⟩ := hp
        refine L_callM [blk b0_ _ _] _ rfl fn55.h rfl pc (by exact fun w hw => s_l18Chunk_walk w b0_ (a0_1, y4y0_2, y4y0_3) ((RdX.old h0_0) w hw) _ hy9) ?_
        rintro _ _ ⟨y9x0, ⟨y9y0_1, y9y0_2, y9y0_3⟩, rfl, rfl, rfl, hey9_0⟩
        obtain rfl : a0_1 = y9y0_1 := hey9_0.symm
        refine sc ?_
        replace hp := dd hp
        refine L_nil ⟨_, pk, ⟨mm, trivial⟩, rfl, ?_⟩
        refine AP_step 4 rfl rfl (by first | exact .inl (by kernel_rfl) | exact .inr (by kernel_rfl)) (by kernel_rfl) rfl rfl rfl rfl rfl (fun l M => L_alloc rfl zero29.h (fun b => L_nil ⟨b, rfl, rfl⟩)) ⟨mm, trivial⟩ (fun fr10 => ?_)
        replace hp := ba hp; obtain ⟨y11, hy11, hp⟩ := hp
        refine L_callM [blk b0_ _ _] _ rfl fn56.h rfl pc (by exact fun w hw => s_l1Below_walk w b0_ (a0_1, y9y0_2, y9y0_3) 3 ((RdX.old h0_0) w hw) _ hy11) ?_
        rintro _ _ ⟨y11x0, ⟨y11y0_1, y11y0_2, y11y0_3⟩, rfl, rfl, rfl, hey11_0⟩
        obtain rfl : a0_1 = y11y0_1 := hey11_0.symm
        refine sc ?_
        replace hp := dd hp
        refine L_nil ⟨_, pk, ⟨mm, trivial⟩, rfl, ?_⟩
        refine AP_step 5 rfl rfl (by first | exact .inl (by kernel_rfl) | exact .inr (by kernel_rfl)) (by kernel_rfl) rfl rfl rfl rfl rfl (fun l M => L_alloc rfl zero29.h (fun b => L_nil ⟨b, rfl, rfl⟩)) ⟨mm, trivial⟩ (fun fr12 => ?_)
        replace hp := ba hp; obtain ⟨y13, hy13, hp⟩ := hp
        refine L_callR rfl fn63.h rfl (by exact fun w hw => s_UpLost_walk w (v2_3, v2_4) y9x0 y11x0 (RdT.now (RdT.pair RdT.int (RdT.tree mm)) hw) _ hy13) ?_
        rintro _ _ ⟨⟨y13x0_1, y13x0_2⟩, y13x1, rfl, rfl, rfl⟩
        refine sc ?_
        replace hp := dd hp
        refine xL ((y13x0_1, y13x0_2) : T_Ups) ?_
        refine L_nil ⟨_, pk, ⟨mm, trivial⟩, rfl, ?_⟩
        refine AP_take 6 rfl (PU_move rfl rfl) (by kernel_rfl) (by kernel_rfl) (by kernel_rfl) (by kernel_rfl) (by kernel_rfl) rfl rfl rfl ⟨mm, trivial⟩ ?_
        refine AP_take 7 rfl (PU_extract rfl rfl rfl) (by kernel_rfl) (by kernel_rfl) (by kernel_rfl) (by kernel_rfl) (by kernel_rfl) rfl rfl rfl ⟨mm, trivial⟩ ?_
        refine AP_take 8 rfl (PU_extract rfl rfl rfl) (by kernel_rfl) (by kernel_rfl) (by kernel_rfl) (by kernel_rfl) (by kernel_rfl) rfl rfl rfl ⟨mm, trivial⟩ ?_
        refine AP_end (by kernel_rfl) rfl rfl (fun l M => L_alloc rfl zero29.h (fun b => L_nil ⟨b, rfl, rfl⟩)) ⟨mm, trivial⟩ (fun bk7 => ?_)
        refine AH_one 10 rfl rfl (by kernel_rfl) ?_
        refine s1 ?_
        refine L_nil ⟨⟨mm, trivial⟩, ?_⟩
        refine AH_one 11 rfl rfl (by kernel_rfl) ?_
        refine s1 ?_
        refine L_nil ⟨⟨mm, trivial⟩, ?_⟩
        refine AH_done (by kernel_rfl) ?_
        refine s9 ?_
        exact ⟨(IntKind.wrap .i64 (v2_0 - 1), y11y0_2, y11y0_3, y13x0_1, y13x0_2), sb, (.sub ms), some_eq hp⟩
      · replace hp := cond_f hc7 hp
        refine s1 ?_
        refine W_AP [] 9 9 [.int .i64 0, .slice none 0 0] 29 11 mix rfl ?_
        refine AP_A [blk bk3 [.int .i64 v2_3, (TL.hdr v2_4)] 29] trivial ?_
        refine AP_take 0 rfl (PU_loadW rfl rfl (RdC.blk mm) (by exact agg29.h)) (by kernel_rfl) (by kernel_rfl) (by kernel_rfl) (by kernel_rfl) (by kernel_rfl) rfl rfl rfl ⟨mm, trivial⟩ ?_
        refine AP_take 1 rfl (PU_move rfl rfl) (by kernel_rfl) (by kernel_rfl) (by kernel_rfl) (by kernel_rfl) (by kernel_rfl) rfl rfl rfl ⟨mm, trivial⟩ ?_
        refine AP_take 3 rfl (PU_move rfl rfl) (by kernel_rfl) (by kernel_rfl) (by kernel_rfl) (by kernel_rfl) (by kernel_rfl) rfl rfl rfl ⟨mm, trivial⟩ ?_
        refine AP_step 2 rfl rfl (by first | exact .inl (by kernel_rfl) | exact .inr (by kernel_rfl)) (by kernel_rfl) rfl rfl rfl rfl rfl (fun l M => L_alloc rfl zero29.h (fun b => L_nil ⟨b, rfl, rfl⟩)) ⟨mm, trivial⟩ (fun fr14 => ?_)
        replace hp := ba hp; obtain ⟨y15, hy15, hp⟩ := hp
        refine L_callM [blk b0_ _ _] _ rfl fn55.h rfl pc (by exact fun w hw => s_l18Chunk_walk w b0_ (a0_1, y4y0_2, y4y0_3) ((RdX.old h0_0) w hw) _ hy15) ?_
        rintro _ _ ⟨y15x0, ⟨y15y0_1, y15y0_2, y15y0_3⟩, rfl, rfl, rfl, hey15_0⟩
        obtain rfl : a0_1 = y15y0_1 := hey15_0.symm
        refine sc ?_
        replace hp := dd hp
        refine L_nil ⟨_, pk, ⟨mm, trivial⟩, rfl, ?_⟩
        refine AP_step 4 rfl rfl (by first | exact .inl (by kernel_rfl) | exact .inr (by kernel_rfl)) (by kernel_rfl) rfl rfl rfl rfl rfl (fun l M => L_alloc rfl zero29.h (fun b => L_nil ⟨b, rfl, rfl⟩)) ⟨mm, trivial⟩ (fun fr16 => ?_)
        replace hp := ba hp; obtain ⟨y17, hy17, hp⟩ := hp
        refine L_callM [blk b0_ _ _] _ rfl fn56.h rfl pc (by exact fun w hw => s_l1Below_walk w b0_ (a0_1, y15y0_2, y15y0_3) 3 ((RdX.old h0_0) w hw) _ hy17) ?_
        rintro _ _ ⟨y17x0, ⟨y17y0_1, y17y0_2, y17y0_3⟩, rfl, rfl, rfl, hey17_0⟩
        obtain rfl : a0_1 = y17y0_1 := hey17_0.symm
        refine sc ?_
        replace hp := dd hp
        refine L_nil ⟨_, pk, ⟨mm, trivial⟩, rfl, ?_⟩
        refine AP_step 5 rfl rfl (by first | exact .inl (by kernel_rfl) | exact .inr (by kernel_rfl)) (by kernel_rfl) rfl rfl rfl rfl rfl (fun l M => L_alloc rfl zero29.h (fun b => L_nil ⟨b, rfl, rfl⟩)) ⟨mm, trivial⟩ (fun fr18 => ?_)
        replace hp := ba hp; obtain ⟨y19, hy19, hp⟩ := hp
        refine L_callR rfl fn30.h rfl (by exact fun w hw => s_UpAck_walk w (v2_3, v2_4) y15x0 y17x0 (RdT.now (RdT.pair RdT.int (RdT.tree mm)) hw) _ hy19) ?_
        rintro _ _ ⟨⟨y19x0_1, y19x0_2⟩, y19x1, rfl, rfl, rfl⟩
        refine sc ?_
        replace hp := dd hp
        refine xL ((y19x0_1, y19x0_2) : T_Ups) ?_
        refine L_nil ⟨_, pk, ⟨mm, trivial⟩, rfl, ?_⟩
        refine AP_take 6 rfl (PU_move rfl rfl) (by kernel_rfl) (by kernel_rfl) (by kernel_rfl) (by kernel_rfl) (by kernel_rfl) rfl rfl rfl ⟨mm, trivial⟩ ?_
        refine AP_take 7 rfl (PU_extract rfl rfl rfl) (by kernel_rfl) (by kernel_rfl) (by kernel_rfl) (by kernel_rfl) (by kernel_rfl) rfl rfl rfl ⟨mm, trivial⟩ ?_
        refine AP_take 8 rfl (PU_extract rfl rfl rfl) (by kernel_rfl) (by kernel_rfl) (by kernel_rfl) (by kernel_rfl) (by kernel_rfl) rfl rfl rfl ⟨mm, trivial⟩ ?_
        refine AP_end (by kernel_rfl) rfl rfl (fun l M => L_alloc rfl zero29.h (fun b => L_nil ⟨b, rfl, rfl⟩)) ⟨mm, trivial⟩ (fun bk9 => ?_)
        refine AH_one 10 rfl rfl (by kernel_rfl) ?_
        refine s1 ?_
        refine L_nil ⟨⟨mm, trivial⟩, ?_⟩
        refine AH_one 11 rfl rfl (by kernel_rfl) ?_
        refine s1 ?_
        refine L_nil ⟨⟨mm, trivial⟩, ?_⟩
        refine AH_done (by kernel_rfl) ?_
        refine s9 ?_
        exact ⟨(IntKind.wrap .i64 (v2_0 - 1), y17y0_2, y17y0_3, y19x0_1, y19x0_2), sb, (.sub ms), some_eq hp⟩
  · replace hp := cond_f hc3 hp
    refine W_exit ?_
    replace hp := map_any hp; obtain ⟨a20, hp, hx_a20⟩ := hp
    obtain rfl := hx2 _ hx_a20
    refine s4 ?_
    replace hp := ba hp; obtain ⟨y21, hy21, hp⟩ := hp
    refine L_callM [blk b0_ _ _] _ rfl fn29.h rfl pc (by exact fun w hw => s_l1Once_walk w b0_ (a0_1, v2_1, v2_2) 10 ((RdX.old h0_0) w hw) _ hy21) ?_
    rintro _ _ ⟨y21x0, ⟨y21y0_1, y21y0_2, y21y0_3⟩, rfl, rfl, rfl, hey21_0⟩
    obtain rfl : a0_1 = y21y0_1 := hey21_0.symm
    refine sc ?_
    replace hp := dd hp
    refine s1 ?_
    refine kp [0, 2, 3, 51] ?_
    refine W_cond rfl (fun hc22 => ?_) (fun hc22 => ?_)
    · replace hp := cond_t hc22 hp
      refine s3 ?_
      replace hp := ba hp; obtain ⟨y23, hy23, hp⟩ := hp
      refine L_callM [blk b0_ _ _] _ rfl fn56.h rfl pc (by exact fun w hw => s_l1Below_walk w b0_ (a0_1, y21y0_2, y21y0_3) 3 ((RdX.old h0_0) w hw) _ hy23) ?_
      rintro _ _ ⟨y23x0, ⟨y23y0_1, y23y0_2, y23y0_3⟩, rfl, rfl, rfl, hey23_0⟩
      obtain rfl : a0_1 = y23y0_1 := hey23_0.symm
      refine sc ?_
      replace hp := dd hp
      refine s7 ?_
      refine kp [0, 2, 3, 53, 63] ?_
      refine W_cond rfl (fun hc24 => ?_) (fun hc24 => ?_)
      · replace hp := cond_t hc24 hp
        refine s2 ?_
        replace hp := ba hp; obtain ⟨y25, hy25, hp⟩ := hp
        refine L_bsN ([(-1), 0, 1000, 1001] : List Int) (xs := [(0, .const (.int .i64 (-1))), (1, .const (.int .i64 0)), (2, .const (.int .i64 1000)), (3, .const (.int .i64 1001))]) rfl rfl el41.h rfl rfl rfl rfl rfl rfl rfl hy25 (fun X26 hdX26 => ?_)
        subst hdX26
        replace hp := ba hp; obtain ⟨y27, hy27, hp⟩ := hp
        refine L_callM [blk b0_ _ _] _ rfl fn64.h rfl pc (by exact fun w hw => s_l1PickInt_walk w b0_ (a0_1, y23y0_2, y23y0_3) X26 ((RdX.tree mm) w hw) ((RdX.old h0_0) w hw) _ hy27) ?_
        rintro _ _ ⟨y27x0, ⟨y27y0_1, y27y0_2, y27y0_3⟩, rfl, rfl, rfl, hey27_0⟩
        obtain rfl : a0_1 = y27y0_1 := hey27_0.symm
        refine sc ?_
        replace hp := dd hp
        refine s8 ?_
        obtain rfl := Option.some.inj hp
        refine jW ((y27x0, v2_4) : T_Ups) ?_
        refine s1 ?_
        refine res1 rfl (ResOK.cell rfl mm (by exact agg29.h)) ⟨(y27x0, v2_4), (a0_1, y27y0_2, y27y0_3), rfl, rfl, rfl, rfl⟩ ms
      · replace hp := cond_f hc24 hp
        refine s5 ?_
        refine kp [0, 2, 3, 69] ?_
        refine W_cond rfl (fun hc28 => ?_) (fun hc28 => ?_)
        · replace hp := cond_t hc28 hp
          refine W_AG [] 11 mix ?_
          refine AG_take 0 [] rfl (PU_fieldAddr rfl rfl fld29_1.h) (by kernel_rfl) (by kernel_rfl) (by kernel_rfl) (by kernel_rfl) rfl (by kernel_rfl) trivial ?_
          refine AG_A [blk bk3 [.int .i64 v2_3, (TL.hdr v2_4)] 29] trivial ?_
          refine AG_take 1 [] rfl (PU_load rfl rfl (RdC.blk mm) one27.h rfl) (by kernel_rfl) (by kernel_rfl) (by kernel_rfl) (by kernel_rfl) rfl (by kernel_rfl) ⟨mm, trivial⟩ ?_
          refine AG_take 2 [] rfl (PU_move rfl rfl) (by kernel_rfl) (by kernel_rfl) (by kernel_rfl) (by kernel_rfl) rfl (by kernel_rfl) ⟨mm, trivial⟩ ?_
          refine AG_take 4 [] rfl (PU_move rfl rfl) (by kernel_rfl) (by kernel_rfl) (by kernel_rfl) (by kernel_rfl) rfl (by kernel_rfl) ⟨mm, trivial⟩ ?_
          refine AG_one 3 rfl rfl (by kernel_rfl) ?_
          replace hp := ba hp; obtain ⟨y29, hy29, hp⟩ := hp
          refine L_callM [blk b0_ _ _] _ rfl fn55.h rfl pc (by exact fun w hw => s_l18Chunk_walk w b0_ (a0_1, y23y0_2, y23y0_3) ((RdX.old h0_0) w hw) _ hy29) ?_
          rintro _ _ ⟨y29x0, ⟨y29y0_1, y29y0_2, y29y0_3⟩, rfl, rfl, rfl, hey29_0⟩
          obtain rfl : a0_1 = y29y0_1 := hey29_0.symm
          refine sc ?_
          replace hp := dd hp
          refine L_nil ⟨⟨mm, trivial⟩, ?_⟩
          refine AG_one 5 rfl rfl (by kernel_rfl) ?_
          replace hp := ba hp; obtain ⟨y30, hy30, hp⟩ := hp
          refine L_callM [blk b0_ _ _] _ rfl fn56.h rfl pc (by exact fun w hw => s_l1Below_walk w b0_ (a0_1, y29y0_2, y29y0_3) 4 ((RdX.old h0_0) w hw) _ hy30) ?_
          rintro _ _ ⟨y30x0, ⟨y30y0_1, y30y0_2, y30y0_3⟩, rfl, rfl, rfl, hey30_0⟩
          obtain rfl : a0_1 = y30y0_1 := hey30_0.symm
          refine sc ?_
          replace hp := dd hp
          refine L_nil ⟨⟨mm, trivial⟩, ?_⟩
          refine AG_one 6 rfl rfl (by kernel_rfl) ?_
          replace hp := ba hp; obtain ⟨y31, hy31, hp⟩ := hp
          refine L_bsN ([y30x0] : List Int) (xs := [(0, .tmp 76)]) rfl rfl el41.h rfl rfl rfl rfl rfl rfl rfl hy31 (fun X32 hdX32 => ?_)
          subst hdX32
          refine L_nil ⟨⟨mm, trivial⟩, ?_⟩
          refine AG_one 7 rfl rfl (by kernel_rfl) ?_
          refine L_build (xs := [(0, .tmp 74), (1, .tmp 77)]) (cs := [.string y29x0, (TL.hdr X32), .int .i64 0]) rfl rfl bld43.h rfl ?_
          refine L_nil ⟨⟨mm, trivial⟩, ?_⟩
          refine AG_one 8 rfl rfl (by kernel_rfl) ?_
          refine L_buildSlice1 rfl rfl el27.h rfl (by decide) (by decide) rfl (fun bb79 => ?_)
          refine L_nil ⟨⟨mm, trivial⟩, ?_⟩
          refine AG_one 9 rfl rfl (by kernel_rfl) ?_
          replace hp := ba hp; obtain ⟨y34, hy34, hp⟩ := hp
          refine jL ((y29x0, X32, 0) : T_Up) ?_
          refine L_app1 (X := v2_4) ((y29x0, X32, 0) : T_Up) rfl rfl rfl el27.h rfl rfl pk mm pk hy34 (by decide) (fun X33 hdX33 => ?_)
          subst hdX33
          refine L_nil ⟨⟨mm, trivial⟩, ?_⟩
          refine AG_take 10 [] rfl (PU_fieldAddr rfl rfl fld29_1.h) (by kernel_rfl) (by kernel_rfl) (by kernel_rfl) (by kernel_rfl) rfl (by kernel_rfl) ⟨mm, trivial⟩ ?_
          refine AG_last 11 rfl rfl (by kernel_rfl) (by kernel_rfl) ?_
          refine s2 ?_
          refine AG_done (by kernel_rfl) ?_
          refine s5 ?_
          obtain rfl := Option.some.inj hp
          refine jW ((v2_3, X33) : T_Ups) ?_
          refine s1 ?_
          refine res1 rfl (ResOK.cell rfl mm (by exact agg29.h)) ⟨(v2_3, X33), (a0_1, y30y0_2, y30y0_3), rfl, rfl, rfl, rfl⟩ ms
        · replace hp := cond_f hc28 hp
          refine s7 ?_
          refine kp [2, 3, 57] ?_
          refine W_cond rfl (fun hc35 => ?_) (fun hc35 => ?_)
          · replace hp := cond_t hc35 hp
            refine s3 ?_
            replace hp := ba hp; obtain ⟨y37, hy37, hp⟩ := hp
            refine L_mk0 Int rfl el41.h (fun X36 hdX36 => ?_)
            obtain rfl : GT.dat X36 = y37 := hdX36.trans (Option.some.inj hy37)
            clear hy37 hdX36
            replace hp := idx_bind hp; obtain ⟨⟨u38_1, u38_2, u38_3⟩, hy38, hp⟩ := hp
            refine L_idxA (X := v2_4) rfl rfl rfl el27.h (RdT.tree mm) hy38 ?_
            refine s1 ?_
            refine L_conv (M' := treeH (u38_1, u38_2, u38_3) :: holeH v2_4 ((0 : Int).toNat) (GT.cells (u38_1, u38_2, u38_3)) :: _) (fun w h => hole_open hy38.2 pk h) ?_
            refine xL ((u38_1, u38_2, u38_3) : T_Up) ?_
            refine L_stH (X := v2_4) (i := (0 : Int).toNat) (sz := 3) (fo := 1) (n := 1) rfl rfl pk rfl (.inr ⟨one41.h, rfl⟩) rfl (allOne rfl) (Nat.le_of_ble_eq_true rfl) ?_
            refine jL ((u38_1, X36, u38_3) : T_Up) ?_
            replace hp := ba hp; obtain ⟨y39, hy39, hp⟩ := hp
            refine L_close (X := v2_4) ((u38_1, X36, u38_3) : T_Up) rfl pk pk hy39 (fun X40 hdX40 hhX40 => ?_)
            subst hdX40
            try rw [← hhX40]
            try rw [← g_of_hdr hhX40]
            try rw [← o_of_hdr hhX40]
            refine s6 ?_
            obtain rfl := Option.some.inj hp
            refine jW ((v2_3, X40) : T_Ups) ?_
            refine s1 ?_
            refine res1 rfl (ResOK.cell rfl mm (by exact agg29.h)) ⟨(v2_3, X40), (a0_1, y23y0_2, y23y0_3), rfl, rfl, rfl, rfl⟩ ms
          · replace hp := cond_f hc35 hp
            refine s6 ?_
            obtain rfl := Option.some.inj hp
            refine jW ((v2_3, v2_4) : T_Ups) ?_
            refine s1 ?_
            refine res1 rfl (ResOK.cell rfl mm (by exact agg29.h)) ⟨(v2_3, v2_4), (a0_1, y23y0_2, y23y0_3), rfl, rfl, rfl, rfl⟩ ms
    · replace hp := cond_f hc22 hp
      refine s6 ?_
      obtain rfl := Option.some.inj hp
      refine jW ((v2_3, v2_4) : T_Ups) ?_
      refine s1 ?_
      refine res1 rfl (ResOK.cell rfl mm (by exact agg29.h)) ⟨(v2_3, v2_4), (a0_1, y21y0_2, y21y0_3), rfl, rfl, rfl, rfl⟩ ms
noncomputable def s_l20Up (a0 : D_l1Cur) : Option ((List Bool) × D_l1Cur) :=
  Option.bind (s_l1Once (a0.1, a0.2.1, a0.2.2) 20) (fun y1 => cond y1.1 (Option.bind (s_l1Below (y1.2.1, y1.2.2.1, y1.2.2.2) 5) (fun y3 => Option.bind (mkP 1 y3.1 (false : Bool)) (fun y4 => some (y4, (y3.2.1, y3.2.2.1, y3.2.2.2))))) (Option.bind (s_l1Once (y1.2.1, y1.2.2.1, y1.2.2.2) 4) (fun y6 => Option.bind (s_l1Once (y6.2.1, y6.2.2.1, y6.2.2.2) 4) (fun y7 => Option.bind (s_l1Once (y7.2.1, y7.2.2.1, y7.2.2.2) 4) (fun y8 => Option.bind (some ([(!y6.1), (!y7.1), (!y8.1)] : List Bool)) (fun y9 => some (y9, (y8.2.1, y8.2.2.1, y8.2.2.2))))))))
theorem s_l20Up_walk (w : World) (b0_ : Nat) (a0 : T_l1Cur) (h0_0 : GT.rd w (fps [blk b0_ (GT.cells a0) 87]) a0.1) (r : (List Bool) × D_l1Cur) (hp : s_l20Up (GT.dat a0) = some r) : Spec Tryz.prog 47 [Value.pointer (some ⟨b0_, 0, none⟩)].toArray w [blk b0_ (GT.cells a0) 87] (fun v M => ∃ (x0 : TL Bool) (y0 : T_l1Cur), v = (TL.hdr x0) ∧ (GT.dat x0, GT.dat y0) = r ∧ M = [treeH x0, blk b0_ (GT.cells y0) 87] ∧ y0.1 = a0.1) := by
  obtain ⟨a0_1, a0_2, a0_3⟩ := a0
  change Spec _ _ ([Value.pointer (some ⟨b0_, 0, none⟩)] : List Value).toArray w _ _
  refine Spec.intro Tryz.func47 rfl Tryz.ntmps47 rfl ?_
  unfold s_l20Up at hp
  replace hp := dd hp
  refine s2 ?_
  refine L_assign (v := (TL.hdr (TL.nil Bool 0))) rfl rfl ?_
  refine s5 ?_
  replace hp := ba hp; obtain ⟨y1, hy1, hp⟩ := hp
  refine L_callM [blk b0_ _ _] _ rfl fn29.h rfl pc (by exact fun w hw => s_l1Once_walk w b0_ (a0_1, a0_2, a0_3) 20 ((RdX.old h0_0) w hw) _ hy1) ?_
  rintro _ _ ⟨y1x0, ⟨y1y0_1, y1y0_2, y1y0_3⟩, rfl, rfl, rfl, hey1_0⟩
  obtain rfl : a0_1 = y1y0_1 := hey1_0.symm
  refine sc ?_
  replace hp := dd hp
  refine s1 ?_
  refine kp [0, 4] ?_
  refine W_cond rfl (fun hc2 => ?_) (fun hc2 => ?_)
  · replace hp := cond_t hc2 hp
    refine s3 ?_
    replace hp := ba hp; obtain ⟨y3, hy3, hp⟩ := hp
    refine L_callM [blk b0_ _ _] _ rfl fn56.h rfl pc (by exact fun w hw => s_l1Below_walk w b0_ (a0_1, y1y0_2, y1y0_3) 5 ((RdX.old h0_0) w hw) _ hy3) ?_
    rintro _ _ ⟨y3x0, ⟨y3y0_1, y3y0_2, y3y0_3⟩, rfl, rfl, rfl, hey3_0⟩
    obtain rfl : a0_1 = y3y0_1 := hey3_0.symm
    refine sc ?_
    replace hp := dd hp
    replace hp := ba hp; obtain ⟨y4, hy4, hp⟩ := hp
    refine L_mkP (false : Bool) rfl rfl rfl el46.h rfl rfl (FlatT.flat _) hy4 (fun X5 hdX5 => ?_)
    subst hdX5
    refine s2 ?_
    obtain rfl := Option.some.inj hp
    refine s1 ?_
    refine res1 rfl (ResOK.tmp rfl) ⟨X5, (a0_1, y3y0_2, y3y0_3), rfl, rfl, rfl, rfl⟩ ms
  · replace hp := cond_f hc2 hp
    refine s4 ?_
    replace hp := ba hp; obtain ⟨y6, hy6, hp⟩ := hp
    refine L_callM [blk b0_ _ _] _ rfl fn29.h rfl pc (by exact fun w hw => s_l1Once_walk w b0_ (a0_1, y1y0_2, y1y0_3) 4 ((RdX.old h0_0) w hw) _ hy6) ?_
    rintro _ _ ⟨y6x0, ⟨y6y0_1, y6y0_2, y6y0_3⟩, rfl, rfl, rfl, hey6_0⟩
    obtain rfl : a0_1 = y6y0_1 := hey6_0.symm
    refine sc ?_
    replace hp := dd hp
    refine s2 ?_
    replace hp := ba hp; obtain ⟨y7, hy7, hp⟩ := hp
    refine L_callM [blk b0_ _ _] _ rfl fn29.h rfl pc (by exact fun w hw => s_l1Once_walk w b0_ (a0_1, y6y0_2, y6y0_3) 4 ((RdX.old h0_0) w hw) _ hy7) ?_
    rintro _ _ ⟨y7x0, ⟨y7y0_1, y7y0_2, y7y0_3⟩, rfl, rfl, rfl, hey7_0⟩
    obtain rfl : a0_1 = y7y0_1 := hey7_0.symm
    refine sc ?_
    replace hp := dd hp
    refine s2 ?_
    replace hp := ba hp; obtain ⟨y8, hy8, hp⟩ := hp
    refine L_callM [blk b0_ _ _] _ rfl fn29.h rfl pc (by exact fun w hw => s_l1Once_walk w b0_ (a0_1, y7y0_2, y7y0_3) 4 ((RdX.old h0_0) w hw) _ hy8) ?_
    rintro _ _ ⟨y8x0, ⟨y8y0_1, y8y0_2, y8y0_3⟩, rfl, rfl, rfl, hey8_0⟩
    obtain rfl : a0_1 = y8y0_1 := hey8_0.symm
    refine sc ?_
    replace hp := dd hp
    refine s1 ?_
    replace hp := ba hp; obtain ⟨y9, hy9, hp⟩ := hp
    refine L_bsN ([(!y6x0), (!y7x0), (!y8x0)] : List Bool) (xs := [(0, .tmp 10), (1, .tmp 13), (2, .tmp 16)]) rfl rfl el46.h rfl rfl rfl rfl rfl rfl rfl hy9 (fun X10 hdX10 => ?_)
    subst hdX10
    refine s2 ?_
    obtain rfl := Option.some.inj hp
    refine s1 ?_
    refine res1 rfl (ResOK.tmp rfl) ⟨X10, (a0_1, y8y0_2, y8y0_3), rfl, rfl, rfl, rfl⟩ ms
noncomputable def s_DrawRepairs (a0 : List UInt8) : Option (D_Catalog × D_Ups × (List Bool)) :=
  Option.bind (s_l1New a0) (fun y1 => Option.bind (s_l15Some (y1.1, y1.2.1, y1.2.2)) (fun y2 => Option.bind (s_l18Some (y2.2.1, y2.2.2.1, y2.2.2.2)) (fun y3 => Option.bind (s_l20Up (y3.2.1, y3.2.2.1, y3.2.2.2)) (fun y4 => some (y2.1, (y3.1.1, y3.1.2), y4.1)))))
theorem s_DrawRepairs_walk (w : World) (a0 : TL UInt8) (h0 : GT.rd w [] a0) (r : D_Catalog × D_Ups × (List Bool)) (hp : s_DrawRepairs (GT.dat a0) = some r) : Spec Tryz.prog 18 [(TL.hdr a0)].toArray w [] (fun v M => ∃ (x0 : T_Catalog) (x1 : T_Ups) (x2 : TL Bool), v = .tuple #[.agg (GT.cells x0).toArray, .agg (GT.cells x1).toArray, (TL.hdr x2)] ∧ (GT.dat x0, GT.dat x1, GT.dat x2) = r ∧ M = [treeH x0, treeH x1, treeH x2]) := by
  refine Spec.intro Tryz.func18 rfl Tryz.ntmps18 rfl ?_
  unfold s_DrawRepairs at hp
  replace hp := dd hp
  refine s2 ?_
  refine al fun bk2 => ?_
  refine al fun bk3 => ?_
  refine L_assign (v := (TL.hdr (TL.nil Bool 0))) rfl rfl ?_
  refine s4 ?_
  replace hp := ba hp; obtain ⟨y1, hy1, hp⟩ := hp
  refine L_callR rfl fn26.h rfl (by exact fun w hw => s_l1New_walk w a0 (RdT.now (RdT.old h0) hw) _ hy1) ?_
  rintro _ _ ⟨bky1, ⟨y1x_1, y1x_2, y1x_3⟩, rfl, rfl, rfl, hey1_0⟩
  obtain rfl : a0 = y1x_1 := hey1_0.symm
  refine sc ?_
  replace hp := dd hp
  refine s5 ?_
  replace hp := ba hp; obtain ⟨y2, hy2, hp⟩ := hp
  refine L_callM [blk bky1 _ _] _ rfl fn27.h rfl pc (by exact fun w hw => s_l15Some_walk w bky1 (a0, y1x_2, y1x_3) ((RdX.old h0) w hw) _ hy2) ?_
  rintro _ _ ⟨y2x0, ⟨y2y0_1, y2y0_2, y2y0_3⟩, rfl, rfl, rfl, hey2_0⟩
  obtain rfl : a0 = y2y0_1 := hey2_0.symm
  refine sc ?_
  replace hp := dd hp
  refine al fun bk6 => ?_
  refine s5 ?_
  replace hp := ba hp; obtain ⟨y3, hy3, hp⟩ := hp
  refine L_callM [blk bky1 _ _] _ rfl fn28.h rfl pc (by exact fun w hw => s_l18Some_walk w bky1 (a0, y2y0_2, y2y0_3) ((RdX.old h0) w hw) _ hy3) ?_
  rintro _ _ ⟨⟨y3x0_1, y3x0_2⟩, ⟨y3y0_1, y3y0_2, y3y0_3⟩, rfl, rfl, rfl, hey3_0⟩
  obtain rfl : a0 = y3y0_1 := hey3_0.symm
  refine sc ?_
  replace hp := dd hp
  refine xL ((y3x0_1, y3x0_2) : T_Ups) ?_
  refine al fun bk7 => ?_
  refine s3 ?_
  replace hp := ba hp; obtain ⟨y4, hy4, hp⟩ := hp
  refine W_DS (pre := [_, _, _, _, _]) (suf := [_, _]) [15, 17] [blk bky1 _ 87, blk bk2 _ _] _ pc mix (by kernel_rfl) (by kernel_rfl) rfl ?_
  refine s3 ?_
  refine D_callM (fun v M => ∃ (x0 : TL Bool) (y0 : T_l1Cur), v = (TL.hdr x0) ∧ (GT.dat x0, GT.dat y0) = y4 ∧ M = [treeH x0, blk bky1 (GT.cells y0) 87] ∧ y0.1 = a0) [blk bky1 _ 87] pc fn47.h (OpVs.cons (OpV.t rfl) (OpVs.nil)) (by exact fun w F hw hM => s_l20Up_walk w bky1 (a0, y3y0_2, y3y0_3) ((RdX.old h0) w hw) _ hy4) ?_
  refine D_storeW (OpV.t rfl) (OpV.t rfl) pk (by exact agg26.h) (by rfl) ocs ?_
  refine s2 ?_
  refine Give_R rfl rfl ?_
  rintro _ _ ⟨y4x0, ⟨y4y0_1, y4y0_2, y4y0_3⟩, rfl, rfl, rfl, hey4_0⟩
  obtain rfl : a0 = y4y0_1 := hey4_0.symm
  refine s4 ?_
  refine sc ?_
  replace hp := dd hp
  refine s3 ?_
  obtain rfl := Option.some.inj hp
  refine jW ((y3x0_1, y3x0_2) : T_Ups) ?_
  refine s1 ?_
  refine res3 rfl (ResOK.cell rfl mm (by exact agg26.h)) (ResOK.cell rfl mm (by exact agg29.h)) (ResOK.tmp rfl) ⟨y2x0, (y3x0_1, y3x0_2), y4x0, rfl, rfl, rfl⟩ ms
noncomputable def s_l15In (a0 : List ByteArray) (a1 : ByteArray) : Option Bool :=
  whileP (fun s1 : Int => cond (decide (s1 < (a0.length : Int))) (Option.bind (idx a0 s1) (fun y3 => cond (decide (y3 = a1)) (Option.map .inr (some true)) (some (.inl (IntKind.wrap .i64 (s1 + 1)))))) (Option.map .inr (some false))) 0
theorem s_l15In_walk (w : World) (a0 : TL ByteArray) (a1 : ByteArray) (h0 : GT.rd w [] a0) (r : Bool) (hp : s_l15In (GT.dat a0) a1 = some r) : Spec Tryz.prog 37 [(TL.hdr a0), .string a1].toArray w [] (IsV (.bool r)) := by
  refine Spec.intro Tryz.func37 rfl Tryz.ntmps37 rfl ?_
  unfold s_l15In at hp
  replace hp := dd hp
  refine s10 ?_
  refine W_while (σ := Int) GT.dat (fun (v1_0 : Int) => [(5, .int .i64 v1_0)]) (fun (v1_0 : Int) => []) [(0, _), (1, _)] [] 0 hp sb ms ?_
  clear hp
  rintro v1_0 x1 hp hx1
  replace hp := dd hp
  refine kq [0, 1, 5] ?_
  refine s8 ?_
  refine kp [0, 1, 5, 9] ?_
  refine W_cond rfl (fun hc2 => ?_) (fun hc2 => ?_)
  · replace hp := cond_t hc2 hp
    refine s7 ?_
    replace hp := idx_bind hp; obtain ⟨u3, hy3, hp⟩ := hp
    refine L_idxA (X := a0) rfl rfl rfl el32.h (RdT.old h0) hy3 ?_
    refine L_load0 rfl rfl (RdT.at (RdT.old h0) (hy3).2) one9.h rfl ?_
    refine s3 ?_
    refine kp [0, 1, 5, 17] ?_
    refine W_cond rfl (fun hc4 => ?_) (fun hc4 => ?_)
    · replace hp := cond_t hc4 hp
      refine s4 ?_
      replace hp := map_any hp; obtain ⟨a5, hp, hx_a5⟩ := hp
      obtain rfl := hx1 _ hx_a5
      obtain rfl := Option.some.inj hp
      refine s1 ?_
      refine res1 rfl (ResOK.tmp rfl) ⟨rfl, rfl⟩ ms
    · replace hp := cond_f hc4 hp
      refine s6 ?_
      exact ⟨IntKind.wrap .i64 (v1_0 + 1), sb, (.sub ms), some_eq hp⟩
  · replace hp := cond_f hc2 hp
    refine W_exit ?_
    replace hp := map_any hp; obtain ⟨a6, hp, hx_a6⟩ := hp
    obtain rfl := hx1 _ hx_a6
    refine s4 ?_
    obtain rfl := Option.some.inj hp
    refine s1 ?_
    refine res1 rfl (ResOK.tmp rfl) ⟨rfl, rfl⟩ ms
noncomputable def s_l15Put (a0 : List ByteArray) (a1 : ByteArray) : Option (List ByteArray) :=
  Option.bind (some ([] : List ByteArray)) (fun y2 => Option.bind (s_l15In a0 a1) (fun y3 => whileP (fun s4 : (List ByteArray) × Bool × Int => cond (decide (s4.2.2 < (a0.length : Int))) (gb (!s4.2.1) (idx a0 s4.2.2) (fun y6 => cond ((!s4.2.1) && (!sLt y6 a1 && !decide (y6 = a1))) (Option.bind (appP s4.1 [a1]) (fun y9 => Option.bind (idx a0 s4.2.2) (fun y10 => Option.bind (appP y9 [y10]) (fun y12 => some (.inl ((y12, true, IntKind.wrap .i64 (s4.2.2 + 1)))))))) (Option.bind (idx a0 s4.2.2) (fun y13 => Option.bind (appP s4.1 [y13]) (fun y15 => some (.inl ((y15, s4.2.1, IntKind.wrap .i64 (s4.2.2 + 1))))))))) (Option.map .inr (cond (!s4.2.1) (Option.bind (appP s4.1 [a1]) (fun y19 => some y19)) (some s4.1)))) (y2, y3, 0)))
theorem s_l15Put_walk (w : World) (a0 : TL ByteArray) (a1 : ByteArray) (h0 : GT.rd w [] a0) (r : (List ByteArray)) (hp : s_l15Put (GT.dat a0) a1 = some r) : Spec Tryz.prog 42 [(TL.hdr a0), .string a1].toArray w [] (fun v M => ∃ (x0 : TL ByteArray), v = (TL.hdr x0) ∧ GT.dat x0 = r ∧ M = [treeH x0]) := by
  refine Spec.intro Tryz.func42 rfl Tryz.ntmps42 rfl ?_
  unfold s_l15Put at hp
  replace hp := dd hp
  refine s2 ?_
  refine L_assign (v := (TL.hdr (TL.nil ByteArray 0))) rfl rfl ?_
  refine s3 ?_
  replace hp := ba hp; obtain ⟨y2, hy2, hp⟩ := hp
  refine L_mk0 ByteArray rfl el32.h (fun X1 hdX1 => ?_)
  obtain rfl : GT.dat X1 = y2 := hdX1.trans (Option.some.inj hy2)
  clear hy2 hdX1
  refine s6 ?_
  replace hp := ba hp; obtain ⟨y3, hy3, hp⟩ := hp
  refine L_callX rfl fn37.h rfl (by exact fun w hw => s_l15In_walk w a0 a1 (RdT.now (RdT.old h0) hw) _ hy3) ?_
  refine s8 ?_
  refine W_while (σ := (TL ByteArray) × Bool × Int) GT.dat (fun ((v4_0, v4_1, v4_2) : (TL ByteArray) × Bool × Int) => [(5, (TL.hdr v4_0)), (6, .bool v4_1), (7, .int .i64 v4_2)]) (fun ((v4_0, v4_1, v4_2) : (TL ByteArray) × Bool × Int) => [treeH v4_0]) [(0, _), (1, _)] [] (X1, y3, 0) hp sb ms ?_
  clear hp
  rintro ⟨v4_0, v4_1, v4_2⟩ x4 hp hx4
  replace hp := dd hp
  refine kq [0, 1, 5, 6, 7] ?_
  refine s8 ?_
  refine kp [0, 1, 5, 6, 7, 15] ?_
  refine W_cond rfl (fun hc5 => ?_) (fun hc5 => ?_)
  · replace hp := cond_t hc5 hp
    refine s5 ?_
    replace hp := idx_gb hp; obtain ⟨u6, hy6, hp⟩ := hp
    refine W_D0 [27] mix (by kernel_rfl) rfl ?_
    refine s5 ?_
    refine D_idxA (X := a0) (GC.some rfl rfl) (OpV.s rfl) (OpV.s rfl) el32.h (RdT.old h0) (fun hg => hy6 hg.2) ?_
    refine D_load0 (GC.some rfl rfl) (OpV.s rfl) (fun hg => RdT.at (RdT.old h0) (hy6 hg.2).2) one9.h rfl ?_
    refine s15 ?_
    refine kp [0, 1, 5, 6, 7, 27] ?_
    refine W_cond rfl (fun hc7 => ?_) (fun hc7 => ?_)
    · replace hp := cond_t hc7 hp
      refine s4 ?_
      refine L_buildSlice1 rfl rfl el32.h rfl (by decide) (by decide) rfl (fun bb30 => ?_)
      replace hp := ba hp; obtain ⟨y9, hy9, hp⟩ := hp
      refine L_app1F (X := v4_0) (a1 : ByteArray) rfl rfl rfl el32.h rfl rfl pk mm  hy9 (by decide) (fun X8 hdX8 => ?_)
      subst hdX8
      refine s9 ?_
      replace hp := idx_bind hp; obtain ⟨u10, hy10, hp⟩ := hp
      refine L_idxA (X := a0) rfl rfl rfl el32.h (RdT.old h0) hy10 ?_
      refine L_load0 rfl rfl (RdT.at (RdT.old h0) (hy10).2) one9.h rfl ?_
      refine L_buildSlice1 rfl rfl el32.h rfl (by decide) (by decide) rfl (fun bb37 => ?_)
      replace hp := ba hp; obtain ⟨y12, hy12, hp⟩ := hp
      refine L_app1F (X := X8) (u10 : ByteArray) rfl rfl rfl el32.h rfl rfl pk mm  hy12 (by decide) (fun X11 hdX11 => ?_)
      subst hdX11
      refine s7 ?_
      exact ⟨(X11, true, IntKind.wrap .i64 (v4_2 + 1)), sb, (.sub ms), some_eq hp⟩
    · replace hp := cond_f hc7 hp
      refine s5 ?_
      replace hp := idx_bind hp; obtain ⟨u13, hy13, hp⟩ := hp
      refine L_idxA (X := a0) rfl rfl rfl el32.h (RdT.old h0) hy13 ?_
      refine L_load0 rfl rfl (RdT.at (RdT.old h0) (hy13).2) one9.h rfl ?_
      refine L_buildSlice1 rfl rfl el32.h rfl (by decide) (by decide) rfl (fun bb37 => ?_)
      replace hp := ba hp; obtain ⟨y15, hy15, hp⟩ := hp
      refine L_app1F (X := v4_0) (u13 : ByteArray) rfl rfl rfl el32.h rfl rfl pk mm  hy15 (by decide) (fun X14 hdX14 => ?_)
      subst hdX14
      refine s7 ?_
      exact ⟨(X14, v4_1, IntKind.wrap .i64 (v4_2 + 1)), sb, (.sub ms), some_eq hp⟩
  · replace hp := cond_f hc5 hp
    refine W_exit ?_
    replace hp := map_any hp; obtain ⟨a16, hp, hx_a16⟩ := hp
    obtain rfl := hx4 _ hx_a16
    refine s6 ?_
    refine kp [1, 5, 40] ?_
    refine W_cond rfl (fun hc17 => ?_) (fun hc17 => ?_)
    · replace hp := cond_t hc17 hp
      refine s3 ?_
      refine L_buildSlice1 rfl rfl el32.h rfl (by decide) (by decide) rfl (fun bb43 => ?_)
      replace hp := ba hp; obtain ⟨y19, hy19, hp⟩ := hp
      refine L_app1F (X := v4_0) (a1 : ByteArray) rfl rfl rfl el32.h rfl rfl pk mm  hy19 (by decide) (fun X18 hdX18 => ?_)
      subst hdX18
      refine s7 ?_
      obtain rfl := Option.some.inj hp
      refine s1 ?_
      refine res1 rfl (ResOK.tmp rfl) ⟨X18, rfl, rfl, rfl⟩ ms
    · replace hp := cond_f hc17 hp
      refine s6 ?_
      obtain rfl := Option.some.inj hp
      refine s1 ?_
      refine res1 rfl (ResOK.tmp rfl) ⟨v4_0, rfl, rfl, rfl⟩ ms
noncomputable def s_AllChunks (a0 : D_Catalog) : Option (List ByteArray) :=
  Option.bind (some ([] : List ByteArray)) (fun y2 => whileP (fun s3 : (List ByteArray) × Int => gb (decide (s3.2 < (a0.length : Int))) (s_CatOk a0) (fun y4 => cond ((decide (s3.2 < (a0.length : Int))) && y4) (whileP (fun s6 : (List ByteArray) × Int => Option.bind (idx a0 s3.2) (fun y7 => cond (decide (s6.2 < (y7.2.length : Int))) (whileP (fun s9 : (List ByteArray) × Int => Option.bind (idx a0 s3.2) (fun y10 => Option.bind (idx y10.2 s6.2) (fun y11 => cond (decide (s9.2 < (y11.2.2.length : Int))) (Option.bind (idx a0 s3.2) (fun y13 => Option.bind (idx y13.2 s6.2) (fun y14 => Option.bind (idx y14.2.2 s9.2) (fun y15 => Option.bind (s_l15Put s9.1 y15) (fun y16 => some (.inl ((y16, IntKind.wrap .i64 (s9.2 + 1))))))))) (Option.map .inr (some (.inl ((s9.1, IntKind.wrap .i64 (s6.2 + 1))))))))) (s6.1, 0)) (Option.map .inr (some (.inl ((s6.1, IntKind.wrap .i64 (s3.2 + 1)))))))) (s3.1, 0)) (Option.map .inr (some s3.1)))) (y2, 0))
theorem s_AllChunks_walk (w : World) (a0 : T_Catalog) (h0 : GT.rd w [] a0) (r : (List ByteArray)) (hp : s_AllChunks (GT.dat a0) = some r) : Spec Tryz.prog 13 [.agg (GT.cells a0).toArray].toArray w [] (fun v M => ∃ (x0 : TL ByteArray), v = (TL.hdr x0) ∧ GT.dat x0 = r ∧ M = [treeH x0]) := by
  change Spec _ _ ([Value.agg #[(TL.hdr a0)]] : List Value).toArray w [] _
  refine Spec.intro Tryz.func13 rfl Tryz.ntmps13 rfl ?_
  unfold s_AllChunks at hp
  replace hp := dd hp
  refine s2 ?_
  refine bx fun bk1 => ?_
  refine L_assign (v := (TL.hdr (TL.nil ByteArray 0))) rfl rfl ?_
  refine s3 ?_
  replace hp := ba hp; obtain ⟨y2, hy2, hp⟩ := hp
  refine L_mk0 ByteArray rfl el32.h (fun X1 hdX1 => ?_)
  obtain rfl : GT.dat X1 = y2 := hdX1.trans (Option.some.inj hy2)
  clear hy2 hdX1
  refine s8 ?_
  refine W_while (σ := (TL ByteArray) × Int) GT.dat (fun ((v3_0, v3_1) : (TL ByteArray) × Int) => [(3, (TL.hdr v3_0)), (4, .int .i64 v3_1)]) (fun ((v3_0, v3_1) : (TL ByteArray) × Int) => [treeH v3_0]) [(1, _)] [blk bk1 _ _] (X1, 0) hp sb ms ?_
  clear hp
  rintro ⟨v3_0, v3_1⟩ x3 hp hx3
  replace hp := dd hp
  refine kq [1, 3, 4] ?_
  refine s2 ?_
  replace hp := gb_any hp; obtain ⟨y4, hy4, hp⟩ := hp
  refine W_D0 [16] mix (by kernel_rfl) rfl ?_
  refine s3 ?_
  refine D_lenP (X := a0) GC.none (OpV.t rfl) el24.h ?_
  refine s3 ?_
  refine D_callX (GC.some rfl rfl) fn17.h (OpVs.cons (OpV.s rfl) (OpVs.nil)) (by exact fun hg w F hF hM => s_CatOk_walk w a0 (RdT.nowS (RdT.old h0) hF hM) _ (hy4 hg.2)) ?_
  refine s12 ?_
  refine kp [1, 3, 4, 16] ?_
  refine W_cond rfl (fun hc5 => ?_) (fun hc5 => ?_)
  · replace hp := cond_t hc5 hp
    refine s8 ?_
    refine W_while (σ := (TL ByteArray) × Int) GT.dat (fun ((v6_0, v6_1) : (TL ByteArray) × Int) => [(3, (TL.hdr v6_0)), (5, .int .i64 v6_1)]) (fun ((v6_0, v6_1) : (TL ByteArray) × Int) => [treeH v6_0]) [(1, _), (4, _)] [blk bk1 _ _] (v3_0, 0) hp sb ms ?_
    clear hp
    rintro ⟨v6_0, v6_1⟩ x6 hp hx6
    replace hp := dd hp
    refine kq [1, 3, 4, 5] ?_
    refine s7 ?_
    replace hp := idx_bind hp; obtain ⟨⟨u7_1, u7_2⟩, hy7, hp⟩ := hp
    refine L_idxA (X := a0) rfl rfl rfl el24.h (RdT.old h0) hy7 ?_
    refine s1 ?_
    refine L_load rfl rfl (RdT.at (RdT.old h0) (hy7).2) one67.h rfl ?_
    refine s3 ?_
    refine kp [1, 3, 4, 5, 27] ?_
    refine W_cond rfl (fun hc8 => ?_) (fun hc8 => ?_)
    · replace hp := cond_t hc8 hp
      refine s8 ?_
      refine W_while (σ := (TL ByteArray) × Int) GT.dat (fun ((v9_0, v9_1) : (TL ByteArray) × Int) => [(3, (TL.hdr v9_0)), (6, .int .i64 v9_1)]) (fun ((v9_0, v9_1) : (TL ByteArray) × Int) => [treeH v9_0]) [(1, _), (4, _), (5, _)] [blk bk1 _ _] (v6_0, 0) hp sb ms ?_
      clear hp
      rintro ⟨v9_0, v9_1⟩ x9 hp hx9
      replace hp := dd hp
      refine kq [1, 3, 4, 5, 6] ?_
      refine s7 ?_
      replace hp := idx_bind hp; obtain ⟨u10, hy10, hp⟩ := hp
      obtain rfl : (u7_1, u7_2) = u10 := Option.some.inj (hy7.2.symm.trans hy10.2)
      refine L_idxA (X := a0) rfl rfl rfl el24.h (RdT.old h0) hy7 ?_
      refine s1 ?_
      refine L_load rfl rfl (RdT.at (RdT.old h0) (hy7).2) one67.h rfl ?_
      refine s1 ?_
      replace hp := idx_bind hp; obtain ⟨⟨u11_1, u11_2, u11_3⟩, hy11, hp⟩ := hp
      refine L_idxA (X := u7_2) rfl rfl rfl el67.h (RdT.snd (RdT.of (RdT.old h0) (hy7).2)) hy11 ?_
      refine s1 ?_
      refine L_load rfl rfl (RdT.at (RdT.snd (RdT.of (RdT.old h0) (hy7).2)) (hy11).2) one32.h rfl ?_
      refine s3 ?_
      refine kp [1, 3, 4, 5, 6, 42] ?_
      refine W_cond rfl (fun hc12 => ?_) (fun hc12 => ?_)
      · replace hp := cond_t hc12 hp
        refine s8 ?_
        replace hp := idx_bind hp; obtain ⟨u13, hy13, hp⟩ := hp
        obtain rfl : (u7_1, u7_2) = u13 := Option.some.inj (hy7.2.symm.trans hy13.2)
        refine L_idxA (X := a0) rfl rfl rfl el24.h (RdT.old h0) hy7 ?_
        refine s1 ?_
        refine L_load rfl rfl (RdT.at (RdT.old h0) (hy7).2) one67.h rfl ?_
        refine s1 ?_
        replace hp := idx_bind hp; obtain ⟨u14, hy14, hp⟩ := hp
        obtain rfl : (u11_1, u11_2, u11_3) = u14 := Option.some.inj (hy11.2.symm.trans hy14.2)
        refine L_idxA (X := u7_2) rfl rfl rfl el67.h (RdT.snd (RdT.of (RdT.old h0) (hy7).2)) hy11 ?_
        refine s1 ?_
        refine L_load rfl rfl (RdT.at (RdT.snd (RdT.of (RdT.old h0) (hy7).2)) (hy11).2) one32.h rfl ?_
        refine s1 ?_
        replace hp := idx_bind hp; obtain ⟨u15, hy15, hp⟩ := hp
        refine L_idxA (X := u11_3) rfl rfl rfl el32.h (RdT.snd (RdT.snd (RdT.of (RdT.snd (RdT.of (RdT.old h0) (hy7).2)) (hy11).2))) hy15 ?_
        refine L_load0 rfl rfl (RdT.at (RdT.snd (RdT.snd (RdT.of (RdT.snd (RdT.of (RdT.old h0) (hy7).2)) (hy11).2))) (hy15).2) one9.h rfl ?_
        replace hp := ba hp; obtain ⟨y16, hy16, hp⟩ := hp
        refine L_callR rfl fn42.h rfl (by exact fun w hw => s_l15Put_walk w v9_0 u15 (RdT.now (RdT.tree mm) hw) _ hy16) ?_
        rintro _ _ ⟨y16x0, rfl, rfl, rfl⟩
        refine sc ?_
        replace hp := dd hp
        refine s7 ?_
        exact ⟨(y16x0, IntKind.wrap .i64 (v9_1 + 1)), sb, (.sub ms), some_eq hp⟩
      · replace hp := cond_f hc12 hp
        refine W_exit ?_
        replace hp := map_any hp; obtain ⟨a17, hp, hx_a17⟩ := hp
        obtain rfl := hx9 _ hx_a17
        refine s5 ?_
        exact ⟨(v9_0, IntKind.wrap .i64 (v6_1 + 1)), sb, (.sub ms), some_eq hp⟩
    · replace hp := cond_f hc8 hp
      refine W_exit ?_
      replace hp := map_any hp; obtain ⟨a18, hp, hx_a18⟩ := hp
      obtain rfl := hx6 _ hx_a18
      refine s5 ?_
      exact ⟨(v6_0, IntKind.wrap .i64 (v3_1 + 1)), sb, (.sub ms), some_eq hp⟩
  · replace hp := cond_f hc5 hp
    refine W_exit ?_
    replace hp := map_any hp; obtain ⟨a19, hp, hx_a19⟩ := hp
    obtain rfl := hx3 _ hx_a19
    refine s5 ?_
    obtain rfl := Option.some.inj hp
    refine s1 ?_
    refine res1 rfl (ResOK.tmp rfl) ⟨v3_0, rfl, rfl, rfl⟩ ms
noncomputable def s_l20Have (a0 : D_Ups) (a1 : ByteArray) (a2 : List Bool) : Option (List Int) :=
  Option.bind (some ([] : List Int)) (fun y2 => Option.bind (s_l18At (a0.1, a0.2) a1) (fun y3 => whileP (fun s4 : (List Int) × Int => cond ((decide (s4.2 < 3)) && (decide (0 ≤ y3))) (Option.bind (idx a2 s4.2) (fun y6 => gb y6 (idx a0.2 y3) (fun y7 => gb y6 (s_l18Has y7.2.1 s4.2) (fun y8 => cond (y6 && y8) (Option.bind (appP s4.1 [s4.2]) (fun y11 => some (.inl ((y11, IntKind.wrap .i64 (s4.2 + 1)))))) (some (.inl ((s4.1, IntKind.wrap .i64 (s4.2 + 1))))))))) (Option.map .inr (some s4.1))) (y2, 0)))
theorem s_l20Have_walk (w : World) (a0 : T_Ups) (a1 : ByteArray) (a2 : TL Bool) (h0 : GT.rd w [] a0) (h2 : GT.rd w [] a2) (r : (List Int)) (hp : s_l20Have (GT.dat a0) a1 (GT.dat a2) = some r) : Spec Tryz.prog 50 [.agg (GT.cells a0).toArray, .string a1, (TL.hdr a2)].toArray w [] (fun v M => ∃ (x0 : TL Int), v = (TL.hdr x0) ∧ GT.dat x0 = r ∧ M = [treeH x0]) := by
  obtain ⟨a0_1, a0_2⟩ := a0
  change Spec _ _ ([Value.agg #[.int .i64 a0_1, (TL.hdr a0_2)], .string a1, (TL.hdr a2)] : List Value).toArray w [] _
  refine Spec.intro Tryz.func50 rfl Tryz.ntmps50 rfl ?_
  unfold s_l20Have at hp
  replace hp := dd hp
  refine s2 ?_
  refine bx fun bk3 => ?_
  refine L_assign (v := (TL.hdr (TL.nil Int 0))) rfl rfl ?_
  refine s3 ?_
  replace hp := ba hp; obtain ⟨y2, hy2, hp⟩ := hp
  refine L_mk0 Int rfl el41.h (fun X1 hdX1 => ?_)
  obtain rfl : GT.dat X1 = y2 := hdX1.trans (Option.some.inj hy2)
  clear hy2 hdX1
  refine s6 ?_
  replace hp := ba hp; obtain ⟨y3, hy3, hp⟩ := hp
  refine L_callX rfl fn57.h rfl (by exact fun w hw => s_l18At_walk w (a0_1, a0_2) a1 (RdT.now (RdT.pair RdT.int (RdT.old h0.2)) hw) _ hy3) ?_
  refine s8 ?_
  refine W_while (σ := (TL Int) × Int) GT.dat (fun ((v4_0, v4_1) : (TL Int) × Int) => [(7, (TL.hdr v4_0)), (9, .int .i64 v4_1)]) (fun ((v4_0, v4_1) : (TL Int) × Int) => [treeH v4_0]) [(2, _), (3, _), (8, _)] [blk bk3 _ _] (X1, 0) hp sb ms ?_
  clear hp
  rintro ⟨v4_0, v4_1⟩ x4 hp hx4
  replace hp := dd hp
  refine kq [2, 3, 7, 8, 9] ?_
  refine s2 ?_
  refine W_D0 [19] mix (by kernel_rfl) rfl ?_
  refine s14 ?_
  refine kp [2, 3, 7, 8, 9, 19] ?_
  refine W_cond rfl (fun hc5 => ?_) (fun hc5 => ?_)
  · replace hp := cond_t hc5 hp
    refine s4 ?_
    replace hp := idx_bind hp; obtain ⟨u6, hy6, hp⟩ := hp
    replace hp := idx_gb hp; obtain ⟨⟨u7_1, u7_2, u7_3⟩, hy7, hp⟩ := hp
    replace hp := gb_any hp; obtain ⟨y8, hy8, hp⟩ := hp
    refine W_D0 [35] mix (by kernel_rfl) rfl ?_
    refine s2 ?_
    refine D_idxA (X := a2) GC.none (OpV.t rfl) (OpV.t rfl) el46.h (RdT.old h2) (fun _ => hy6) ?_
    refine D_load0 GC.none (OpV.t rfl) (fun hg => RdT.at (RdT.old h2) (hy6).2) one4.h rfl ?_
    refine s4 ?_
    refine D_idxA (X := a0_2) (GC.some rfl rfl) (OpV.s rfl) (OpV.s rfl) el27.h (RdT.old h0.2) (fun hg => hy7 hg.2) ?_
    refine s1 ?_
    refine D_load (GC.some rfl rfl) (OpV.s rfl) (fun hg => RdT.at (RdT.old h0.2) (hy7 hg.2).2) one41.h rfl ?_
    refine s1 ?_
    refine D_callX (GC.some rfl rfl) fn51.h (OpVs.cons (OpV.s rfl) (OpVs.cons (OpV.s rfl) (OpVs.nil))) (by exact fun hg w F hF hM => s_l18Has_walk w u7_2 v4_1 (RdT.nowS (RdT.fst (RdT.snd (RdT.of (RdT.old h0.2) (hy7 hg.2).2))) hF hM) _ (hy8 hg.2)) ?_
    refine s17 ?_
    refine kp [2, 3, 7, 8, 9, 35] ?_
    refine W_cond rfl (fun hc9 => ?_) (fun hc9 => ?_)
    · replace hp := cond_t hc9 hp
      refine s3 ?_
      refine L_buildSlice1 rfl rfl el41.h rfl (by decide) (by decide) rfl (fun bb38 => ?_)
      replace hp := ba hp; obtain ⟨y11, hy11, hp⟩ := hp
      refine L_app1F (X := v4_0) (v4_1 : Int) rfl rfl rfl el41.h rfl rfl pk mm  hy11 (by decide) (fun X10 hdX10 => ?_)
      subst hdX10
      refine s7 ?_
      exact ⟨(X10, IntKind.wrap .i64 (v4_1 + 1)), sb, (.sub ms), some_eq hp⟩
    · replace hp := cond_f hc9 hp
      refine s6 ?_
      exact ⟨(v4_0, IntKind.wrap .i64 (v4_1 + 1)), sb, (.sub ms), some_eq hp⟩
  · replace hp := cond_f hc5 hp
    refine W_exit ?_
    replace hp := map_any hp; obtain ⟨a12, hp, hx_a12⟩ := hp
    obtain rfl := hx4 _ hx_a12
    refine s5 ?_
    obtain rfl := Option.some.inj hp
    refine s1 ?_
    refine res1 rfl (ResOK.tmp rfl) ⟨v4_0, rfl, rfl, rfl⟩ ms
noncomputable def s_Repairs (a0 : D_Catalog) (a1 : D_Ups) (a2 : List Bool) : Option (List D_Copy) :=
  Option.bind (some ([] : List D_Copy)) (fun y2 => Option.bind (s_CatOk a0) (fun y3 => gb (!(!y3)) (s_UpsOk (a1.1, a1.2)) (fun y4 => cond (((!y3) || (!y4)) || (!decide ((a2.length : Int) = 3))) (some y2) (Option.bind (s_AllChunks a0) (fun y6 => whileP (fun s7 : (List D_Copy) × Int => cond (decide (s7.2 < (y6.length : Int))) (Option.bind (idx y6 s7.2) (fun y9 => Option.bind (s_l20Have (a1.1, a1.2) y9 a2) (fun y10 => whileP (fun s11 : (List D_Copy) × Int × Int => cond (((decide (s11.2.2 < 3)) && (decide (0 < (y10.length : Int)))) && (decide (0 < s11.2.1))) (Option.bind (idx a2 s11.2.2) (fun y13 => gb y13 (s_l18Has y10 s11.2.2) (fun y14 => cond (y13 && (!y14)) (Option.bind (idx y6 s7.2) (fun y16 => Option.bind (idx y10 0) (fun y17 => Option.bind (appP s11.1 [(y16, y17, s11.2.2)]) (fun y19 => some (.inl ((y19, IntKind.wrap .i64 (s11.2.1 - 1), IntKind.wrap .i64 (s11.2.2 + 1)))))))) (some (.inl ((s11.1, s11.2.1, IntKind.wrap .i64 (s11.2.2 + 1)))))))) (Option.map .inr (some (.inl ((s11.1, IntKind.wrap .i64 (s7.2 + 1))))))) (s7.1, IntKind.wrap .i64 (2 - (y10.length : Int)), 0)))) (Option.map .inr (some s7.1))) (y2, 0))))))
theorem s_Repairs_walk (w : World) (a0 : T_Catalog) (a1 : T_Ups) (a2 : TL Bool) (h0 : GT.rd w [] a0) (h1 : GT.rd w [] a1) (h2 : GT.rd w [] a2) (r : (List D_Copy)) (hp : s_Repairs (GT.dat a0) (GT.dat a1) (GT.dat a2) = some r) : Spec Tryz.prog 20 [.agg (GT.cells a0).toArray, .agg (GT.cells a1).toArray, (TL.hdr a2)].toArray w [] (fun v M => ∃ (x0 : TL T_Copy), v = (TL.hdr x0) ∧ GT.dat x0 = r ∧ M = [treeH x0]) := by
  obtain ⟨a1_1, a1_2⟩ := a1
  change Spec _ _ ([Value.agg #[(TL.hdr a0)], Value.agg #[.int .i64 a1_1, (TL.hdr a1_2)], (TL.hdr a2)] : List Value).toArray w [] _
  refine Spec.intro Tryz.func20 rfl Tryz.ntmps20 rfl ?_
  unfold s_Repairs at hp
  replace hp := dd hp
  refine s2 ?_
  refine bx fun bk3 => ?_
  refine bx fun bk4 => ?_
  refine L_assign (v := (TL.hdr (TL.nil T_Copy 0))) rfl rfl ?_
  refine s3 ?_
  replace hp := ba hp; obtain ⟨y2, hy2, hp⟩ := hp
  refine L_mk0 T_Copy rfl el49.h (fun X1 hdX1 => ?_)
  obtain rfl : GT.dat X1 = y2 := hdX1.trans (Option.some.inj hy2)
  clear hy2 hdX1
  refine s4 ?_
  replace hp := ba hp; obtain ⟨y3, hy3, hp⟩ := hp
  replace hp := gb_any hp; obtain ⟨y4, hy4, hp⟩ := hp
  refine W_D0 [26] mix (by kernel_rfl) rfl ?_
  refine s1 ?_
  refine D_callX GC.none fn17.h (OpVs.cons (OpV.t rfl) (OpVs.nil)) (by exact fun hg w F hF hM => s_CatOk_walk w a0 (RdT.nowS (RdT.old h0) hF hM) _ hy3) ?_
  refine s3 ?_
  refine D_callX (GC.some rfl rfl) fn12.h (OpVs.cons (OpV.s rfl) (OpVs.nil)) (by exact fun hg w F hF hM => s_UpsOk_walk w (a1_1, a1_2) (RdT.nowS (RdT.pair RdT.int (RdT.old h1.2)) hF hM) _ (hy4 (gnot hg.2))) ?_
  refine s4 ?_
  refine D_lenP (X := a2) (GC.some rfl rfl) (OpV.s rfl) el46.h ?_
  refine s17 ?_
  refine kp [2, 3, 4, 7, 26] ?_
  refine W_cond rfl (fun hc5 => ?_) (fun hc5 => ?_)
  · replace hp := cond_t hc5 hp
    refine s5 ?_
    obtain rfl := Option.some.inj hp
    refine s1 ?_
    refine res1 rfl (ResOK.tmp rfl) ⟨X1, rfl, rfl, rfl⟩ ms
  · replace hp := cond_f hc5 hp
    refine s4 ?_
    replace hp := ba hp; obtain ⟨y6, hy6, hp⟩ := hp
    refine L_callR rfl fn13.h rfl (by exact fun w hw => s_AllChunks_walk w a0 (RdT.now (RdT.old h0) hw) _ hy6) ?_
    rintro _ _ ⟨y6x0, rfl, rfl, rfl⟩
    refine sc ?_
    replace hp := dd hp
    refine s8 ?_
    refine W_while (σ := (TL T_Copy) × Int) GT.dat (fun ((v7_0, v7_1) : (TL T_Copy) × Int) => [(7, (TL.hdr v7_0)), (9, .int .i64 v7_1)]) (fun ((v7_0, v7_1) : (TL T_Copy) × Int) => [treeH v7_0]) [(2, _), (4, _), (8, _)] [blk bk4 _ _, treeH y6x0] (X1, 0) hp sb ms ?_
    clear hp
    rintro ⟨v7_0, v7_1⟩ x7 hp hx7
    replace hp := dd hp
    refine kq [2, 4, 7, 8, 9] ?_
    refine s8 ?_
    refine kp [2, 4, 7, 8, 9, 33] ?_
    refine W_cond rfl (fun hc8 => ?_) (fun hc8 => ?_)
    · replace hp := cond_t hc8 hp
      refine s4 ?_
      replace hp := idx_bind hp; obtain ⟨u9, hy9, hp⟩ := hp
      refine W_DS (pre := [_, _, _, _, _, _]) (suf := [_, _]) [36, 40, 41] [] _ pc mix (by kernel_rfl) (by kernel_rfl) rfl ?_
      refine s3 ?_
      refine D_idxA (X := y6x0) GC.none (OpV.t rfl) (OpV.t rfl) el32.h (RdT.tree mm) (fun _ => hy9) ?_
      refine D_load0 GC.none (OpV.t rfl) (fun hg => RdT.at (RdT.tree mm) (hy9).2) one9.h rfl ?_
      refine s9 ?_
      replace hp := ba hp; obtain ⟨y10, hy10, hp⟩ := hp
      refine L_callR rfl fn50.h rfl (by exact fun w hw => s_l20Have_walk w (a1_1, a1_2) u9 a2 (RdT.now (RdT.pair RdT.int (RdT.old h1.2)) hw) (RdT.now (RdT.old h2) hw) _ hy10) ?_
      rintro _ _ ⟨y10x0, rfl, rfl, rfl⟩
      refine sc ?_
      replace hp := dd hp
      refine s14 ?_
      refine W_while (σ := (TL T_Copy) × Int × Int) GT.dat (fun ((v11_0, v11_1, v11_2) : (TL T_Copy) × Int × Int) => [(7, (TL.hdr v11_0)), (11, .int .i64 v11_1), (12, .int .i64 v11_2)]) (fun ((v11_0, v11_1, v11_2) : (TL T_Copy) × Int × Int) => [treeH v11_0]) [(2, _), (4, _), (8, _), (9, _), (10, _)] [blk bk4 _ _, treeH y6x0, treeH y10x0] (v7_0, IntKind.wrap .i64 (2 - ((GT.dat y10x0).length : Int)), 0) hp sb ms ?_
      clear hp
      rintro ⟨v11_0, v11_1, v11_2⟩ x11 hp hx11
      replace hp := dd hp
      refine kq [2, 4, 7, 8, 9, 10, 11, 12] ?_
      refine s2 ?_
      refine W_D0 [56] mix (by kernel_rfl) rfl ?_
      refine s4 ?_
      refine D_lenP (X := y10x0) (GC.some rfl rfl) (OpV.s rfl) el41.h ?_
      refine s19 ?_
      refine kp [2, 4, 7, 8, 9, 10, 11, 12, 56] ?_
      refine W_cond rfl (fun hc12 => ?_) (fun hc12 => ?_)
      · replace hp := cond_t hc12 hp
        refine s4 ?_
        replace hp := idx_bind hp; obtain ⟨u13, hy13, hp⟩ := hp
        replace hp := gb_any hp; obtain ⟨y14, hy14, hp⟩ := hp
        refine W_D0 [68] mix (by kernel_rfl) rfl ?_
        refine s2 ?_
        refine D_idxA (X := a2) GC.none (OpV.t rfl) (OpV.t rfl) el46.h (RdT.old h2) (fun _ => hy13) ?_
        refine D_load0 GC.none (OpV.t rfl) (fun hg => RdT.at (RdT.old h2) (hy13).2) one4.h rfl ?_
        refine s3 ?_
        refine D_callX (GC.some rfl rfl) fn51.h (OpVs.cons (OpV.s rfl) (OpVs.cons (OpV.s rfl) (OpVs.nil))) (by exact fun hg w F hF hM => s_l18Has_walk w y10x0 v11_2 (RdT.nowS (RdT.tree mm) hF hM) _ (hy14 hg.2)) ?_
        refine s14 ?_
        refine kp [2, 4, 7, 8, 9, 10, 11, 12, 68] ?_
        refine W_cond rfl (fun hc15 => ?_) (fun hc15 => ?_)
        · replace hp := cond_t hc15 hp
          refine s1 ?_
          replace hp := idx_bind hp; obtain ⟨u16, hy16, hp⟩ := hp
          obtain rfl : u9 = u16 := Option.some.inj (hy9.2.symm.trans hy16.2)
          replace hp := idx_bind hp; obtain ⟨u17, hy17, hp⟩ := hp
          refine W_DS (pre := [_, _, _, _, _, _, _, _, _, _, _]) (suf := [_, _]) [69, 79] [] _ pc mix (by kernel_rfl) (by kernel_rfl) rfl ?_
          refine s3 ?_
          refine D_idxA (X := y6x0) GC.none (OpV.t rfl) (OpV.t rfl) el32.h (RdT.tree mm) (fun _ => hy9) ?_
          refine D_load0 GC.none (OpV.t rfl) (fun hg => RdT.at (RdT.tree mm) (hy9).2) one9.h rfl ?_
          refine s1 ?_
          refine D_idxA (X := y10x0) GC.none (OpV.t rfl) OpV.c el41.h (RdT.tree mm) (fun _ => hy17) ?_
          refine D_load0 GC.none (OpV.t rfl) (fun hg => RdT.at (RdT.tree mm) (hy17).2) one3.h rfl ?_
          refine s1 ?_
          refine D_build (xs := [(0, .tmp 73), (1, .tmp 76), (2, .tmp 77)]) (ps := [(0, .string u9), (1, .int .i64 u17), (2, .int .i64 v11_2)]) (cs := [.string u9, .int .i64 u17, .int .i64 v11_2]) (OpVp.cons (OpV.t rfl) (OpVp.cons (OpV.t rfl) (OpVp.cons (OpV.t rfl) (OpVp.nil)))) bld52.h rfl ?_
          refine D_bs1 (OpV.t rfl) el49.h rfl (by decide) (by decide) rfl ?_
          refine s1 ?_
          refine Give_R rfl rfl ?_
          rintro _ _ ⟨bb79, rfl, rfl⟩
          simp only [List.cons_append, List.nil_append]
          refine s11 ?_
          replace hp := ba hp; obtain ⟨y19, hy19, hp⟩ := hp
          refine L_app1F (X := v11_0) ((u9, u17, v11_2) : T_Copy) rfl rfl rfl el49.h rfl rfl pk mm  hy19 (by decide) (fun X18 hdX18 => ?_)
          subst hdX18
          refine s12 ?_
          exact ⟨(X18, IntKind.wrap .i64 (v11_1 - 1), IntKind.wrap .i64 (v11_2 + 1)), sb, (.sub ms), some_eq hp⟩
        · replace hp := cond_f hc15 hp
          refine s6 ?_
          exact ⟨(v11_0, v11_1, IntKind.wrap .i64 (v11_2 + 1)), sb, (.sub ms), some_eq hp⟩
      · replace hp := cond_f hc12 hp
        refine W_exit ?_
        replace hp := map_any hp; obtain ⟨a20, hp, hx_a20⟩ := hp
        obtain rfl := hx11 _ hx_a20
        refine s5 ?_
        exact ⟨(v11_0, IntKind.wrap .i64 (v7_1 + 1)), sb, (.sub ms), some_eq hp⟩
    · replace hp := cond_f hc8 hp
      refine W_exit ?_
      replace hp := map_any hp; obtain ⟨a21, hp, hx_a21⟩ := hp
      obtain rfl := hx7 _ hx_a21
      refine s5 ?_
      obtain rfl := Option.some.inj hp
      refine s1 ?_
      refine res1 rfl (ResOK.tmp rfl) ⟨v7_0, rfl, rfl, rfl⟩ ms
noncomputable def s_DrawRepairAll (a0 : List UInt8) : Option (D_Ups × (List D_Copy)) :=
  Option.bind (s_l1New a0) (fun y1 => Option.bind (s_l15Some (y1.1, y1.2.1, y1.2.2)) (fun y2 => Option.bind (s_l18Some (y2.2.1, y2.2.2.1, y2.2.2.2)) (fun y3 => Option.bind (some ([true, true, true] : List Bool)) (fun y4 => Option.bind (s_Repairs y2.1 (y3.1.1, y3.1.2) y4) (fun y6 => Option.bind (s_l1Once (y3.2.1, y3.2.2.1, y3.2.2.2) 4) (fun y7 => cond y7.1 (Option.bind (s_l18Chunk (y7.2.1, y7.2.2.1, y7.2.2.2)) (fun y9 => Option.bind (s_l1Below (y9.2.1, y9.2.2.1, y9.2.2.2) 3) (fun y10 => Option.bind (s_l1Below (y10.2.1, y10.2.2.1, y10.2.2.2) 4) (fun y11 => Option.bind (appP y6 [(y9.1, y10.1, y11.1)]) (fun y13 => some ((y3.1.1, y3.1.2), y13)))))) (some ((y3.1.1, y3.1.2), y6))))))))
theorem s_DrawRepairAll_walk (w : World) (a0 : TL UInt8) (h0 : GT.rd w [] a0) (r : D_Ups × (List D_Copy)) (hp : s_DrawRepairAll (GT.dat a0) = some r) : Spec Tryz.prog 23 [(TL.hdr a0)].toArray w [] (fun v M => ∃ (x0 : T_Ups) (x1 : TL T_Copy), v = .tuple #[.agg (GT.cells x0).toArray, (TL.hdr x1)] ∧ (GT.dat x0, GT.dat x1) = r ∧ M = [treeH x0, treeH x1]) := by
  refine Spec.intro Tryz.func23 rfl Tryz.ntmps23 rfl ?_
  unfold s_DrawRepairAll at hp
  replace hp := dd hp
  refine s2 ?_
  refine al fun bk2 => ?_
  refine L_assign (v := (TL.hdr (TL.nil T_Copy 0))) rfl rfl ?_
  refine s4 ?_
  replace hp := ba hp; obtain ⟨y1, hy1, hp⟩ := hp
  refine L_callR rfl fn26.h rfl (by exact fun w hw => s_l1New_walk w a0 (RdT.now (RdT.old h0) hw) _ hy1) ?_
  rintro _ _ ⟨bky1, ⟨y1x_1, y1x_2, y1x_3⟩, rfl, rfl, rfl, hey1_0⟩
  obtain rfl : a0 = y1x_1 := hey1_0.symm
  refine sc ?_
  replace hp := dd hp
  refine s5 ?_
  replace hp := ba hp; obtain ⟨y2, hy2, hp⟩ := hp
  refine L_callM [blk bky1 _ _] _ rfl fn27.h rfl pc (by exact fun w hw => s_l15Some_walk w bky1 (a0, y1x_2, y1x_3) ((RdX.old h0) w hw) _ hy2) ?_
  rintro _ _ ⟨y2x0, ⟨y2y0_1, y2y0_2, y2y0_3⟩, rfl, rfl, rfl, hey2_0⟩
  obtain rfl : a0 = y2y0_1 := hey2_0.symm
  refine sc ?_
  replace hp := dd hp
  refine al fun bk5 => ?_
  refine s5 ?_
  replace hp := ba hp; obtain ⟨y3, hy3, hp⟩ := hp
  refine L_callM [blk bky1 _ _] _ rfl fn28.h rfl pc (by exact fun w hw => s_l18Some_walk w bky1 (a0, y2y0_2, y2y0_3) ((RdX.old h0) w hw) _ hy3) ?_
  rintro _ _ ⟨⟨y3x0_1, y3x0_2⟩, ⟨y3y0_1, y3y0_2, y3y0_3⟩, rfl, rfl, rfl, hey3_0⟩
  obtain rfl : a0 = y3y0_1 := hey3_0.symm
  refine sc ?_
  replace hp := dd hp
  refine xL ((y3x0_1, y3x0_2) : T_Ups) ?_
  refine al fun bk6 => ?_
  refine s6 ?_
  replace hp := ba hp; obtain ⟨y4, hy4, hp⟩ := hp
  refine L_bsN ([true, true, true] : List Bool) (xs := [(0, .const (.bool true)), (1, .const (.bool true)), (2, .const (.bool true))]) rfl rfl el46.h rfl rfl rfl rfl rfl rfl rfl hy4 (fun X5 hdX5 => ?_)
  subst hdX5
  replace hp := ba hp; obtain ⟨y6, hy6, hp⟩ := hp
  refine L_callR rfl fn20.h rfl (by exact fun w hw => s_Repairs_walk w y2x0 (y3x0_1, y3x0_2) X5 (RdT.now (RdT.tree mm) hw) (RdT.now (RdT.pair RdT.int (RdT.tree mm)) hw) (RdT.now (RdT.tree mm) hw) _ hy6) ?_
  rintro _ _ ⟨y6x0, rfl, rfl, rfl⟩
  refine sc ?_
  replace hp := dd hp
  refine s6 ?_
  replace hp := ba hp; obtain ⟨y7, hy7, hp⟩ := hp
  refine L_callM [blk bky1 _ _] _ rfl fn29.h rfl pc (by exact fun w hw => s_l1Once_walk w bky1 (a0, y3y0_2, y3y0_3) 4 ((RdX.old h0) w hw) _ hy7) ?_
  rintro _ _ ⟨y7x0, ⟨y7y0_1, y7y0_2, y7y0_3⟩, rfl, rfl, rfl, hey7_0⟩
  obtain rfl : a0 = y7y0_1 := hey7_0.symm
  refine sc ?_
  replace hp := dd hp
  refine s1 ?_
  refine kp [2, 4, 6, 7, 19] ?_
  refine W_cond rfl (fun hc8 => ?_) (fun hc8 => ?_)
  · replace hp := cond_t hc8 hp
    refine s3 ?_
    replace hp := ba hp; obtain ⟨y9, hy9, hp⟩ := hp
    refine L_callM [blk bky1 _ _] _ rfl fn55.h rfl pc (by exact fun w hw => s_l18Chunk_walk w bky1 (a0, y7y0_2, y7y0_3) ((RdX.old h0) w hw) _ hy9) ?_
    rintro _ _ ⟨y9x0, ⟨y9y0_1, y9y0_2, y9y0_3⟩, rfl, rfl, rfl, hey9_0⟩
    obtain rfl : a0 = y9y0_1 := hey9_0.symm
    refine sc ?_
    replace hp := dd hp
    refine s1 ?_
    replace hp := ba hp; obtain ⟨y10, hy10, hp⟩ := hp
    refine L_callM [blk bky1 _ _] _ rfl fn56.h rfl pc (by exact fun w hw => s_l1Below_walk w bky1 (a0, y9y0_2, y9y0_3) 3 ((RdX.old h0) w hw) _ hy10) ?_
    rintro _ _ ⟨y10x0, ⟨y10y0_1, y10y0_2, y10y0_3⟩, rfl, rfl, rfl, hey10_0⟩
    obtain rfl : a0 = y10y0_1 := hey10_0.symm
    refine sc ?_
    replace hp := dd hp
    refine s1 ?_
    replace hp := ba hp; obtain ⟨y11, hy11, hp⟩ := hp
    refine L_callM [blk bky1 _ _] _ rfl fn56.h rfl pc (by exact fun w hw => s_l1Below_walk w bky1 (a0, y10y0_2, y10y0_3) 4 ((RdX.old h0) w hw) _ hy11) ?_
    rintro _ _ ⟨y11x0, ⟨y11y0_1, y11y0_2, y11y0_3⟩, rfl, rfl, rfl, hey11_0⟩
    obtain rfl : a0 = y11y0_1 := hey11_0.symm
    refine sc ?_
    replace hp := dd hp
    refine L_build (xs := [(0, .tmp 22), (1, .tmp 24), (2, .tmp 26)]) (cs := [.string y9x0, .int .i64 y10x0, .int .i64 y11x0]) rfl rfl bld52.h rfl ?_
    refine L_buildSlice1 rfl rfl el49.h rfl (by decide) (by decide) rfl (fun bb28 => ?_)
    replace hp := ba hp; obtain ⟨y13, hy13, hp⟩ := hp
    refine L_app1F (X := y6x0) ((y9x0, y10x0, y11x0) : T_Copy) rfl rfl rfl el49.h rfl rfl pk mm  hy13 (by decide) (fun X12 hdX12 => ?_)
    subst hdX12
    refine s9 ?_
    obtain rfl := Option.some.inj hp
    refine jW ((y3x0_1, y3x0_2) : T_Ups) ?_
    refine s1 ?_
    refine res2 rfl (ResOK.cell rfl mm (by exact agg29.h)) (ResOK.tmp rfl) ⟨(y3x0_1, y3x0_2), X12, rfl, rfl, rfl⟩ ms
  · replace hp := cond_f hc8 hp
    refine s8 ?_
    obtain rfl := Option.some.inj hp
    refine jW ((y3x0_1, y3x0_2) : T_Ups) ?_
    refine s1 ?_
    refine res2 rfl (ResOK.cell rfl mm (by exact agg29.h)) (ResOK.tmp rfl) ⟨(y3x0_1, y3x0_2), y6x0, rfl, rfl, rfl⟩ ms
end Go.Proofs.SL
namespace Go.Proofs.SL
open Go
variable {Γ : Cx} {rest : List Oper} {d : Nat} {ty : TypeId} {pos : String} {af : Array Edge} {gd : Option (Nat × Bool)}
variable {ops : Array Oper} {Msh pool : List HP} {E : Fl} {rs : List (Option Nat × Rel)} {cs0 : List Nat} {KD : RKont}
theorem D_lenG {τ δ : Type} [GT τ δ] {t : Nat} {T : TypeId} {e : TypeId × Nat × Nat × List Value} {c c0 : Prop} {r : List δ} {R : Rel} (hR : E.lookup t = some (GR c0 R)) (himp : c → c0) (hv : ∀ v M, R v M → ∃ X : TL τ, v = X.hdr ∧ GT.dat X = r)
    (hg : GC ops E { dst := some d, op := .call { callee := .builtin .len, args := #[.tmp t], argTypes := #[T] }, type := ty, pos := pos, after := af, guard := gd } c) (ht : elOf Γ.P T = some e)
    (hk : DV Γ ops Msh pool ((d, FC c (.int .i64 (r.length : Int))) :: E) ((some d, FC c (.int .i64 (r.length : Int))) :: rs) cs0 rest KD) :
    DV Γ ops Msh pool E rs cs0 ({ dst := some d, op := .call { callee := .builtin .len, args := #[.tmp t], argTypes := #[T] }, type := ty, pos := pos, after := af, guard := gd } :: rest) KD :=
  DV_pure c _ hg (fun a' w F hc hf _ => by
    have h1 := OpRs.evals (o := { dst := some d, op := .call { callee := .builtin .len, args := #[.tmp t], argTypes := #[T] }, type := ty, pos := pos, after := af, guard := gd }) hf [.tmp t] [GR c0 R] ⟨⟨_, hR, fun _ _ h => h⟩, trivial⟩ (fun x hx => by simp [Op.operands, Call.operands] at hx ⊢; exact hx)
    obtain ⟨v, us, M, e1, hr, -, -⟩ := h1
    obtain ⟨X, hX, hd⟩ := hv v M (hr.1 (himp hc))
    have e2 : a'.eval (.tmp t) = X.hdr := by
      have := List.head_eq_of_cons_eq e1
      rw [this, hX]
    have e3 : a'.eval (.tmp t) = .slice X.a X.els.length X.cap := e2
    have := run_len_slice (z := e) ht X.a X.els.length X.cap ty w
    have hl : r.length = X.els.length := by rw [← hd, dat_els, List.length_map]
    rw [hl]
    simp [execOp, resolve, invoke, builtin, e3, this]) hk
end Go.Proofs.SL
namespace Go.Proofs.SL
open Go
set_option maxHeartbeats 2000000
instance fn94 : FnF Tryz.prog 94 := ⟨⟨_, Tryz.func94, by kernel_rfl, rfl⟩⟩
instance fn93 : FnF Tryz.prog 93 := ⟨⟨_, Tryz.func93, by kernel_rfl, rfl⟩⟩
instance fn81 : FnF Tryz.prog 81 := ⟨⟨_, Tryz.func81, by kernel_rfl, rfl⟩⟩
instance fn82 : FnF Tryz.prog 82 := ⟨⟨_, Tryz.func82, by kernel_rfl, rfl⟩⟩
instance fn83 : FnF Tryz.prog 83 := ⟨⟨_, Tryz.func83, by kernel_rfl, rfl⟩⟩
instance fn67 : FnF Tryz.prog 67 := ⟨⟨_, Tryz.func67, by kernel_rfl, rfl⟩⟩
instance fn32 : FnF Tryz.prog 32 := ⟨⟨_, Tryz.func32, by kernel_rfl, rfl⟩⟩
instance fn69 : FnF Tryz.prog 69 := ⟨⟨_, Tryz.func69, by kernel_rfl, rfl⟩⟩
instance fn70 : FnF Tryz.prog 70 := ⟨⟨_, Tryz.func70, by kernel_rfl, rfl⟩⟩
instance fn38 : FnF Tryz.prog 38 := ⟨⟨_, Tryz.func38, by kernel_rfl, rfl⟩⟩
instance fn48 : FnF Tryz.prog 48 := ⟨⟨_, Tryz.func48, by kernel_rfl, rfl⟩⟩
instance fn49 : FnF Tryz.prog 49 := ⟨⟨_, Tryz.func49, by kernel_rfl, rfl⟩⟩
instance fn74 : FnF Tryz.prog 74 := ⟨⟨_, Tryz.func74, by kernel_rfl, rfl⟩⟩
instance fn33 : FnF Tryz.prog 33 := ⟨⟨_, Tryz.func33, by kernel_rfl, rfl⟩⟩
instance agg52 : AggF Tryz.prog 52 3 := ⟨by kernel_rfl⟩
instance zero52 : ZerF Tryz.prog 52 [.string ByteArray.empty, .int .i64 0, .int .i64 0] := ⟨by kernel_rfl⟩
instance fld52_0 : FldF Tryz.prog 52 0 0 := ⟨by kernel_rfl⟩
instance fld52_1 : FldF Tryz.prog 52 1 1 := ⟨by kernel_rfl⟩
instance fld52_2 : FldF Tryz.prog 52 2 2 := ⟨by kernel_rfl⟩
instance fn54 : FnF Tryz.prog 54 := ⟨⟨_, Tryz.func54, by kernel_rfl, rfl⟩⟩
instance fn5 : FnF Tryz.prog 5 := ⟨⟨_, Tryz.func5, by kernel_rfl, rfl⟩⟩
instance fn18 : FnF Tryz.prog 18 := ⟨⟨_, Tryz.func18, by kernel_rfl, rfl⟩⟩
instance fn19 : FnF Tryz.prog 19 := ⟨⟨_, Tryz.func19, by kernel_rfl, rfl⟩⟩
theorem eqsh52 : eqShape Tryz.prog 52 = some [(9, 0), (3, 1), (3, 2)] := by kernel_rfl
instance fn21 : FnF Tryz.prog 21 := ⟨⟨_, Tryz.func21, by kernel_rfl, rfl⟩⟩
instance fn22 : FnF Tryz.prog 22 := ⟨⟨_, Tryz.func22, by kernel_rfl, rfl⟩⟩
instance fn14 : FnF Tryz.prog 14 := ⟨⟨_, Tryz.func14, by kernel_rfl, rfl⟩⟩
instance fn15 : FnF Tryz.prog 15 := ⟨⟨_, Tryz.func15, by kernel_rfl, rfl⟩⟩
instance fn23 : FnF Tryz.prog 23 := ⟨⟨_, Tryz.func23, by kernel_rfl, rfl⟩⟩
instance fn24 : FnF Tryz.prog 24 := ⟨⟨_, Tryz.func24, by kernel_rfl, rfl⟩⟩
instance fn25 : FnF Tryz.prog 25 := ⟨⟨_, Tryz.func25, by kernel_rfl, rfl⟩⟩
instance fn9 : FnF Tryz.prog 9 := ⟨⟨_, Tryz.func9, by kernel_rfl, rfl⟩⟩
instance und4 : UndF Tryz.prog 4 (.bool) := ⟨by kernel_rfl⟩
noncomputable def i_isWord (a0 : ByteArray) : Option Bool :=
  whileP (fun s1 : Int => cond (decide (s1 < (a0.size : Int))) (Option.bind (sidx a0 s1) (fun y3 => gb (!(decide (y3 < 97))) (sidx a0 s1) (fun y4 => cond ((decide (y3 < 97)) || (decide (122 < y4))) (Option.map .inr (some false)) (some (.inl (IntKind.wrap .i64 (s1 + 1))))))) (Option.map .inr (Option.bind (i_within (a0.size : Int) 1 8) (fun y8 => some y8)))) 0
theorem i_isWord_walk (w : World) (a0 : ByteArray)  (r : Bool) (hp : i_isWord a0 = some r) : Spec Tryz.prog 81 [.string a0].toArray w [] (IsV (.bool r)) := by
  refine Spec.intro Tryz.func81 rfl Tryz.ntmps81 rfl ?_
  unfold i_isWord at hp
  replace hp := dd hp
  refine s10 ?_
  refine W_while (σ := Int) GT.dat (fun (v1_0 : Int) => [(3, .int .i64 v1_0)]) (fun (v1_0 : Int) => []) [(0, _)] [] 0 hp sb ms ?_
  clear hp
  rintro v1_0 x1 hp hx1
  replace hp := dd hp
  refine kq [0, 3] ?_
  refine s8 ?_
  refine kp [0, 3, 7] ?_
  refine W_cond rfl (fun hc2 => ?_) (fun hc2 => ?_)
  · replace hp := cond_t hc2 hp
    refine s4 ?_
    replace hp := ba hp; obtain ⟨y3, hy3, hp⟩ := hp
    replace hp := gb_any hp; obtain ⟨y4, hy4, hp⟩ := hp
    refine W_D0 [19] mix (by kernel_rfl) rfl ?_
    refine s2 ?_
    refine D_idxS GC.none (OpV.t rfl) (OpV.t rfl) str9.h (fun hg => hy3) ?_
    refine s4 ?_
    refine D_idxS (GC.some rfl rfl) (OpV.s rfl) (OpV.s rfl) str9.h (fun hg => (hy4 (gnot hg.2))) ?_
    refine s14 ?_
    refine kp [0, 3, 19] ?_
    refine W_cond rfl (fun hc5 => ?_) (fun hc5 => ?_)
    · replace hp := cond_t hc5 hp
      refine s4 ?_
      replace hp := map_any hp; obtain ⟨a6, hp, hx_a6⟩ := hp
      obtain rfl := hx1 _ hx_a6
      obtain rfl := Option.some.inj hp
      refine s1 ?_
      refine res1 rfl (ResOK.tmp rfl) ⟨rfl, rfl⟩ ms
    · replace hp := cond_f hc5 hp
      refine s6 ?_
      exact ⟨IntKind.wrap .i64 (v1_0 + 1), sb, (.sub ms), some_eq hp⟩
  · replace hp := cond_f hc2 hp
    refine W_exit ?_
    replace hp := map_any hp; obtain ⟨a7, hp, hx_a7⟩ := hp
    obtain rfl := hx1 _ hx_a7
    refine s4 ?_
    replace hp := ba hp; obtain ⟨y8, hy8, hp⟩ := hp
    refine L_callX rfl fn66.h rfl (by exact fun w hw => i_within_walk w (a0.size : Int) 1 8  _ hy8) ?_
    refine s2 ?_
    obtain rfl := Option.some.inj hp
    refine s1 ?_
    refine res1 rfl (ResOK.tmp rfl) ⟨rfl, rfl⟩ ms
noncomputable def i_areChunks (a0 : List ByteArray) : Option Bool :=
  whileP (fun s1 : Int => cond (decide (s1 < (a0.length : Int))) (Option.bind (idx a0 s1) (fun y3 => cond (!decide ((y3.size : Int) = 8)) (Option.map .inr (some false)) (some (.inl (IntKind.wrap .i64 (s1 + 1)))))) (Option.map .inr (some true))) 0
theorem i_areChunks_walk (w : World) (a0 : TL ByteArray) (h0 : GT.rd w [] a0) (r : Bool) (hp : i_areChunks (GT.dat a0) = some r) : Spec Tryz.prog 82 [(TL.hdr a0)].toArray w [] (IsV (.bool r)) := by
  refine Spec.intro Tryz.func82 rfl Tryz.ntmps82 rfl ?_
  unfold i_areChunks at hp
  replace hp := dd hp
  refine s12 ?_
  refine W_while (σ := Int) GT.dat (fun (v1_0 : Int) => [(7, .int .i64 v1_0)]) (fun (v1_0 : Int) => []) [(5, _), (6, _)] [] 0 hp sb ms ?_
  clear hp
  rintro v1_0 x1 hp hx1
  replace hp := dd hp
  refine kq [5, 6, 7] ?_
  refine s5 ?_
  refine kp [5, 6, 7, 8] ?_
  refine W_cond rfl (fun hc2 => ?_) (fun hc2 => ?_)
  · replace hp := cond_t hc2 hp
    refine s5 ?_
    replace hp := idx_bind hp; obtain ⟨u3, hy3, hp⟩ := hp
    refine L_idxA (X := a0) rfl rfl rfl el32.h (RdT.old h0) hy3 ?_
    refine L_load0 rfl rfl (RdT.at (RdT.old h0) (hy3).2) one9.h rfl ?_
    refine s8 ?_
    refine kp [5, 6, 7, 13] ?_
    refine W_cond rfl (fun hc4 => ?_) (fun hc4 => ?_)
    · replace hp := cond_t hc4 hp
      refine s4 ?_
      replace hp := map_any hp; obtain ⟨a5, hp, hx_a5⟩ := hp
      obtain rfl := hx1 _ hx_a5
      obtain rfl := Option.some.inj hp
      refine s1 ?_
      refine res1 rfl (ResOK.tmp rfl) ⟨rfl, rfl⟩ ms
    · replace hp := cond_f hc4 hp
      refine s5 ?_
      exact ⟨IntKind.wrap .i64 (v1_0 + 1), sb, (.sub ms), some_eq hp⟩
  · replace hp := cond_f hc2 hp
    refine W_exit ?_
    replace hp := map_any hp; obtain ⟨a6, hp, hx_a6⟩ := hp
    obtain rfl := hx1 _ hx_a6
    refine s4 ?_
    obtain rfl := Option.some.inj hp
    refine s1 ?_
    refine res1 rfl (ResOK.tmp rfl) ⟨rfl, rfl⟩ ms
noncomputable def i_CSet_snap_c1 (a0 : D_CSnap) (c0 : ByteArray) : Option Bool :=
  some (decide (a0.1 = c0))
theorem i_CSet_snap_c1_walk (w : World) (a0 : T_CSnap) (b0 : Nat) (c0 : ByteArray) (h0 : GT.rd w [] a0) (hb0 : Cells w [] b0 0 (GT.cells c0)) (hc0 : GT.rd w [] c0) (r : Bool) (hp : i_CSet_snap_c1 (GT.dat a0) c0 = some r) : Spec Tryz.prog 94 ([(.agg (GT.cells a0).toArray : Value)] ++ [Value.pointer (some ⟨b0, 0, none⟩)]).toArray w [] (IsV (.bool r)) := by
  obtain ⟨a0_1, a0_2, a0_3⟩ := a0
  change Spec _ _ ([Value.agg #[.string a0_1, .string a0_2, (TL.hdr a0_3)], Value.pointer (some ⟨b0, 0, none⟩)] : List Value).toArray w [] _
  refine Spec.intro Tryz.func94 rfl Tryz.ntmps94 rfl ?_
  unfold i_CSet_snap_c1 at hp
  replace hp := dd hp
  refine s2 ?_
  refine bx fun bk2 => ?_
  refine s6 ?_
  refine L_load0 rfl rfl (RdC.old hb0) one9.h rfl ?_
  refine s3 ?_
  obtain rfl := Option.some.inj hp
  refine s1 ?_
  refine res1 rfl (ResOK.tmp rfl) ⟨rfl, rfl⟩ ms
noncomputable def sl_IndexFunc_implCSnapimplCSnap (a0 : List D_CSnap) (a1 : D_CSnap → Option Bool) : Option Int :=
  whileP (fun s1 : Int => cond (decide (s1 < (a0.length : Int))) (Option.bind (idx a0 s1) (fun y3 => Option.bind (a1 (y3.1, y3.2.1, y3.2.2)) (fun y4 => cond y4 (Option.map .inr (some s1)) (some (.inl (IntKind.wrap .i64 (s1 + 1))))))) (Option.map .inr (some (-1)))) 0
theorem sl_IndexFunc_implCSnapimplCSnap_walk (w : World) (a0 : TL T_CSnap) (f1 : Nat) (cs1 : List Value) (a1 : D_CSnap → Option Bool) (h0 : GT.rd w [] a0) (hf1 : IsFn Tryz.prog f1) (hk1 : ∀ (w' : World) (F : List HP) (u0 : T_CSnap) (v : Bool), Holds w [] F w' → GT.rd w' [] u0 → a1 (GT.dat u0) = some v → Spec Tryz.prog f1 ([Value.agg (GT.cells u0).toArray] ++ cs1).toArray w' [] (IsV (.bool v))) (r : Int) (hp : sl_IndexFunc_implCSnapimplCSnap (GT.dat a0) a1 = some r) : Spec Tryz.prog 93 [(TL.hdr a0), .func (.func f1) #[] cs1.toArray].toArray w [] (IsV (.int .i64 r)) := by
  refine Spec.intro Tryz.func93 rfl Tryz.ntmps93 rfl ?_
  unfold sl_IndexFunc_implCSnapimplCSnap at hp
  replace hp := dd hp
  refine s12 ?_
  refine W_while (σ := Int) GT.dat (fun (v1_0 : Int) => [(8, .int .i64 v1_0)]) (fun (v1_0 : Int) => []) [(0, _), (1, _), (7, _)] [] 0 hp sb ms ?_
  clear hp
  rintro v1_0 x1 hp hx1
  replace hp := dd hp
  refine kq [0, 1, 7, 8] ?_
  refine s5 ?_
  refine kp [0, 1, 7, 8, 9] ?_
  refine W_cond rfl (fun hc2 => ?_) (fun hc2 => ?_)
  · replace hp := cond_t hc2 hp
    refine s13 ?_
    replace hp := idx_bind hp; obtain ⟨⟨u3_1, u3_2, u3_3⟩, hy3, hp⟩ := hp
    refine L_idxA (X := a0) rfl rfl rfl el67.h (RdT.old h0) hy3 ?_
    refine L_loadW rfl rfl (RdT.at (RdT.old h0) (hy3).2) (by exact agg71.h) ?_
    replace hp := ba hp; obtain ⟨y4, hy4, hp⟩ := hp
    refine L_callVX rfl rfl hf1 rfl (by exact fun w hw => hk1 w _ (u3_1, u3_2, u3_3) y4 hw (RdT.now (RdT.pair RdT.str (RdT.pair RdT.str (RdT.snd (RdT.snd (RdT.of (RdT.old h0) (hy3).2))))) hw) hy4) ?_
    refine s1 ?_
    refine kp [0, 1, 5, 7, 8, 16] ?_
    refine W_cond rfl (fun hc5 => ?_) (fun hc5 => ?_)
    · replace hp := cond_t hc5 hp
      refine s5 ?_
      replace hp := map_any hp; obtain ⟨a6, hp, hx_a6⟩ := hp
      obtain rfl := hx1 _ hx_a6
      obtain rfl := Option.some.inj hp
      refine s1 ?_
      refine res1 rfl (ResOK.tmp rfl) ⟨rfl, rfl⟩ ms
    · replace hp := cond_f hc5 hp
      refine s5 ?_
      exact ⟨IntKind.wrap .i64 (v1_0 + 1), sb, (.sub ms), some_eq hp⟩
  · replace hp := cond_f hc2 hp
    refine W_exit ?_
    replace hp := map_any hp; obtain ⟨a7, hp, hx_a7⟩ := hp
    obtain rfl := hx1 _ hx_a7
    refine s4 ?_
    obtain rfl := Option.some.inj hp
    refine s1 ?_
    refine res1 rfl (ResOK.tmp rfl) ⟨rfl, rfl⟩ ms
noncomputable def i_CSet_snap (a0 : D_CSet) (a1 : ByteArray) : Option Int :=
  Option.bind (sl_IndexFunc_implCSnapimplCSnap a0.2 (fun z0 => i_CSet_snap_c1 z0 a1)) (fun y1 => some y1)
theorem i_CSet_snap_walk (w : World) (a0 : T_CSet) (a1 : ByteArray) (h0 : GT.rd w [] a0) (r : Int) (hp : i_CSet_snap (GT.dat a0) a1 = some r) : Spec Tryz.prog 83 [.agg (GT.cells a0).toArray, .string a1].toArray w [] (IsV (.int .i64 r)) := by
  obtain ⟨a0_1, a0_2⟩ := a0
  change Spec _ _ ([Value.agg #[.string a0_1, (TL.hdr a0_2)], .string a1] : List Value).toArray w [] _
  refine Spec.intro Tryz.func83 rfl Tryz.ntmps83 rfl ?_
  unfold i_CSet_snap at hp
  replace hp := dd hp
  refine s2 ?_
  refine bx fun bk2 => ?_
  refine bx fun bk3 => ?_
  refine s6 ?_
  refine L_makeFunc (fs := []) (cs := [.tmp 3]) rfl rfl rfl ?_
  replace hp := ba hp; obtain ⟨y1, hy1, hp⟩ := hp
  refine L_callX rfl fn93.h rfl (by exact fun w hw => sl_IndexFunc_implCSnapimplCSnap_walk w a0_2 94 [Value.pointer (some ⟨bk3, 0, none⟩)] (fun z0 => i_CSet_snap_c1 z0 a1) (RdT.now (RdT.old h0.2) hw) fn94.h (fun w' F u0 v hF hu0 hv => i_CSet_snap_c1_walk w' u0 bk3 a1 hu0 ((cells_of_blk mm hw.sees).carry hF) (rd_carry (RdT.now RdT.str hw) hF) v hv) _ hy1) ?_
  refine s2 ?_
  obtain rfl := Option.some.inj hp
  refine s1 ?_
  refine res1 rfl (ResOK.tmp rfl) ⟨rfl, rfl⟩ ms
noncomputable def i_setOk (a0 : D_CSet) : Option Bool :=
  whileP (fun s1 : Int => cond (decide (s1 < (a0.2.length : Int))) (Option.bind (idx a0.2 s1) (fun y3 => Option.bind (i_isWord y3.1) (fun y4 => gb ((!(!y4)) && (!decide (y3.2.1 = ByteArray.empty))) (i_isWord y3.2.1) (fun y5 => gb (!((!y4) || ((!decide (y3.2.1 = ByteArray.empty)) && (!y5)))) (i_within (y3.2.2.length : Int) 1 4) (fun y6 => gb (!(((!y4) || ((!decide (y3.2.1 = ByteArray.empty)) && (!y5))) || (!y6))) (i_areChunks y3.2.2) (fun y7 => gb (!((((!y4) || ((!decide (y3.2.1 = ByteArray.empty)) && (!y5))) || (!y6)) || (!y7))) (i_CSet_snap (a0.1, a0.2) y3.1) (fun y8 => cond (((((!y4) || ((!decide (y3.2.1 = ByteArray.empty)) && (!y5))) || (!y6)) || (!y7)) || (!decide (y8 = s1))) (Option.map .inr (some false)) (some (.inl (IntKind.wrap .i64 (s1 + 1))))))))))) (Option.map .inr (Option.bind (i_isWord a0.1) (fun y12 => some (y12 && (decide ((a0.2.length : Int) ≤ 5))))))) 0
theorem i_setOk_walk (w : World) (a0 : T_CSet) (h0 : GT.rd w [] a0) (r : Bool) (hp : i_setOk (GT.dat a0) = some r) : Spec Tryz.prog 67 [.agg (GT.cells a0).toArray].toArray w [] (IsV (.bool r)) := by
  obtain ⟨a0_1, a0_2⟩ := a0
  change Spec _ _ ([Value.agg #[.string a0_1, (TL.hdr a0_2)]] : List Value).toArray w [] _
  refine Spec.intro Tryz.func67 rfl Tryz.ntmps67 rfl ?_
  unfold i_setOk at hp
  replace hp := dd hp
  refine s2 ?_
  refine bx fun bk1 => ?_
  refine s11 ?_
  refine W_while (σ := Int) GT.dat (fun (v1_0 : Int) => [(8, .int .i64 v1_0)]) (fun (v1_0 : Int) => []) [(1, _), (6, _), (7, _)] [blk bk1 _ _] 0 hp sb ms ?_
  clear hp
  rintro v1_0 x1 hp hx1
  replace hp := dd hp
  refine kq [1, 6, 7, 8] ?_
  refine s5 ?_
  refine kp [1, 6, 7, 8, 9] ?_
  refine W_cond rfl (fun hc2 => ?_) (fun hc2 => ?_)
  · replace hp := cond_t hc2 hp
    refine s6 ?_
    replace hp := idx_bind hp; obtain ⟨⟨u3_1, u3_2, u3_3⟩, hy3, hp⟩ := hp
    refine L_idxA (X := a0_2) rfl rfl rfl el67.h (RdT.old h0.2) hy3 ?_
    refine L_loadW rfl rfl (RdT.at (RdT.old h0.2) (hy3).2) (by exact agg71.h) ?_
    refine al fun bk4 => ?_
    refine s4 ?_
    replace hp := ba hp; obtain ⟨y4, hy4, hp⟩ := hp
    replace hp := gb_any hp; obtain ⟨y5, hy5, hp⟩ := hp
    replace hp := gb_any hp; obtain ⟨y6, hy6, hp⟩ := hp
    replace hp := gb_any hp; obtain ⟨y7, hy7, hp⟩ := hp
    replace hp := gb_any hp; obtain ⟨y8, hy8, hp⟩ := hp
    refine W_D0 [48] mix (by kernel_rfl) rfl ?_
    refine s2 ?_
    refine D_callX GC.none fn81.h (OpVs.cons (OpV.t rfl) (OpVs.nil)) (by exact fun hg w F hF hM => i_isWord_walk w u3_1  _ hy4) ?_
    refine s8 ?_
    refine D_callX (GC.some rfl rfl) fn81.h (OpVs.cons (OpV.s rfl) (OpVs.nil)) (by exact fun hg w F hF hM => i_isWord_walk w u3_2  _ (hy5 (gand (gnot hg.1.2) hg.2))) ?_
    refine s6 ?_
    refine D_lenP (X := u3_3) (GC.some rfl rfl) (OpV.s rfl) el32.h ?_
    refine D_callX (GC.some rfl rfl) fn66.h (OpVs.cons (OpV.s rfl) (OpVs.cons OpV.c (OpVs.cons OpV.c (OpVs.nil)))) (by exact fun hg w F hF hM => i_within_walk w ((GT.dat u3_3).length : Int) 1 4  _ (hy6 (gnot hg.2))) ?_
    refine s5 ?_
    refine D_callX (GC.some rfl rfl) fn82.h (OpVs.cons (OpV.s rfl) (OpVs.nil)) (by exact fun hg w F hF hM => i_areChunks_walk w u3_3 (RdT.nowS (RdT.snd (RdT.snd (RdT.of (RdT.old h0.2) (hy3).2))) hF hM) _ (hy7 (gnot hg.2))) ?_
    refine s6 ?_
    refine D_callX (GC.some rfl rfl) fn83.h (OpVs.cons (OpV.s rfl) (OpVs.cons (OpV.s rfl) (OpVs.nil))) (by exact fun hg w F hF hM => i_CSet_snap_walk w (a0_1, a0_2) u3_1 (RdT.nowS (RdT.pair RdT.str (RdT.old h0.2)) hF hM) _ (hy8 (gnot hg.2))) ?_
    refine s20 ?_
    refine s20 ?_
    refine s1 ?_
    refine kp [1, 6, 7, 8, 48] ?_
    refine W_cond rfl (fun hc9 => ?_) (fun hc9 => ?_)
    · replace hp := cond_t hc9 hp
      refine s4 ?_
      replace hp := map_any hp; obtain ⟨a10, hp, hx_a10⟩ := hp
      obtain rfl := hx1 _ hx_a10
      obtain rfl := Option.some.inj hp
      refine s1 ?_
      refine res1 rfl (ResOK.tmp rfl) ⟨rfl, rfl⟩ ms
    · replace hp := cond_f hc9 hp
      refine s5 ?_
      exact ⟨IntKind.wrap .i64 (v1_0 + 1), sb, (.sub ms), some_eq hp⟩
  · replace hp := cond_f hc2 hp
    refine W_exit ?_
    replace hp := map_any hp; obtain ⟨a11, hp, hx_a11⟩ := hp
    obtain rfl := hx1 _ hx_a11
    refine s1 ?_
    replace hp := ba hp; obtain ⟨y12, hy12, hp⟩ := hp
    refine W_D0 [2] mix (by kernel_rfl) rfl ?_
    refine s2 ?_
    refine D_callX GC.none fn81.h (OpVs.cons (OpV.t rfl) (OpVs.nil)) (by exact fun hg w F hF hM => i_isWord_walk w a0_1  _ hy12) ?_
    refine s3 ?_
    refine D_lenP (X := a0_2) (GC.some rfl rfl) (OpV.s rfl) el67.h ?_
    refine s15 ?_
    obtain rfl := Option.some.inj hp
    refine s1 ?_
    refine res1 rfl (ResOK.tmp rfl) ⟨rfl, rfl⟩ ms
noncomputable def i_CatOk (a0 : D_Catalog) : Option Bool :=
  whileP (fun s1 : Int => cond (decide (s1 < (a0.length : Int))) (Option.bind (idx a0 s1) (fun y3 => Option.bind (i_setOk (y3.1, y3.2)) (fun y4 => gb ((!(!y4)) && (decide (0 < s1))) (idx a0 (IntKind.wrap .i64 (s1 - 1))) (fun y5 => cond ((!y4) || ((decide (0 < s1)) && (!sLt y5.1 y3.1))) (Option.map .inr (some false)) (some (.inl (IntKind.wrap .i64 (s1 + 1)))))))) (Option.map .inr (some (decide ((a0.length : Int) ≤ 5))))) 0
theorem i_CatOk_walk (w : World) (a0 : T_Catalog) (h0 : GT.rd w [] a0) (r : Bool) (hp : i_CatOk (GT.dat a0) = some r) : Spec Tryz.prog 32 [.agg (GT.cells a0).toArray].toArray w [] (IsV (.bool r)) := by
  change Spec _ _ ([Value.agg #[(TL.hdr a0)]] : List Value).toArray w [] _
  refine Spec.intro Tryz.func32 rfl Tryz.ntmps32 rfl ?_
  unfold i_CatOk at hp
  replace hp := dd hp
  refine s2 ?_
  refine bx fun bk1 => ?_
  refine s11 ?_
  refine W_while (σ := Int) GT.dat (fun (v1_0 : Int) => [(8, .int .i64 v1_0)]) (fun (v1_0 : Int) => []) [(1, _), (6, _), (7, _)] [blk bk1 _ _] 0 hp sb ms ?_
  clear hp
  rintro v1_0 x1 hp hx1
  replace hp := dd hp
  refine kq [1, 6, 7, 8] ?_
  refine s5 ?_
  refine kp [1, 6, 7, 8, 9] ?_
  refine W_cond rfl (fun hc2 => ?_) (fun hc2 => ?_)
  · replace hp := cond_t hc2 hp
    refine s6 ?_
    replace hp := idx_bind hp; obtain ⟨⟨u3_1, u3_2⟩, hy3, hp⟩ := hp
    refine L_idxA (X := a0) rfl rfl rfl el24.h (RdT.old h0) hy3 ?_
    refine L_loadW rfl rfl (RdT.at (RdT.old h0) (hy3).2) (by exact agg69.h) ?_
    refine al fun bk4 => ?_
    refine s4 ?_
    replace hp := ba hp; obtain ⟨y4, hy4, hp⟩ := hp
    replace hp := idx_gb hp; obtain ⟨⟨u5_1, u5_2⟩, hy5, hp⟩ := hp
    refine W_D0 [31] mix (by kernel_rfl) rfl ?_
    refine s1 ?_
    refine D_callX GC.none fn67.h (OpVs.cons (OpV.t rfl) (OpVs.nil)) (by exact fun hg w F hF hM => i_setOk_walk w (u3_1, u3_2) (RdT.nowS (RdT.pair RdT.str (RdT.snd (RdT.of (RdT.old h0) (hy3).2))) hF hM) _ hy4) ?_
    refine s9 ?_
    refine D_idxA (X := a0) (GC.some rfl rfl) (OpV.s rfl) (OpV.s rfl) el24.h (RdT.old h0) (fun hg => hy5 (gand (gnot hg.1.2) hg.2)) ?_
    refine s1 ?_
    refine D_load (GC.some rfl rfl) (OpV.s rfl) (fun hg => RdT.at (RdT.old h0) (hy5 (gand (gnot hg.1.2) hg.2)).2) one9.h rfl ?_
    refine s20 ?_
    refine s6 ?_
    refine kp [1, 6, 7, 8, 31] ?_
    refine W_cond rfl (fun hc6 => ?_) (fun hc6 => ?_)
    · replace hp := cond_t hc6 hp
      refine s4 ?_
      replace hp := map_any hp; obtain ⟨a7, hp, hx_a7⟩ := hp
      obtain rfl := hx1 _ hx_a7
      obtain rfl := Option.some.inj hp
      refine s1 ?_
      refine res1 rfl (ResOK.tmp rfl) ⟨rfl, rfl⟩ ms
    · replace hp := cond_f hc6 hp
      refine s5 ?_
      exact ⟨IntKind.wrap .i64 (v1_0 + 1), sb, (.sub ms), some_eq hp⟩
  · replace hp := cond_f hc2 hp
    refine W_exit ?_
    replace hp := map_any hp; obtain ⟨a8, hp, hx_a8⟩ := hp
    obtain rfl := hx1 _ hx_a8
    refine s8 ?_
    obtain rfl := Option.some.inj hp
    refine s1 ?_
    refine res1 rfl (ResOK.tmp rfl) ⟨rfl, rfl⟩ ms
noncomputable def i_AllChunks (a0 : D_Catalog) : Option (List ByteArray) :=
  Option.bind (i_CatOk a0) (fun y1 => cond (!y1) (some ([] : List ByteArray)) (Option.bind (some ([] : List ByteArray)) (fun y4 => whileP (fun s5 : (List ByteArray) × Int => cond (decide (s5.2 < (a0.length : Int))) (Option.bind (idx a0 s5.2) (fun y7 => whileP (fun s8 : (List ByteArray) × Int => cond (decide (s8.2 < (y7.2.length : Int))) (Option.bind (idx y7.2 s8.2) (fun y10 => Option.bind (appP s8.1 y10.2.2) (fun y12 => some (.inl ((y12, IntKind.wrap .i64 (s8.2 + 1))))))) (Option.map .inr (some (.inl ((s8.1, IntKind.wrap .i64 (s5.2 + 1))))))) (s5.1, 0))) (Option.map .inr (Option.bind (sortSP s5.1) (fun y15 => Option.bind (compactSP y15) (fun y16 => some y16))))) (y4, 0))))
theorem i_AllChunks_walk (w : World) (a0 : T_Catalog) (h0 : GT.rd w [] a0) (r : (List ByteArray)) (hp : i_AllChunks (GT.dat a0) = some r) : Spec Tryz.prog 38 [.agg (GT.cells a0).toArray].toArray w [] (fun v M => ∃ (x0 : TL ByteArray), v = (TL.hdr x0) ∧ GT.dat x0 = r ∧ M = [treeH x0]) := by
  change Spec _ _ ([Value.agg #[(TL.hdr a0)]] : List Value).toArray w [] _
  refine Spec.intro Tryz.func38 rfl Tryz.ntmps38 rfl ?_
  unfold i_AllChunks at hp
  replace hp := dd hp
  refine s2 ?_
  refine bx fun bk1 => ?_
  refine L_assign (v := (TL.hdr (TL.nil ByteArray 0))) rfl rfl ?_
  refine s5 ?_
  replace hp := ba hp; obtain ⟨y1, hy1, hp⟩ := hp
  refine L_callX rfl fn32.h rfl (by exact fun w hw => i_CatOk_walk w a0 (RdT.now (RdT.old h0) hw) _ hy1) ?_
  refine s2 ?_
  refine kp [1, 10] ?_
  refine W_cond rfl (fun hc2 => ?_) (fun hc2 => ?_)
  · replace hp := cond_t hc2 hp
    refine s2 ?_
    refine L_assign (v := (TL.hdr (TL.nil ByteArray 0))) rfl rfl ?_
    refine s1 ?_
    obtain rfl := Option.some.inj hp
    refine W_conv (M' := treeH (TL.nil ByteArray 0) :: _) (fun w h => addNilT (τ := ByteArray) 0 h) ?_
    refine s1 ?_
    refine res1 rfl (ResOK.tmp rfl) ⟨(TL.nil ByteArray 0), rfl, rfl, rfl⟩ ms
  · replace hp := cond_f hc2 hp
    refine s3 ?_
    replace hp := ba hp; obtain ⟨y4, hy4, hp⟩ := hp
    refine L_mk0 ByteArray rfl el32.h (fun X3 hdX3 => ?_)
    obtain rfl : GT.dat X3 = y4 := hdX3.trans (Option.some.inj hy4)
    clear hy4 hdX3
    refine s11 ?_
    refine W_while (σ := (TL ByteArray) × Int) GT.dat (fun ((v5_0, v5_1) : (TL ByteArray) × Int) => [(3, (TL.hdr v5_0)), (15, .int .i64 v5_1)]) (fun ((v5_0, v5_1) : (TL ByteArray) × Int) => [treeH v5_0]) [(13, _), (14, _)] [] (X3, 0) hp sb ms ?_
    clear hp
    rintro ⟨v5_0, v5_1⟩ x5 hp hx5
    replace hp := dd hp
    refine kq [3, 13, 14, 15] ?_
    refine s5 ?_
    refine kp [3, 13, 14, 15, 16] ?_
    refine W_cond rfl (fun hc6 => ?_) (fun hc6 => ?_)
    · replace hp := cond_t hc6 hp
      refine s5 ?_
      replace hp := idx_bind hp; obtain ⟨⟨u7_1, u7_2⟩, hy7, hp⟩ := hp
      refine L_idxA (X := a0) rfl rfl rfl el24.h (RdT.old h0) hy7 ?_
      refine L_loadW rfl rfl (RdT.at (RdT.old h0) (hy7).2) (by exact agg69.h) ?_
      refine al fun bk5 => ?_
      refine s10 ?_
      refine W_while (σ := (TL ByteArray) × Int) GT.dat (fun ((v8_0, v8_1) : (TL ByteArray) × Int) => [(3, (TL.hdr v8_0)), (22, .int .i64 v8_1)]) (fun ((v8_0, v8_1) : (TL ByteArray) × Int) => [treeH v8_0]) [(13, _), (14, _), (15, _), (20, _), (21, _)] [] (v5_0, 0) hp sb ms ?_
      clear hp
      rintro ⟨v8_0, v8_1⟩ x8 hp hx8
      replace hp := dd hp
      refine kq [3, 13, 14, 15, 20, 21, 22] ?_
      refine s5 ?_
      refine kp [3, 13, 14, 15, 20, 21, 22, 23] ?_
      refine W_cond rfl (fun hc9 => ?_) (fun hc9 => ?_)
      · replace hp := cond_t hc9 hp
        refine s5 ?_
        replace hp := idx_bind hp; obtain ⟨⟨u10_1, u10_2, u10_3⟩, hy10, hp⟩ := hp
        refine L_idxA (X := u7_2) rfl rfl rfl el67.h (RdT.snd (RdT.of (RdT.old h0) (hy7).2)) hy10 ?_
        refine L_loadW rfl rfl (RdT.at (RdT.snd (RdT.of (RdT.old h0) (hy7).2)) (hy10).2) (by exact agg71.h) ?_
        refine al fun bk7 => ?_
        refine s6 ?_
        replace hp := ba hp; obtain ⟨y12, hy12, hp⟩ := hp
        refine L_appT (X := v8_0) (Y := u10_3) rfl rfl rfl el32.h rfl rfl pk (RdT.snd (RdT.snd (RdT.of (RdT.snd (RdT.of (RdT.old h0) (hy7).2)) (hy10).2))) hy12 (by decide) (fun X11 hdX11 => ?_)
        subst hdX11
        refine s6 ?_
        exact ⟨(X11, IntKind.wrap .i64 (v8_1 + 1)), sb, (.sub ms), some_eq hp⟩
      · replace hp := cond_f hc9 hp
        refine W_exit ?_
        replace hp := map_any hp; obtain ⟨a13, hp, hx_a13⟩ := hp
        obtain rfl := hx8 _ hx_a13
        refine s4 ?_
        exact ⟨(v8_0, IntKind.wrap .i64 (v5_1 + 1)), sb, (.sub ms), some_eq hp⟩
    · replace hp := cond_f hc6 hp
      refine W_exit ?_
      replace hp := map_any hp; obtain ⟨a14, hp, hx_a14⟩ := hp
      obtain rfl := hx5 _ hx_a14
      refine s3 ?_
      replace hp := ba hp; obtain ⟨y15, hy15, hp⟩ := hp
      refine L_callM [treeH v5_0] _ rfl fn69.h rfl pc (by exact fun w hw => sl_Sort_stringstring_walk w v5_0  _ hy15) ?_
      rintro _ _ ⟨y15y0, rfl, rfl, rfl, hey15_0⟩
      try rw [← hey15_0]
      refine sc ?_
      replace hp := dd hp
      refine s4 ?_
      replace hp := ba hp; obtain ⟨y16, hy16, hp⟩ := hp
      refine L_callM [treeH y15y0] _ rfl fn70.h rfl pc (by exact fun w hw => sl_Compact_stringstring_walk w y15y0  _ hy16) ?_
      rintro _ _ ⟨y16x0, rfl, rfl, rfl⟩
      refine sc ?_
      replace hp := dd hp
      refine s2 ?_
      obtain rfl := Option.some.inj hp
      refine s1 ?_
      refine res1 rfl (ResOK.tmp rfl) ⟨y16x0, rfl, rfl, rfl⟩ ms
noncomputable def i_upOf (a0 : List Int) (a1 : List Bool) : Option (List Int) :=
  Option.bind (some ([] : List Int)) (fun y2 => whileP (fun s3 : (List Int) × Int => cond (decide (s3.2 < (a0.length : Int))) (Option.bind (idx a0 s3.2) (fun y5 => Option.bind (idx a1 y5) (fun y6 => cond y6 (Option.bind (appP s3.1 [y5]) (fun y9 => some (.inl ((y9, IntKind.wrap .i64 (s3.2 + 1)))))) (some (.inl ((s3.1, IntKind.wrap .i64 (s3.2 + 1)))))))) (Option.map .inr (some s3.1))) (y2, 0))
theorem i_upOf_walk (w : World) (a0 : TL Int) (a1 : TL Bool) (h0 : GT.rd w [] a0) (h1 : GT.rd w [] a1) (r : (List Int)) (hp : i_upOf (GT.dat a0) (GT.dat a1) = some r) : Spec Tryz.prog 48 [(TL.hdr a0), (TL.hdr a1)].toArray w [] (fun v M => ∃ (x0 : TL Int), v = (TL.hdr x0) ∧ GT.dat x0 = r ∧ M = [treeH x0]) := by
  refine Spec.intro Tryz.func48 rfl Tryz.ntmps48 rfl ?_
  unfold i_upOf at hp
  replace hp := dd hp
  refine s2 ?_
  refine L_assign (v := (TL.hdr (TL.nil Int 0))) rfl rfl ?_
  refine s3 ?_
  replace hp := ba hp; obtain ⟨y2, hy2, hp⟩ := hp
  refine L_mk0 Int rfl el41.h (fun X1 hdX1 => ?_)
  obtain rfl : GT.dat X1 = y2 := hdX1.trans (Option.some.inj hy2)
  clear hy2 hdX1
  refine s10 ?_
  refine W_while (σ := (TL Int) × Int) GT.dat (fun ((v3_0, v3_1) : (TL Int) × Int) => [(5, (TL.hdr v3_0)), (11, .int .i64 v3_1)]) (fun ((v3_0, v3_1) : (TL Int) × Int) => [treeH v3_0]) [(1, _), (9, _), (10, _)] [] (X1, 0) hp sb ms ?_
  clear hp
  rintro ⟨v3_0, v3_1⟩ x3 hp hx3
  replace hp := dd hp
  refine kq [1, 5, 9, 10, 11] ?_
  refine s5 ?_
  refine kp [1, 5, 9, 10, 11, 12] ?_
  refine W_cond rfl (fun hc4 => ?_) (fun hc4 => ?_)
  · replace hp := cond_t hc4 hp
    refine s5 ?_
    replace hp := idx_bind hp; obtain ⟨u5, hy5, hp⟩ := hp
    refine L_idxA (X := a0) rfl rfl rfl el41.h (RdT.old h0) hy5 ?_
    refine L_load0 rfl rfl (RdT.at (RdT.old h0) (hy5).2) one3.h rfl ?_
    refine s6 ?_
    replace hp := idx_bind hp; obtain ⟨u6, hy6, hp⟩ := hp
    refine L_idxA (X := a1) rfl rfl rfl el46.h (RdT.old h1) hy6 ?_
    refine L_load0 rfl rfl (RdT.at (RdT.old h1) (hy6).2) one4.h rfl ?_
    refine s1 ?_
    refine kp [1, 5, 7, 9, 10, 11, 18] ?_
    refine W_cond rfl (fun hc7 => ?_) (fun hc7 => ?_)
    · replace hp := cond_t hc7 hp
      refine s3 ?_
      refine L_buildSlice1 rfl rfl el41.h rfl (by decide) (by decide) rfl (fun bb21 => ?_)
      replace hp := ba hp; obtain ⟨y9, hy9, hp⟩ := hp
      refine L_app1F (X := v3_0) (u5 : Int) rfl rfl rfl el41.h rfl rfl pk mm  hy9 (by decide) (fun X8 hdX8 => ?_)
      subst hdX8
      refine s6 ?_
      exact ⟨(X8, IntKind.wrap .i64 (v3_1 + 1)), sb, (.sub ms), some_eq hp⟩
    · replace hp := cond_f hc7 hp
      refine s5 ?_
      exact ⟨(v3_0, IntKind.wrap .i64 (v3_1 + 1)), sb, (.sub ms), some_eq hp⟩
  · replace hp := cond_f hc4 hp
    refine W_exit ?_
    replace hp := map_any hp; obtain ⟨a10, hp, hx_a10⟩ := hp
    obtain rfl := hx3 _ hx_a10
    refine s5 ?_
    obtain rfl := Option.some.inj hp
    refine s1 ?_
    refine res1 rfl (ResOK.tmp rfl) ⟨v3_0, rfl, rfl, rfl⟩ ms
noncomputable def i_Repairs (a0 : D_Catalog) (a1 : D_Ups) (a2 : List Bool) : Option (List D_Copy) :=
  Option.bind (i_CatOk a0) (fun y1 => gb (!(!y1)) (i_UpsOk (a1.1, a1.2)) (fun y2 => cond (((!y1) || (!y2)) || (!decide ((a2.length : Int) = 3))) (some ([] : List D_Copy)) (Option.bind (some ([] : List D_Copy)) (fun y5 => Option.bind (i_AllChunks a0) (fun y6 => whileP (fun s7 : (List D_Copy) × Int => cond (decide (s7.2 < (y6.length : Int))) (Option.bind (idx y6 s7.2) (fun y9 => Option.bind (i_Ups_nodes (a1.1, a1.2) y9) (fun y10 => Option.bind (i_upOf y10 a2) (fun y11 => cond (decide ((y11.length : Int) = 0)) (some (.inl ((s7.1, IntKind.wrap .i64 (s7.2 + 1))))) (whileP (fun s13 : (List D_Copy) × Int × Int => cond ((decide (s13.2.2 < 3)) && (decide (0 < s13.2.1))) (Option.bind (idx a2 s13.2.2) (fun y15 => gb y15 (sl_Contains_intint y10 s13.2.2) (fun y16 => cond (y15 && (!y16)) (Option.bind (idx y11 0) (fun y18 => Option.bind (appP s13.1 [(y9, y18, s13.2.2)]) (fun y20 => some (.inl ((y20, IntKind.wrap .i64 (s13.2.1 - 1), IntKind.wrap .i64 (s13.2.2 + 1))))))) (some (.inl ((s13.1, s13.2.1, IntKind.wrap .i64 (s13.2.2 + 1)))))))) (Option.map .inr (some (.inl ((s13.1, IntKind.wrap .i64 (s7.2 + 1))))))) (s7.1, IntKind.wrap .i64 (2 - (y11.length : Int)), 0)))))) (Option.map .inr (some s7.1))) (y5, 0))))))
theorem i_Repairs_walk (w : World) (a0 : T_Catalog) (a1 : T_Ups) (a2 : TL Bool) (h0 : GT.rd w [] a0) (h1 : GT.rd w [] a1) (h2 : GT.rd w [] a2) (r : (List D_Copy)) (hp : i_Repairs (GT.dat a0) (GT.dat a1) (GT.dat a2) = some r) : Spec Tryz.prog 19 [.agg (GT.cells a0).toArray, .agg (GT.cells a1).toArray, (TL.hdr a2)].toArray w [] (fun v M => ∃ (x0 : TL T_Copy), v = (TL.hdr x0) ∧ GT.dat x0 = r ∧ M = [treeH x0]) := by
  obtain ⟨a1_1, a1_2⟩ := a1
  change Spec _ _ ([Value.agg #[(TL.hdr a0)], Value.agg #[.int .i64 a1_1, (TL.hdr a1_2)], (TL.hdr a2)] : List Value).toArray w [] _
  refine Spec.intro Tryz.func19 rfl Tryz.ntmps19 rfl ?_
  unfold i_Repairs at hp
  replace hp := dd hp
  refine s2 ?_
  refine bx fun bk3 => ?_
  refine bx fun bk4 => ?_
  refine L_assign (v := (TL.hdr (TL.nil T_Copy 0))) rfl rfl ?_
  refine s3 ?_
  replace hp := ba hp; obtain ⟨y1, hy1, hp⟩ := hp
  replace hp := gb_any hp; obtain ⟨y2, hy2, hp⟩ := hp
  refine W_D0 [26] mix (by kernel_rfl) rfl ?_
  refine s1 ?_
  refine D_callX GC.none fn32.h (OpVs.cons (OpV.t rfl) (OpVs.nil)) (by exact fun hg w F hF hM => i_CatOk_walk w a0 (RdT.nowS (RdT.old h0) hF hM) _ hy1) ?_
  refine s3 ?_
  refine D_callX (GC.some rfl rfl) fn31.h (OpVs.cons (OpV.s rfl) (OpVs.nil)) (by exact fun hg w F hF hM => i_UpsOk_walk w (a1_1, a1_2) (RdT.nowS (RdT.pair RdT.int (RdT.old h1.2)) hF hM) _ (hy2 (gnot hg.2))) ?_
  refine s4 ?_
  refine D_lenP (X := a2) (GC.some rfl rfl) (OpV.s rfl) el46.h ?_
  refine s17 ?_
  refine kp [2, 3, 4, 26] ?_
  refine W_cond rfl (fun hc3 => ?_) (fun hc3 => ?_)
  · replace hp := cond_t hc3 hp
    refine s2 ?_
    refine L_assign (v := (TL.hdr (TL.nil T_Copy 0))) rfl rfl ?_
    refine s1 ?_
    obtain rfl := Option.some.inj hp
    refine W_conv (M' := treeH (TL.nil T_Copy 0) :: _) (fun w h => addNilT (τ := T_Copy) 0 h) ?_
    refine s1 ?_
    refine res1 rfl (ResOK.tmp rfl) ⟨(TL.nil T_Copy 0), rfl, rfl, rfl⟩ ms
  · replace hp := cond_f hc3 hp
    refine s3 ?_
    replace hp := ba hp; obtain ⟨y5, hy5, hp⟩ := hp
    refine L_mk0 T_Copy rfl el49.h (fun X4 hdX4 => ?_)
    obtain rfl : GT.dat X4 = y5 := hdX4.trans (Option.some.inj hy5)
    clear hy5 hdX4
    refine s6 ?_
    replace hp := ba hp; obtain ⟨y6, hy6, hp⟩ := hp
    refine L_callR rfl fn38.h rfl (by exact fun w hw => i_AllChunks_walk w a0 (RdT.now (RdT.old h0) hw) _ hy6) ?_
    rintro _ _ ⟨y6x0, rfl, rfl, rfl⟩
    refine sc ?_
    replace hp := dd hp
    refine s4 ?_
    refine W_while (σ := (TL T_Copy) × Int) GT.dat (fun ((v7_0, v7_1) : (TL T_Copy) × Int) => [(7, (TL.hdr v7_0)), (31, .int .i64 v7_1)]) (fun ((v7_0, v7_1) : (TL T_Copy) × Int) => [treeH v7_0]) [(2, _), (4, _), (29, _), (30, _)] [blk bk4 _ _, treeH y6x0] (X4, 0) hp sb ms ?_
    clear hp
    rintro ⟨v7_0, v7_1⟩ x7 hp hx7
    replace hp := dd hp
    refine kq [2, 4, 7, 29, 30, 31] ?_
    refine s5 ?_
    refine kp [2, 4, 7, 29, 30, 31, 32] ?_
    refine W_cond rfl (fun hc8 => ?_) (fun hc8 => ?_)
    · replace hp := cond_t hc8 hp
      refine s5 ?_
      replace hp := idx_bind hp; obtain ⟨u9, hy9, hp⟩ := hp
      refine L_idxA (X := y6x0) rfl rfl rfl el32.h (RdT.tree mm) hy9 ?_
      refine L_load0 rfl rfl (RdT.at (RdT.tree mm) (hy9).2) one9.h rfl ?_
      refine s6 ?_
      replace hp := ba hp; obtain ⟨y10, hy10, hp⟩ := hp
      refine L_callR rfl fn43.h rfl (by exact fun w hw => i_Ups_nodes_walk w (a1_1, a1_2) u9 (RdT.now (RdT.pair RdT.int (RdT.old h1.2)) hw) _ hy10) ?_
      rintro _ _ ⟨y10x0, rfl, rfl, rfl, hby10x0⟩
      refine sc ?_
      replace hp := dd hp
      refine s6 ?_
      replace hp := ba hp; obtain ⟨y11, hy11, hp⟩ := hp
      refine L_callR rfl fn48.h rfl (by exact fun w hw => i_upOf_walk w y10x0 a2 (RdT.now (RdT.map hby10x0 (RdT.pair RdT.int (RdT.old h1.2))) hw) (RdT.now (RdT.old h2) hw) _ hy11) ?_
      rintro _ _ ⟨y11x0, rfl, rfl, rfl⟩
      refine sc ?_
      replace hp := dd hp
      refine s9 ?_
      refine kp [2, 4, 7, 9, 10, 11, 29, 30, 31, 43] ?_
      refine W_cond rfl (fun hc12 => ?_) (fun hc12 => ?_)
      · replace hp := cond_t hc12 hp
        refine W_exit ?_
        refine s4 ?_
        exact ⟨(v7_0, IntKind.wrap .i64 (v7_1 + 1)), sb, (.sub ms), some_eq hp⟩
      · replace hp := cond_f hc12 hp
        refine s13 ?_
        refine W_while (σ := (TL T_Copy) × Int × Int) GT.dat (fun ((v13_0, v13_1, v13_2) : (TL T_Copy) × Int × Int) => [(7, (TL.hdr v13_0)), (12, .int .i64 v13_1), (13, .int .i64 v13_2)]) (fun ((v13_0, v13_1, v13_2) : (TL T_Copy) × Int × Int) => [treeH v13_0]) [(2, _), (4, _), (9, _), (10, _), (11, _), (29, _), (30, _), (31, _)] [blk bk4 _ _, treeH y11x0, treeH y6x0] (v7_0, IntKind.wrap .i64 (2 - ((GT.dat y11x0).length : Int)), 0) hp sb ms ?_
        clear hp
        rintro ⟨v13_0, v13_1, v13_2⟩ x13 hp hx13
        replace hp := dd hp
        refine kq [2, 4, 7, 9, 10, 11, 12, 13, 29, 30, 31] ?_
        refine s2 ?_
        refine W_D0 [52] mix (by kernel_rfl) rfl ?_
        refine s14 ?_
        refine kp [2, 4, 7, 9, 10, 11, 12, 13, 29, 30, 31, 52] ?_
        refine W_cond rfl (fun hc14 => ?_) (fun hc14 => ?_)
        · replace hp := cond_t hc14 hp
          refine s4 ?_
          replace hp := idx_bind hp; obtain ⟨u15, hy15, hp⟩ := hp
          replace hp := gb_any hp; obtain ⟨y16, hy16, hp⟩ := hp
          refine W_D0 [64] mix (by kernel_rfl) rfl ?_
          refine s2 ?_
          refine D_idxA (X := a2) GC.none (OpV.t rfl) (OpV.t rfl) el46.h (RdT.old h2) (fun _ => hy15) ?_
          refine D_load0 GC.none (OpV.t rfl) (fun hg => RdT.at (RdT.old h2) (hy15).2) one4.h rfl ?_
          refine s3 ?_
          refine D_callX (GC.some rfl rfl) fn49.h (OpVs.cons (OpV.s rfl) (OpVs.cons (OpV.s rfl) (OpVs.nil))) (by exact fun hg w F hF hM => sl_Contains_intint_walk w y10x0 v13_2 (RdT.nowS (RdT.map hby10x0 (RdT.pair RdT.int (RdT.old h1.2))) hF hM) _ (hy16 hg.2)) ?_
          refine s14 ?_
          refine kp [2, 4, 7, 9, 10, 11, 12, 13, 29, 30, 31, 64] ?_
          refine W_cond rfl (fun hc17 => ?_) (fun hc17 => ?_)
          · replace hp := cond_t hc17 hp
            refine s5 ?_
            replace hp := idx_bind hp; obtain ⟨u18, hy18, hp⟩ := hp
            refine L_idxA (X := y11x0) rfl rfl rfl el41.h (RdT.tree mm) hy18 ?_
            refine L_load0 rfl rfl (RdT.at (RdT.tree mm) (hy18).2) one3.h rfl ?_
            refine s1 ?_
            refine L_build (xs := [(0, .tmp 66), (1, .tmp 69), (2, .tmp 70)]) (cs := [.string u9, .int .i64 u18, .int .i64 v13_2]) rfl rfl bld52.h rfl ?_
            refine L_buildSlice1 rfl rfl el49.h rfl (by decide) (by decide) rfl (fun bb72 => ?_)
            replace hp := ba hp; obtain ⟨y20, hy20, hp⟩ := hp
            refine L_app1F (X := v13_0) ((u9, u18, v13_2) : T_Copy) rfl rfl rfl el49.h rfl rfl pk mm  hy20 (by decide) (fun X19 hdX19 => ?_)
            subst hdX19
            refine s12 ?_
            exact ⟨(X19, IntKind.wrap .i64 (v13_1 - 1), IntKind.wrap .i64 (v13_2 + 1)), sb, (.sub ms), some_eq hp⟩
          · replace hp := cond_f hc17 hp
            refine s6 ?_
            exact ⟨(v13_0, v13_1, IntKind.wrap .i64 (v13_2 + 1)), sb, (.sub ms), some_eq hp⟩
        · replace hp := cond_f hc14 hp
          refine W_exit ?_
          replace hp := map_any hp; obtain ⟨a21, hp, hx_a21⟩ := hp
          obtain rfl := hx13 _ hx_a21
          refine s4 ?_
          exact ⟨(v13_0, IntKind.wrap .i64 (v7_1 + 1)), sb, (.sub ms), some_eq hp⟩
    · replace hp := cond_f hc8 hp
      refine W_exit ?_
      replace hp := map_any hp; obtain ⟨a22, hp, hx_a22⟩ := hp
      obtain rfl := hx7 _ hx_a22
      refine s5 ?_
      obtain rfl := Option.some.inj hp
      refine s1 ?_
      refine res1 rfl (ResOK.tmp rfl) ⟨v7_0, rfl, rfl, rfl⟩ ms
noncomputable def i_Lost (a0 : D_Catalog) (a1 : D_Ups) (a2 : List Bool) : Option (List ByteArray) :=
  Option.bind (i_CatOk a0) (fun y1 => gb (!(!y1)) (i_UpsOk (a1.1, a1.2)) (fun y2 => cond (((!y1) || (!y2)) || (!decide ((a2.length : Int) = 3))) (some ([] : List ByteArray)) (Option.bind (some ([] : List ByteArray)) (fun y5 => Option.bind (i_AllChunks a0) (fun y6 => whileP (fun s7 : (List ByteArray) × Int => cond (decide (s7.2 < (y6.length : Int))) (Option.bind (idx y6 s7.2) (fun y9 => Option.bind (i_Ups_nodes (a1.1, a1.2) y9) (fun y10 => Option.bind (i_upOf y10 a2) (fun y11 => cond (decide ((y11.length : Int) = 0)) (Option.bind (appP s7.1 [y9]) (fun y14 => some (.inl ((y14, IntKind.wrap .i64 (s7.2 + 1)))))) (some (.inl ((s7.1, IntKind.wrap .i64 (s7.2 + 1))))))))) (Option.map .inr (some s7.1))) (y5, 0))))))
theorem i_Lost_walk (w : World) (a0 : T_Catalog) (a1 : T_Ups) (a2 : TL Bool) (h0 : GT.rd w [] a0) (h1 : GT.rd w [] a1) (h2 : GT.rd w [] a2) (r : (List ByteArray)) (hp : i_Lost (GT.dat a0) (GT.dat a1) (GT.dat a2) = some r) : Spec Tryz.prog 21 [.agg (GT.cells a0).toArray, .agg (GT.cells a1).toArray, (TL.hdr a2)].toArray w [] (fun v M => ∃ (x0 : TL ByteArray), v = (TL.hdr x0) ∧ GT.dat x0 = r ∧ M = [treeH x0]) := by
  obtain ⟨a1_1, a1_2⟩ := a1
  change Spec _ _ ([Value.agg #[(TL.hdr a0)], Value.agg #[.int .i64 a1_1, (TL.hdr a1_2)], (TL.hdr a2)] : List Value).toArray w [] _
  refine Spec.intro Tryz.func21 rfl Tryz.ntmps21 rfl ?_
  unfold i_Lost at hp
  replace hp := dd hp
  refine s2 ?_
  refine bx fun bk3 => ?_
  refine bx fun bk4 => ?_
  refine L_assign (v := (TL.hdr (TL.nil ByteArray 0))) rfl rfl ?_
  refine s3 ?_
  replace hp := ba hp; obtain ⟨y1, hy1, hp⟩ := hp
  replace hp := gb_any hp; obtain ⟨y2, hy2, hp⟩ := hp
  refine W_D0 [22] mix (by kernel_rfl) rfl ?_
  refine s1 ?_
  refine D_callX GC.none fn32.h (OpVs.cons (OpV.t rfl) (OpVs.nil)) (by exact fun hg w F hF hM => i_CatOk_walk w a0 (RdT.nowS (RdT.old h0) hF hM) _ hy1) ?_
  refine s3 ?_
  refine D_callX (GC.some rfl rfl) fn31.h (OpVs.cons (OpV.s rfl) (OpVs.nil)) (by exact fun hg w F hF hM => i_UpsOk_walk w (a1_1, a1_2) (RdT.nowS (RdT.pair RdT.int (RdT.old h1.2)) hF hM) _ (hy2 (gnot hg.2))) ?_
  refine s4 ?_
  refine D_lenP (X := a2) (GC.some rfl rfl) (OpV.s rfl) el46.h ?_
  refine s17 ?_
  refine kp [2, 3, 4, 22] ?_
  refine W_cond rfl (fun hc3 => ?_) (fun hc3 => ?_)
  · replace hp := cond_t hc3 hp
    refine s2 ?_
    refine L_assign (v := (TL.hdr (TL.nil ByteArray 0))) rfl rfl ?_
    refine s1 ?_
    obtain rfl := Option.some.inj hp
    refine W_conv (M' := treeH (TL.nil ByteArray 0) :: _) (fun w h => addNilT (τ := ByteArray) 0 h) ?_
    refine s1 ?_
    refine res1 rfl (ResOK.tmp rfl) ⟨(TL.nil ByteArray 0), rfl, rfl, rfl⟩ ms
  · replace hp := cond_f hc3 hp
    refine s3 ?_
    replace hp := ba hp; obtain ⟨y5, hy5, hp⟩ := hp
    refine L_mk0 ByteArray rfl el32.h (fun X4 hdX4 => ?_)
    obtain rfl : GT.dat X4 = y5 := hdX4.trans (Option.some.inj hy5)
    clear hy5 hdX4
    refine s6 ?_
    replace hp := ba hp; obtain ⟨y6, hy6, hp⟩ := hp
    refine L_callR rfl fn38.h rfl (by exact fun w hw => i_AllChunks_walk w a0 (RdT.now (RdT.old h0) hw) _ hy6) ?_
    rintro _ _ ⟨y6x0, rfl, rfl, rfl⟩
    refine sc ?_
    replace hp := dd hp
    refine s4 ?_
    refine W_while (σ := (TL ByteArray) × Int) GT.dat (fun ((v7_0, v7_1) : (TL ByteArray) × Int) => [(7, (TL.hdr v7_0)), (27, .int .i64 v7_1)]) (fun ((v7_0, v7_1) : (TL ByteArray) × Int) => [treeH v7_0]) [(2, _), (4, _), (25, _), (26, _)] [blk bk4 _ _, treeH y6x0] (X4, 0) hp sb ms ?_
    clear hp
    rintro ⟨v7_0, v7_1⟩ x7 hp hx7
    replace hp := dd hp
    refine kq [2, 4, 7, 25, 26, 27] ?_
    refine s5 ?_
    refine kp [2, 4, 7, 25, 26, 27, 28] ?_
    refine W_cond rfl (fun hc8 => ?_) (fun hc8 => ?_)
    · replace hp := cond_t hc8 hp
      refine s5 ?_
      replace hp := idx_bind hp; obtain ⟨u9, hy9, hp⟩ := hp
      refine L_idxA (X := y6x0) rfl rfl rfl el32.h (RdT.tree mm) hy9 ?_
      refine L_load0 rfl rfl (RdT.at (RdT.tree mm) (hy9).2) one9.h rfl ?_
      refine s6 ?_
      replace hp := ba hp; obtain ⟨y10, hy10, hp⟩ := hp
      refine L_callR rfl fn43.h rfl (by exact fun w hw => i_Ups_nodes_walk w (a1_1, a1_2) u9 (RdT.now (RdT.pair RdT.int (RdT.old h1.2)) hw) _ hy10) ?_
      rintro _ _ ⟨y10x0, rfl, rfl, rfl, hby10x0⟩
      refine sc ?_
      replace hp := dd hp
      refine s1 ?_
      replace hp := ba hp; obtain ⟨y11, hy11, hp⟩ := hp
      refine L_callR rfl fn48.h rfl (by exact fun w hw => i_upOf_walk w y10x0 a2 (RdT.now (RdT.map hby10x0 (RdT.pair RdT.int (RdT.old h1.2))) hw) (RdT.now (RdT.old h2) hw) _ hy11) ?_
      rintro _ _ ⟨y11x0, rfl, rfl, rfl⟩
      refine sc ?_
      replace hp := dd hp
      refine s3 ?_
      refine kp [2, 4, 7, 9, 25, 26, 27, 37] ?_
      refine W_cond rfl (fun hc12 => ?_) (fun hc12 => ?_)
      · replace hp := cond_t hc12 hp
        refine s3 ?_
        refine L_buildSlice1 rfl rfl el32.h rfl (by decide) (by decide) rfl (fun bb40 => ?_)
        replace hp := ba hp; obtain ⟨y14, hy14, hp⟩ := hp
        refine L_app1F (X := v7_0) (u9 : ByteArray) rfl rfl rfl el32.h rfl rfl pk mm  hy14 (by decide) (fun X13 hdX13 => ?_)
        subst hdX13
        refine s6 ?_
        exact ⟨(X13, IntKind.wrap .i64 (v7_1 + 1)), sb, (.sub ms), some_eq hp⟩
      · replace hp := cond_f hc12 hp
        refine s5 ?_
        exact ⟨(v7_0, IntKind.wrap .i64 (v7_1 + 1)), sb, (.sub ms), some_eq hp⟩
    · replace hp := cond_f hc8 hp
      refine W_exit ?_
      replace hp := map_any hp; obtain ⟨a15, hp, hx_a15⟩ := hp
      obtain rfl := hx7 _ hx_a15
      refine s5 ?_
      obtain rfl := Option.some.inj hp
      refine s1 ?_
      refine res1 rfl (ResOK.tmp rfl) ⟨v7_0, rfl, rfl, rfl⟩ ms
noncomputable def i_with (a0 : List Int) (a1 : Int) : Option (List Int) :=
  Option.bind (appP ([] : List Int) a0) (fun y2 => Option.bind (sl_Contains_intint y2 a1) (fun y3 => cond (!y3) (Option.bind (appP y2 [a1]) (fun y6 => Option.bind (sortIP y6) (fun y7 => some y7))) (Option.bind (sortIP y2) (fun y8 => some y8))))
theorem i_with_walk (w : World) (a0 : TL Int) (a1 : Int) (h0 : GT.rd w [] a0) (r : (List Int)) (hp : i_with (GT.dat a0) a1 = some r) : Spec Tryz.prog 54 [(TL.hdr a0), .int .i64 a1].toArray w [] (fun v M => ∃ (x0 : TL Int), v = (TL.hdr x0) ∧ GT.dat x0 = r ∧ M = [treeH x0]) := by
  refine Spec.intro Tryz.func54 rfl Tryz.ntmps54 rfl ?_
  unfold i_with at hp
  replace hp := dd hp
  refine s2 ?_
  refine L_assign (v := (TL.hdr (TL.nil Int 0))) rfl rfl ?_
  refine s4 ?_
  refine L_conv (M' := treeH (TL.nil Int 0) :: _) (fun w h => addNilT _ h) ?_
  replace hp := ba hp; obtain ⟨y2, hy2, hp⟩ := hp
  refine L_appT (X := (TL.nil Int 0)) (Y := a0) rfl rfl rfl el41.h rfl rfl pk (RdT.old h0) hy2 (by decide) (fun X1 hdX1 => ?_)
  subst hdX1
  refine s7 ?_
  replace hp := ba hp; obtain ⟨y3, hy3, hp⟩ := hp
  refine L_callX rfl fn49.h rfl (by exact fun w hw => sl_Contains_intint_walk w X1 a1 (RdT.now (RdT.tree mm) hw) _ hy3) ?_
  refine s2 ?_
  refine kp [1, 5, 11] ?_
  refine W_cond rfl (fun hc4 => ?_) (fun hc4 => ?_)
  · replace hp := cond_t hc4 hp
    refine s3 ?_
    refine L_buildSlice1 rfl rfl el41.h rfl (by decide) (by decide) rfl (fun bb14 => ?_)
    replace hp := ba hp; obtain ⟨y6, hy6, hp⟩ := hp
    refine L_app1F (X := X1) (a1 : Int) rfl rfl rfl el41.h rfl rfl pk mm  hy6 (by decide) (fun X5 hdX5 => ?_)
    subst hdX5
    refine s5 ?_
    replace hp := ba hp; obtain ⟨y7, hy7, hp⟩ := hp
    refine L_callM [treeH X5] _ rfl fn74.h rfl pc (by exact fun w hw => sl_Sort_intint_walk w X5  _ hy7) ?_
    rintro _ _ ⟨y7y0, rfl, rfl, rfl, hey7_0⟩
    try rw [← hey7_0]
    refine sc ?_
    replace hp := dd hp
    refine s6 ?_
    obtain rfl := Option.some.inj hp
    refine s1 ?_
    refine res1 rfl (ResOK.tmp rfl) ⟨y7y0, rfl, rfl, rfl⟩ ms
  · replace hp := cond_f hc4 hp
    refine s4 ?_
    replace hp := ba hp; obtain ⟨y8, hy8, hp⟩ := hp
    refine L_callM [treeH X1] _ rfl fn74.h rfl pc (by exact fun w hw => sl_Sort_intint_walk w X1  _ hy8) ?_
    rintro _ _ ⟨y8y0, rfl, rfl, rfl, hey8_0⟩
    try rw [← hey8_0]
    refine sc ?_
    replace hp := dd hp
    refine s6 ?_
    obtain rfl := Option.some.inj hp
    refine s1 ?_
    refine res1 rfl (ResOK.tmp rfl) ⟨y8y0, rfl, rfl, rfl⟩ ms
noncomputable def i_RepairAll (a0 : D_Ups) (a1 : List D_Copy) : Option (D_Ups × Bool) :=
  Option.bind (i_UpsOk (a0.1, a0.2)) (fun y1 => cond (!y1) (some ((0, ([] : List D_Up)), false)) (Option.bind (i_copyUps (a0.1, a0.2)) (fun y3 => whileP (fun s4 : Int × (List D_Up) => cond (decide (s4.1 < (a1.length : Int))) (Option.bind (idx a1 s4.1) (fun y6 => Option.bind (i_Ups_at (y3.1, s4.2) y6.1) (fun y7 => gb (!(decide (y7 < 0))) (idx s4.2 y7) (fun y8 => gb (!(decide (y7 < 0))) (sl_Contains_intint y8.2.1 y6.2.1) (fun y9 => gb (!((decide (y7 < 0)) || (!y9))) (i_isRep y6.2.2) (fun y10 => cond (((decide (y7 < 0)) || (!y9)) || (!y10)) (Option.bind (i_copyUps (a0.1, a0.2)) (fun y12 => Option.map .inr (some ((y12.1, y12.2), false)))) (Option.bind (idx s4.2 y7) (fun y14 => Option.bind (i_with y14.2.1 y6.2.2) (fun y15 => Option.bind (idx s4.2 y7) (fun y16 => Option.bind (some (s4.2.set (y7.toNat) (y16.1, y15, y16.2.2))) (fun y17 => some (.inl ((IntKind.wrap .i64 (s4.1 + 1), y17)))))))))))))) (Option.map .inr (some ((y3.1, s4.2), true)))) (0, y3.2))))
theorem i_RepairAll_walk (w : World) (a0 : T_Ups) (a1 : TL T_Copy) (h0 : GT.rd w [] a0) (h1 : GT.rd w [] a1) (r : D_Ups × Bool) (hp : i_RepairAll (GT.dat a0) (GT.dat a1) = some r) : Spec Tryz.prog 22 [.agg (GT.cells a0).toArray, (TL.hdr a1)].toArray w [] (fun v M => ∃ (x0 : T_Ups) (x1 : Bool), v = .tuple #[.agg (GT.cells x0).toArray, .bool x1] ∧ (GT.dat x0, GT.dat x1) = r ∧ M = [treeH x0]) := by
  obtain ⟨a0_1, a0_2⟩ := a0
  change Spec _ _ ([Value.agg #[.int .i64 a0_1, (TL.hdr a0_2)], (TL.hdr a1)] : List Value).toArray w [] _
  refine Spec.intro Tryz.func22 rfl Tryz.ntmps22 rfl ?_
  unfold i_RepairAll at hp
  replace hp := dd hp
  refine s2 ?_
  refine bx fun bk2 => ?_
  refine al fun bk4 => ?_
  refine s6 ?_
  replace hp := ba hp; obtain ⟨y1, hy1, hp⟩ := hp
  refine L_callX rfl fn31.h rfl (by exact fun w hw => i_UpsOk_walk w (a0_1, a0_2) (RdT.now (RdT.pair RdT.int (RdT.old h0.2)) hw) _ hy1) ?_
  refine s2 ?_
  refine kp [1, 2, 4, 12] ?_
  refine W_cond rfl (fun hc2 => ?_) (fun hc2 => ?_)
  · replace hp := cond_t hc2 hp
    refine s2 ?_
    refine L_build (xs := []) (cs := [.int .i64 0, (TL.hdr (TL.nil T_Up 0))]) rfl rfl bld29.h rfl ?_
    refine s3 ?_
    obtain rfl := Option.some.inj hp
    refine W_conv (M' := treeH (TL.nil T_Up 0) :: _) (fun w h => addNilT (τ := T_Up) 0 h) ?_
    refine jW ((0, (TL.nil T_Up 0)) : T_Ups) ?_
    refine s1 ?_
    refine res2 rfl (ResOK.cell rfl mm (by exact agg29.h)) (ResOK.tmp rfl) ⟨(0, (TL.nil T_Up 0)), false, rfl, rfl, rfl⟩ ms
  · replace hp := cond_f hc2 hp
    refine s4 ?_
    replace hp := ba hp; obtain ⟨y3, hy3, hp⟩ := hp
    refine L_callR rfl fn33.h rfl (by exact fun w hw => i_copyUps_walk w (a0_1, a0_2) (RdT.now (RdT.pair RdT.int (RdT.old h0.2)) hw) _ hy3) ?_
    rintro _ _ ⟨⟨y3x0_1, y3x0_2⟩, rfl, rfl, rfl⟩
    refine sc ?_
    replace hp := dd hp
    refine xL ((y3x0_1, y3x0_2) : T_Ups) ?_
    refine al fun bk6 => ?_
    refine s10 ?_
    refine W_while (σ := Int × (TL T_Up)) GT.dat (fun ((v4_0, v4_1) : Int × (TL T_Up)) => [(18, .int .i64 v4_0)]) (fun ((v4_0, v4_1) : Int × (TL T_Up)) => [blk bk6 [.int .i64 y3x0_1, (TL.hdr v4_1)] 29, treeH v4_1]) [(2, _), (4, _), (6, _), (16, _), (17, _)] [blk bk2 _ _, blk bk4 _ _] (0, y3x0_2) hp sb ms ?_
    clear hp
    rintro ⟨v4_0, v4_1⟩ x4 hp hx4
    replace hp := dd hp
    refine kq [2, 4, 6, 16, 17, 18] ?_
    refine s5 ?_
    refine kp [2, 4, 6, 16, 17, 18, 19] ?_
    refine W_cond rfl (fun hc5 => ?_) (fun hc5 => ?_)
    · replace hp := cond_t hc5 hp
      refine s5 ?_
      replace hp := idx_bind hp; obtain ⟨⟨u6_1, u6_2, u6_3⟩, hy6, hp⟩ := hp
      refine L_idxA (X := a1) rfl rfl rfl el49.h (RdT.old h1) hy6 ?_
      refine L_loadW rfl rfl (RdT.at (RdT.old h1) (hy6).2) (by exact agg52.h) ?_
      refine al fun bk8 => ?_
      refine s7 ?_
      replace hp := ba hp; obtain ⟨y7, hy7, hp⟩ := hp
      refine L_callX rfl fn52.h rfl (by exact fun w hw => i_Ups_at_walk w (y3x0_1, v4_1) u6_1 (RdT.now (RdT.pair RdT.int (RdT.tree mm)) hw) _ hy7) ?_
      refine s4 ?_
      replace hp := idx_gb hp; obtain ⟨⟨u8_1, u8_2, u8_3⟩, hy8, hp⟩ := hp
      replace hp := gb_any hp; obtain ⟨y9, hy9, hp⟩ := hp
      replace hp := gb_any hp; obtain ⟨y10, hy10, hp⟩ := hp
      refine W_D0 [45] mix (by kernel_rfl) rfl ?_
      refine s6 ?_
      refine D_idxA (X := v4_1) (GC.some rfl rfl) (OpV.s rfl) (OpV.s rfl) el27.h (RdT.tree mm) (fun hg => hy8 (gnot hg.2)) ?_
      refine s1 ?_
      refine D_load (GC.some rfl rfl) (OpV.s rfl) (fun hg => RdT.at (RdT.tree mm) (hy8 (gnot hg.2)).2) one41.h rfl ?_
      refine s2 ?_
      refine D_callX (GC.some rfl rfl) fn49.h (OpVs.cons (OpV.s rfl) (OpVs.cons (OpV.s rfl) (OpVs.nil))) (by exact fun hg w F hF hM => sl_Contains_intint_walk w u8_2 u6_2 (RdT.nowS (RdT.fst (RdT.snd (RdT.of (RdT.tree mm) (hy8 (gnot hg.2)).2))) hF hM) _ (hy9 (gnot hg.2))) ?_
      refine s5 ?_
      refine D_callX (GC.some rfl rfl) fn53.h (OpVs.cons (OpV.s rfl) (OpVs.nil)) (by exact fun hg w F hF hM => i_isRep_walk w u6_3  _ (hy10 (gnot hg.2))) ?_
      refine s20 ?_
      refine s4 ?_
      refine kp [2, 4, 6, 8, 9, 16, 17, 18, 45] ?_
      refine W_cond rfl (fun hc11 => ?_) (fun hc11 => ?_)
      · replace hp := cond_t hc11 hp
        refine s3 ?_
        replace hp := ba hp; obtain ⟨y12, hy12, hp⟩ := hp
        refine L_callR rfl fn33.h rfl (by exact fun w hw => i_copyUps_walk w (a0_1, a0_2) (RdT.now (RdT.pair RdT.int (RdT.old h0.2)) hw) _ hy12) ?_
        rintro _ _ ⟨⟨y12x0_1, y12x0_2⟩, rfl, rfl, rfl⟩
        refine sc ?_
        replace hp := dd hp
        refine xL ((y12x0_1, y12x0_2) : T_Ups) ?_
        refine s3 ?_
        replace hp := map_any hp; obtain ⟨a13, hp, hx_a13⟩ := hp
        obtain rfl := hx4 _ hx_a13
        obtain rfl := Option.some.inj hp
        refine jW ((y12x0_1, y12x0_2) : T_Ups) ?_
        refine s1 ?_
        refine res2 rfl (ResOK.cell rfl mm (by exact agg29.h)) (ResOK.tmp rfl) ⟨(y12x0_1, y12x0_2), false, rfl, rfl, rfl⟩ ms
      · replace hp := cond_f hc11 hp
        refine s1 ?_
        replace hp := idx_bind hp; obtain ⟨⟨u14_1, u14_2, u14_3⟩, hy14, hp⟩ := hp
        replace hp := ba hp; obtain ⟨y15, hy15, hp⟩ := hp
        refine W_DS (pre := [_, _, _, _, _, _, _, _, _, _, _, _]) (suf := [_, _, _]) [49, 50, 59] [] _ pc mix (by kernel_rfl) (by kernel_rfl) rfl ?_
        refine s6 ?_
        refine D_idxA (X := v4_1) GC.none (OpV.t rfl) (OpV.t rfl) el27.h (RdT.tree mm) (fun _ => hy14) ?_
        refine s1 ?_
        refine D_load GC.none (OpV.t rfl) (fun hg => RdT.at (RdT.tree mm) (hy14).2) one41.h rfl ?_
        refine s2 ?_
        refine D_call1R (fun v M => ∃ (x0 : TL Int), v = (TL.hdr x0) ∧ GT.dat x0 = y15 ∧ M = [treeH x0]) fn54.h (OpVs.cons (OpV.t rfl) (OpVs.cons (OpV.t rfl) (OpVs.nil))) (by exact fun w F hF hM => i_with_walk w u14_2 u6_3 (RdT.nowS (RdT.fst (RdT.snd (RdT.of (RdT.tree mm) (hy14).2))) hF hM) _ hy15) ?_
        refine s1 ?_
        refine Give_R rfl rfl ?_
        rintro _ _ ⟨y15x0, rfl, rfl, rfl⟩
        refine s12 ?_
        refine sc ?_
        replace hp := dd hp
        replace hp := idx_bind hp; obtain ⟨u16, hy16, hp⟩ := hp
        obtain rfl : (u14_1, u14_2, u14_3) = u16 := Option.some.inj (hy14.2.symm.trans hy16.2)
        refine L_idxA (X := v4_1) rfl rfl rfl el27.h (RdT.tree mm) hy14 ?_
        refine s1 ?_
        refine L_conv (M' := treeH (u14_1, u14_2, u14_3) :: holeH v4_1 (y7.toNat) (GT.cells (u14_1, u14_2, u14_3)) :: _) (fun w h => hole_open hy14.2 pk h) ?_
        refine xL ((u14_1, u14_2, u14_3) : T_Up) ?_
        refine L_stH (X := v4_1) (i := y7.toNat) (sz := 3) (fo := 1) (n := 1) rfl rfl pk rfl (.inr ⟨one41.h, rfl⟩) rfl (allOne rfl) (Nat.le_of_ble_eq_true rfl) ?_
        refine jL ((u14_1, y15x0, u14_3) : T_Up) ?_
        replace hp := ba hp; obtain ⟨y17, hy17, hp⟩ := hp
        refine L_close (X := v4_1) ((u14_1, y15x0, u14_3) : T_Up) rfl pk pk hy17 (fun X18 hdX18 hhX18 => ?_)
        subst hdX18
        try rw [← hhX18]
        try rw [← g_of_hdr hhX18]
        try rw [← o_of_hdr hhX18]
        refine s5 ?_
        exact ⟨(IntKind.wrap .i64 (v4_0 + 1), X18), sb, (.sub ms), some_eq hp⟩
    · replace hp := cond_f hc5 hp
      refine W_exit ?_
      replace hp := map_any hp; obtain ⟨a19, hp, hx_a19⟩ := hp
      obtain rfl := hx4 _ hx_a19
      refine s6 ?_
      obtain rfl := Option.some.inj hp
      refine jW ((y3x0_1, v4_1) : T_Ups) ?_
      refine s1 ?_
      refine res2 rfl (ResOK.cell rfl mm (by exact agg29.h)) (ResOK.tmp rfl) ⟨(y3x0_1, v4_1), true, rfl, rfl, rfl⟩ ms
noncomputable def w_hasText (a0 : List ByteArray) (a1 : ByteArray) : Option Bool :=
  whileP (fun s1 : Int => cond (decide (s1 < (a0.length : Int))) (Option.bind (idx a0 s1) (fun y3 => cond (decide (y3 = a1)) (Option.map .inr (some true)) (some (.inl (IntKind.wrap .i64 (s1 + 1)))))) (Option.map .inr (some false))) 0
theorem w_hasText_walk (w : World) (a0 : TL ByteArray) (a1 : ByteArray) (h0 : GT.rd w [] a0) (r : Bool) (hp : w_hasText (GT.dat a0) a1 = some r) : Spec Tryz.prog 14 [(TL.hdr a0), .string a1].toArray w [] (IsV (.bool r)) := by
  refine Spec.intro Tryz.func14 rfl Tryz.ntmps14 rfl ?_
  unfold w_hasText at hp
  replace hp := dd hp
  refine s10 ?_
  refine W_while (σ := Int) GT.dat (fun (v1_0 : Int) => [(5, .int .i64 v1_0)]) (fun (v1_0 : Int) => []) [(0, _), (1, _)] [] 0 hp sb ms ?_
  clear hp
  rintro v1_0 x1 hp hx1
  replace hp := dd hp
  refine kq [0, 1, 5] ?_
  refine s8 ?_
  refine kp [0, 1, 5, 9] ?_
  refine W_cond rfl (fun hc2 => ?_) (fun hc2 => ?_)
  · replace hp := cond_t hc2 hp
    refine s7 ?_
    replace hp := idx_bind hp; obtain ⟨u3, hy3, hp⟩ := hp
    refine L_idxA (X := a0) rfl rfl rfl el32.h (RdT.old h0) hy3 ?_
    refine L_load0 rfl rfl (RdT.at (RdT.old h0) (hy3).2) one9.h rfl ?_
    refine s3 ?_
    refine kp [0, 1, 5, 17] ?_
    refine W_cond rfl (fun hc4 => ?_) (fun hc4 => ?_)
    · replace hp := cond_t hc4 hp
      refine s4 ?_
      replace hp := map_any hp; obtain ⟨a5, hp, hx_a5⟩ := hp
      obtain rfl := hx1 _ hx_a5
      obtain rfl := Option.some.inj hp
      refine s1 ?_
      refine res1 rfl (ResOK.tmp rfl) ⟨rfl, rfl⟩ ms
    · replace hp := cond_f hc4 hp
      refine s6 ?_
      exact ⟨IntKind.wrap .i64 (v1_0 + 1), sb, (.sub ms), some_eq hp⟩
  · replace hp := cond_f hc2 hp
    refine W_exit ?_
    replace hp := map_any hp; obtain ⟨a6, hp, hx_a6⟩ := hp
    obtain rfl := hx1 _ hx_a6
    refine s4 ?_
    obtain rfl := Option.some.inj hp
    refine s1 ?_
    refine res1 rfl (ResOK.tmp rfl) ⟨rfl, rfl⟩ ms
noncomputable def s_RepairAll (a0 : D_Ups) (a1 : List D_Copy) : Option (D_Ups × Bool) :=
  Option.bind (s_UpsOk (a0.1, a0.2)) (fun y1 => cond (!y1) (some ((0, ([] : List D_Up)), false)) (Option.bind (s_l18Copy (a0.1, a0.2)) (fun y3 => whileP (fun s4 : Int × (List D_Up) => cond (decide (s4.1 < (a1.length : Int))) (Option.bind (idx a1 s4.1) (fun y6 => Option.bind (s_l18At (y3.1, s4.2) y6.1) (fun y7 => gb (!(decide (y7 < 0))) (idx s4.2 y7) (fun y8 => gb (!(decide (y7 < 0))) (idx a1 s4.1) (fun y9 => gb (!(decide (y7 < 0))) (s_l18Has y8.2.1 y9.2.1) (fun y10 => gb (!((decide (y7 < 0)) || (!y10))) (idx a1 s4.1) (fun y11 => gb (!((decide (y7 < 0)) || (!y10))) (s_l9Node y11.2.2) (fun y12 => cond (((decide (y7 < 0)) || (!y10)) || (!y12)) (Option.bind (s_l18Copy (a0.1, a0.2)) (fun y14 => Option.map .inr (some ((y14.1, y14.2), false)))) (Option.bind (idx s4.2 y7) (fun y16 => Option.bind (idx a1 s4.1) (fun y17 => Option.bind (s_l18With y16.2.1 y17.2.2 true) (fun y18 => Option.bind (idx s4.2 y7) (fun y19 => Option.bind (some (s4.2.set (y7.toNat) (y19.1, y18, y19.2.2))) (fun y20 => some (.inl ((IntKind.wrap .i64 (s4.1 + 1), y20))))))))))))))))) (Option.map .inr (some ((y3.1, s4.2), true)))) (0, y3.2))))
theorem s_RepairAll_walk (w : World) (a0 : T_Ups) (a1 : TL T_Copy) (h0 : GT.rd w [] a0) (h1 : GT.rd w [] a1) (r : D_Ups × Bool) (hp : s_RepairAll (GT.dat a0) (GT.dat a1) = some r) : Spec Tryz.prog 24 [.agg (GT.cells a0).toArray, (TL.hdr a1)].toArray w [] (fun v M => ∃ (x0 : T_Ups) (x1 : Bool), v = .tuple #[.agg (GT.cells x0).toArray, .bool x1] ∧ (GT.dat x0, GT.dat x1) = r ∧ M = [treeH x0]) := by
  obtain ⟨a0_1, a0_2⟩ := a0
  change Spec _ _ ([Value.agg #[.int .i64 a0_1, (TL.hdr a0_2)], (TL.hdr a1)] : List Value).toArray w [] _
  refine Spec.intro Tryz.func24 rfl Tryz.ntmps24 rfl ?_
  unfold s_RepairAll at hp
  replace hp := dd hp
  refine s2 ?_
  refine bx fun bk2 => ?_
  refine al fun bk4 => ?_
  refine s6 ?_
  replace hp := ba hp; obtain ⟨y1, hy1, hp⟩ := hp
  refine L_callX rfl fn12.h rfl (by exact fun w hw => s_UpsOk_walk w (a0_1, a0_2) (RdT.now (RdT.pair RdT.int (RdT.old h0.2)) hw) _ hy1) ?_
  refine s2 ?_
  refine kp [1, 2, 4, 11] ?_
  refine W_cond rfl (fun hc2 => ?_) (fun hc2 => ?_)
  · replace hp := cond_t hc2 hp
    refine s2 ?_
    refine L_build (xs := []) (cs := [.int .i64 0, (TL.hdr (TL.nil T_Up 0))]) rfl rfl bld29.h rfl ?_
    refine s3 ?_
    obtain rfl := Option.some.inj hp
    refine W_conv (M' := treeH (TL.nil T_Up 0) :: _) (fun w h => addNilT (τ := T_Up) 0 h) ?_
    refine jW ((0, (TL.nil T_Up 0)) : T_Ups) ?_
    refine s1 ?_
    refine res2 rfl (ResOK.cell rfl mm (by exact agg29.h)) (ResOK.tmp rfl) ⟨(0, (TL.nil T_Up 0)), false, rfl, rfl, rfl⟩ ms
  · replace hp := cond_f hc2 hp
    refine s4 ?_
    replace hp := ba hp; obtain ⟨y3, hy3, hp⟩ := hp
    refine L_callR rfl fn35.h rfl (by exact fun w hw => s_l18Copy_walk w (a0_1, a0_2) (RdT.now (RdT.pair RdT.int (RdT.old h0.2)) hw) _ hy3) ?_
    rintro _ _ ⟨⟨y3x0_1, y3x0_2⟩, rfl, rfl, rfl⟩
    refine sc ?_
    replace hp := dd hp
    refine xL ((y3x0_1, y3x0_2) : T_Ups) ?_
    refine al fun bk6 => ?_
    refine s8 ?_
    refine W_while (σ := Int × (TL T_Up)) GT.dat (fun ((v4_0, v4_1) : Int × (TL T_Up)) => [(7, .int .i64 v4_0)]) (fun ((v4_0, v4_1) : Int × (TL T_Up)) => [blk bk6 [.int .i64 y3x0_1, (TL.hdr v4_1)] 29, treeH v4_1]) [(1, _), (2, _), (4, _), (6, _)] [blk bk2 _ _, blk bk4 _ _] (0, y3x0_2) hp sb ms ?_
    clear hp
    rintro ⟨v4_0, v4_1⟩ x4 hp hx4
    replace hp := dd hp
    refine kq [1, 2, 4, 6, 7] ?_
    refine s8 ?_
    refine kp [1, 2, 4, 6, 7, 18] ?_
    refine W_cond rfl (fun hc5 => ?_) (fun hc5 => ?_)
    · replace hp := cond_t hc5 hp
      refine s4 ?_
      replace hp := idx_bind hp; obtain ⟨⟨u6_1, u6_2, u6_3⟩, hy6, hp⟩ := hp
      replace hp := ba hp; obtain ⟨y7, hy7, hp⟩ := hp
      refine W_D0 [8] mix (by kernel_rfl) rfl ?_
      refine s3 ?_
      refine D_idxA (X := a1) GC.none (OpV.t rfl) (OpV.t rfl) el49.h (RdT.old h1) (fun _ => hy6) ?_
      refine s1 ?_
      refine D_load GC.none (OpV.t rfl) (fun hg => RdT.at (RdT.old h1) (hy6).2) one9.h rfl ?_
      refine D_callX GC.none fn57.h (OpVs.cons (OpV.t rfl) (OpVs.cons (OpV.t rfl) (OpVs.nil))) (by exact fun hg w F hF hM => s_l18At_walk w (y3x0_1, v4_1) u6_1 (RdT.nowS (RdT.pair RdT.int (RdT.tree mm)) hF hM) _ hy7) ?_
      refine s13 ?_
      replace hp := idx_gb hp; obtain ⟨⟨u8_1, u8_2, u8_3⟩, hy8, hp⟩ := hp
      replace hp := idx_gb hp; obtain ⟨⟨u9_1, u9_2, u9_3⟩, hy9, hp⟩ := hp
      replace hp := gb_any hp; obtain ⟨y10, hy10, hp⟩ := hp
      replace hp := idx_gb hp; obtain ⟨⟨u11_1, u11_2, u11_3⟩, hy11, hp⟩ := hp
      replace hp := gb_any hp; obtain ⟨y12, hy12, hp⟩ := hp
      refine W_D0 [53] mix (by kernel_rfl) rfl ?_
      refine s6 ?_
      refine D_idxA (X := v4_1) (GC.some rfl rfl) (OpV.s rfl) (OpV.s rfl) el27.h (RdT.tree mm) (fun hg => hy8 (gnot hg.2)) ?_
      refine s1 ?_
      refine D_load (GC.some rfl rfl) (OpV.s rfl) (fun hg => RdT.at (RdT.tree mm) (hy8 (gnot hg.2)).2) one41.h rfl ?_
      refine s2 ?_
      refine D_idxA (X := a1) (GC.some rfl rfl) (OpV.s rfl) (OpV.s rfl) el49.h (RdT.old h1) (fun hg => hy9 (gnot hg.2)) ?_
      refine s1 ?_
      refine D_load (GC.some rfl rfl) (OpV.s rfl) (fun hg => RdT.at (RdT.old h1) (hy9 (gnot hg.2)).2) one3.h rfl ?_
      refine D_callX (GC.some rfl rfl) fn51.h (OpVs.cons (OpV.s rfl) (OpVs.cons (OpV.s rfl) (OpVs.nil))) (by exact fun hg w F hF hM => s_l18Has_walk w u8_2 u9_2 (RdT.nowS (RdT.fst (RdT.snd (RdT.of (RdT.tree mm) (hy8 (gnot hg.2)).2))) hF hM) _ (hy10 (gnot hg.2))) ?_
      refine s5 ?_
      refine D_idxA (X := a1) (GC.some rfl rfl) (OpV.s rfl) (OpV.s rfl) el49.h (RdT.old h1) (fun hg => hy11 (gnot hg.2)) ?_
      refine s1 ?_
      refine D_load (GC.some rfl rfl) (OpV.s rfl) (fun hg => RdT.at (RdT.old h1) (hy11 (gnot hg.2)).2) one3.h rfl ?_
      refine D_callX (GC.some rfl rfl) fn41.h (OpVs.cons (OpV.s rfl) (OpVs.nil)) (by exact fun hg w F hF hM => s_l9Node_walk w u11_3  _ (hy12 (gnot hg.2))) ?_
      refine s20 ?_
      refine s10 ?_
      refine kp [1, 2, 4, 6, 7, 8, 53] ?_
      refine W_cond rfl (fun hc13 => ?_) (fun hc13 => ?_)
      · replace hp := cond_t hc13 hp
        refine s3 ?_
        replace hp := ba hp; obtain ⟨y14, hy14, hp⟩ := hp
        refine L_callR rfl fn35.h rfl (by exact fun w hw => s_l18Copy_walk w (a0_1, a0_2) (RdT.now (RdT.pair RdT.int (RdT.old h0.2)) hw) _ hy14) ?_
        rintro _ _ ⟨⟨y14x0_1, y14x0_2⟩, rfl, rfl, rfl⟩
        refine sc ?_
        replace hp := dd hp
        refine xL ((y14x0_1, y14x0_2) : T_Ups) ?_
        refine s3 ?_
        replace hp := map_any hp; obtain ⟨a15, hp, hx_a15⟩ := hp
        obtain rfl := hx4 _ hx_a15
        obtain rfl := Option.some.inj hp
        refine jW ((y14x0_1, y14x0_2) : T_Ups) ?_
        refine s1 ?_
        refine res2 rfl (ResOK.cell rfl mm (by exact agg29.h)) (ResOK.tmp rfl) ⟨(y14x0_1, y14x0_2), false, rfl, rfl, rfl⟩ ms
      · replace hp := cond_f hc13 hp
        refine s1 ?_
        replace hp := idx_bind hp; obtain ⟨⟨u16_1, u16_2, u16_3⟩, hy16, hp⟩ := hp
        replace hp := idx_bind hp; obtain ⟨u17, hy17, hp⟩ := hp
        obtain rfl : (u6_1, u6_2, u6_3) = u17 := Option.some.inj (hy6.2.symm.trans hy17.2)
        replace hp := ba hp; obtain ⟨y18, hy18, hp⟩ := hp
        refine W_DS (pre := [_, _, _, _, _, _, _, _, _, _, _, _, _, _, _]) (suf := [_, _, _]) [57, 58, 70] [] _ pc mix (by kernel_rfl) (by kernel_rfl) rfl ?_
        refine s6 ?_
        refine D_idxA (X := v4_1) GC.none (OpV.t rfl) (OpV.t rfl) el27.h (RdT.tree mm) (fun _ => hy16) ?_
        refine s1 ?_
        refine D_load GC.none (OpV.t rfl) (fun hg => RdT.at (RdT.tree mm) (hy16).2) one41.h rfl ?_
        refine s2 ?_
        refine D_idxA (X := a1) GC.none (OpV.t rfl) (OpV.t rfl) el49.h (RdT.old h1) (fun _ => hy6) ?_
        refine s1 ?_
        refine D_load GC.none (OpV.t rfl) (fun hg => RdT.at (RdT.old h1) (hy6).2) one3.h rfl ?_
        refine D_call1R (fun v M => ∃ (x0 : TL Int), v = (TL.hdr x0) ∧ GT.dat x0 = y18 ∧ M = [treeH x0]) fn58.h (OpVs.cons (OpV.t rfl) (OpVs.cons (OpV.t rfl) (OpVs.cons OpV.c (OpVs.nil)))) (by exact fun w F hF hM => s_l18With_walk w u16_2 u6_3 true (RdT.nowS (RdT.fst (RdT.snd (RdT.of (RdT.tree mm) (hy16).2))) hF hM) _ hy18) ?_
        refine s1 ?_
        refine Give_R rfl rfl ?_
        rintro _ _ ⟨y18x0, rfl, rfl, rfl⟩
        refine s15 ?_
        refine sc ?_
        replace hp := dd hp
        replace hp := idx_bind hp; obtain ⟨u19, hy19, hp⟩ := hp
        obtain rfl : (u16_1, u16_2, u16_3) = u19 := Option.some.inj (hy16.2.symm.trans hy19.2)
        refine L_idxA (X := v4_1) rfl rfl rfl el27.h (RdT.tree mm) hy16 ?_
        refine s1 ?_
        refine L_conv (M' := treeH (u16_1, u16_2, u16_3) :: holeH v4_1 (y7.toNat) (GT.cells (u16_1, u16_2, u16_3)) :: _) (fun w h => hole_open hy16.2 pk h) ?_
        refine xL ((u16_1, u16_2, u16_3) : T_Up) ?_
        refine L_stH (X := v4_1) (i := y7.toNat) (sz := 3) (fo := 1) (n := 1) rfl rfl pk rfl (.inr ⟨one41.h, rfl⟩) rfl (allOne rfl) (Nat.le_of_ble_eq_true rfl) ?_
        refine jL ((u16_1, y18x0, u16_3) : T_Up) ?_
        replace hp := ba hp; obtain ⟨y20, hy20, hp⟩ := hp
        refine L_close (X := v4_1) ((u16_1, y18x0, u16_3) : T_Up) rfl pk pk hy20 (fun X21 hdX21 hhX21 => ?_)
        subst hdX21
        try rw [← hhX21]
        try rw [← g_of_hdr hhX21]
        try rw [← o_of_hdr hhX21]
        refine s6 ?_
        exact ⟨(IntKind.wrap .i64 (v4_0 + 1), X21), sb, (.sub ms), some_eq hp⟩
    · replace hp := cond_f hc5 hp
      refine W_exit ?_
      replace hp := map_any hp; obtain ⟨a22, hp, hx_a22⟩ := hp
      obtain rfl := hx4 _ hx_a22
      refine s6 ?_
      obtain rfl := Option.some.inj hp
      refine jW ((y3x0_1, v4_1) : T_Ups) ?_
      refine s1 ?_
      refine res2 rfl (ResOK.cell rfl mm (by exact agg29.h)) (ResOK.tmp rfl) ⟨(y3x0_1, v4_1), true, rfl, rfl, rfl⟩ ms
noncomputable def s_Lost (a0 : D_Catalog) (a1 : D_Ups) (a2 : List Bool) : Option (List ByteArray) :=
  Option.bind (some ([] : List ByteArray)) (fun y2 => Option.bind (s_CatOk a0) (fun y3 => gb (!(!y3)) (s_UpsOk (a1.1, a1.2)) (fun y4 => cond (((!y3) || (!y4)) || (!decide ((a2.length : Int) = 3))) (some y2) (Option.bind (s_AllChunks a0) (fun y6 => whileP (fun s7 : (List ByteArray) × Int => cond (decide (s7.2 < (y6.length : Int))) (Option.bind (idx y6 s7.2) (fun y9 => Option.bind (s_l20Have (a1.1, a1.2) y9 a2) (fun y10 => cond (decide ((y10.length : Int) = 0)) (Option.bind (idx y6 s7.2) (fun y12 => Option.bind (appP s7.1 [y12]) (fun y14 => some (.inl ((y14, IntKind.wrap .i64 (s7.2 + 1))))))) (some (.inl ((s7.1, IntKind.wrap .i64 (s7.2 + 1)))))))) (Option.map .inr (some s7.1))) (y2, 0))))))
theorem s_Lost_walk (w : World) (a0 : T_Catalog) (a1 : T_Ups) (a2 : TL Bool) (h0 : GT.rd w [] a0) (h1 : GT.rd w [] a1) (h2 : GT.rd w [] a2) (r : (List ByteArray)) (hp : s_Lost (GT.dat a0) (GT.dat a1) (GT.dat a2) = some r) : Spec Tryz.prog 25 [.agg (GT.cells a0).toArray, .agg (GT.cells a1).toArray, (TL.hdr a2)].toArray w [] (fun v M => ∃ (x0 : TL ByteArray), v = (TL.hdr x0) ∧ GT.dat x0 = r ∧ M = [treeH x0]) := by
  obtain ⟨a1_1, a1_2⟩ := a1
  change Spec _ _ ([Value.agg #[(TL.hdr a0)], Value.agg #[.int .i64 a1_1, (TL.hdr a1_2)], (TL.hdr a2)] : List Value).toArray w [] _
  refine Spec.intro Tryz.func25 rfl Tryz.ntmps25 rfl ?_
  unfold s_Lost at hp
  replace hp := dd hp
  refine s2 ?_
  refine bx fun bk3 => ?_
  refine bx fun bk4 => ?_
  refine L_assign (v := (TL.hdr (TL.nil ByteArray 0))) rfl rfl ?_
  refine s3 ?_
  replace hp := ba hp; obtain ⟨y2, hy2, hp⟩ := hp
  refine L_mk0 ByteArray rfl el32.h (fun X1 hdX1 => ?_)
  obtain rfl : GT.dat X1 = y2 := hdX1.trans (Option.some.inj hy2)
  clear hy2 hdX1
  refine s4 ?_
  replace hp := ba hp; obtain ⟨y3, hy3, hp⟩ := hp
  replace hp := gb_any hp; obtain ⟨y4, hy4, hp⟩ := hp
  refine W_D0 [23] mix (by kernel_rfl) rfl ?_
  refine s1 ?_
  refine D_callX GC.none fn17.h (OpVs.cons (OpV.t rfl) (OpVs.nil)) (by exact fun hg w F hF hM => s_CatOk_walk w a0 (RdT.nowS (RdT.old h0) hF hM) _ hy3) ?_
  refine s3 ?_
  refine D_callX (GC.some rfl rfl) fn12.h (OpVs.cons (OpV.s rfl) (OpVs.nil)) (by exact fun hg w F hF hM => s_UpsOk_walk w (a1_1, a1_2) (RdT.nowS (RdT.pair RdT.int (RdT.old h1.2)) hF hM) _ (hy4 (gnot hg.2))) ?_
  refine s4 ?_
  refine D_lenP (X := a2) (GC.some rfl rfl) (OpV.s rfl) el46.h ?_
  refine s17 ?_
  refine kp [2, 3, 4, 7, 23] ?_
  refine W_cond rfl (fun hc5 => ?_) (fun hc5 => ?_)
  · replace hp := cond_t hc5 hp
    refine s5 ?_
    obtain rfl := Option.some.inj hp
    refine s1 ?_
    refine res1 rfl (ResOK.tmp rfl) ⟨X1, rfl, rfl, rfl⟩ ms
  · replace hp := cond_f hc5 hp
    refine s4 ?_
    replace hp := ba hp; obtain ⟨y6, hy6, hp⟩ := hp
    refine L_callR rfl fn13.h rfl (by exact fun w hw => s_AllChunks_walk w a0 (RdT.now (RdT.old h0) hw) _ hy6) ?_
    rintro _ _ ⟨y6x0, rfl, rfl, rfl⟩
    refine sc ?_
    replace hp := dd hp
    refine s8 ?_
    refine W_while (σ := (TL ByteArray) × Int) GT.dat (fun ((v7_0, v7_1) : (TL ByteArray) × Int) => [(7, (TL.hdr v7_0)), (9, .int .i64 v7_1)]) (fun ((v7_0, v7_1) : (TL ByteArray) × Int) => [treeH v7_0]) [(2, _), (4, _), (8, _)] [blk bk4 _ _, treeH y6x0] (X1, 0) hp sb ms ?_
    clear hp
    rintro ⟨v7_0, v7_1⟩ x7 hp hx7
    replace hp := dd hp
    refine kq [2, 4, 7, 8, 9] ?_
    refine s8 ?_
    refine kp [2, 4, 7, 8, 9, 30] ?_
    refine W_cond rfl (fun hc8 => ?_) (fun hc8 => ?_)
    · replace hp := cond_t hc8 hp
      refine s4 ?_
      replace hp := idx_bind hp; obtain ⟨u9, hy9, hp⟩ := hp
      refine W_DS (pre := [_, _, _, _, _, _]) (suf := [_, _, _]) [33, 37, 38] [] _ pc mix (by kernel_rfl) (by kernel_rfl) rfl ?_
      refine s3 ?_
      refine D_idxA (X := y6x0) GC.none (OpV.t rfl) (OpV.t rfl) el32.h (RdT.tree mm) (fun _ => hy9) ?_
      refine D_load0 GC.none (OpV.t rfl) (fun hg => RdT.at (RdT.tree mm) (hy9).2) one9.h rfl ?_
      refine s9 ?_
      replace hp := ba hp; obtain ⟨y10, hy10, hp⟩ := hp
      refine L_callR rfl fn50.h rfl (by exact fun w hw => s_l20Have_walk w (a1_1, a1_2) u9 a2 (RdT.now (RdT.pair RdT.int (RdT.old h1.2)) hw) (RdT.now (RdT.old h2) hw) _ hy10) ?_
      rintro _ _ ⟨y10x0, rfl, rfl, rfl⟩
      refine sc ?_
      replace hp := dd hp
      refine s3 ?_
      refine kp [2, 4, 7, 8, 9, 41] ?_
      refine W_cond rfl (fun hc11 => ?_) (fun hc11 => ?_)
      · replace hp := cond_t hc11 hp
        refine s4 ?_
        replace hp := idx_bind hp; obtain ⟨u12, hy12, hp⟩ := hp
        obtain rfl : u9 = u12 := Option.some.inj (hy9.2.symm.trans hy12.2)
        refine L_idxA (X := y6x0) rfl rfl rfl el32.h (RdT.tree mm) hy9 ?_
        refine L_load0 rfl rfl (RdT.at (RdT.tree mm) (hy9).2) one9.h rfl ?_
        refine L_buildSlice1 rfl rfl el32.h rfl (by decide) (by decide) rfl (fun bb47 => ?_)
        replace hp := ba hp; obtain ⟨y14, hy14, hp⟩ := hp
        refine L_app1F (X := v7_0) (u9 : ByteArray) rfl rfl rfl el32.h rfl rfl pk mm  hy14 (by decide) (fun X13 hdX13 => ?_)
        subst hdX13
        refine s7 ?_
        exact ⟨(X13, IntKind.wrap .i64 (v7_1 + 1)), sb, (.sub ms), some_eq hp⟩
      · replace hp := cond_f hc11 hp
        refine s6 ?_
        exact ⟨(v7_0, IntKind.wrap .i64 (v7_1 + 1)), sb, (.sub ms), some_eq hp⟩
    · replace hp := cond_f hc8 hp
      refine W_exit ?_
      replace hp := map_any hp; obtain ⟨a15, hp, hx_a15⟩ := hp
      obtain rfl := hx7 _ hx_a15
      refine s5 ?_
      obtain rfl := Option.some.inj hp
      refine s1 ?_
      refine res1 rfl (ResOK.tmp rfl) ⟨v7_0, rfl, rfl, rfl⟩ ms
noncomputable def w_sameTexts (a0 : List ByteArray) (a1 : List ByteArray) : Option Bool :=
  cond (!decide ((a0.length : Int) = (a1.length : Int))) (some false) (whileP (fun s2 : Int => cond (decide (s2 < (a0.length : Int))) (Option.bind (idx a0 s2) (fun y4 => Option.bind (idx a1 s2) (fun y5 => cond (!decide (y4 = y5)) (Option.map .inr (some false)) (some (.inl (IntKind.wrap .i64 (s2 + 1))))))) (Option.map .inr (some true))) 0)
theorem w_sameTexts_walk (w : World) (a0 : TL ByteArray) (a1 : TL ByteArray) (h0 : GT.rd w [] a0) (h1 : GT.rd w [] a1) (r : Bool) (hp : w_sameTexts (GT.dat a0) (GT.dat a1) = some r) : Spec Tryz.prog 9 [(TL.hdr a0), (TL.hdr a1)].toArray w [] (IsV (.bool r)) := by
  refine Spec.intro Tryz.func9 rfl Tryz.ntmps9 rfl ?_
  unfold w_sameTexts at hp
  replace hp := dd hp
  refine s13 ?_
  refine kp [0, 1, 10] ?_
  refine W_cond rfl (fun hc1 => ?_) (fun hc1 => ?_)
  · replace hp := cond_t hc1 hp
    refine s4 ?_
    obtain rfl := Option.some.inj hp
    refine s1 ?_
    refine res1 rfl (ResOK.tmp rfl) ⟨rfl, rfl⟩ ms
  · replace hp := cond_f hc1 hp
    refine s7 ?_
    refine W_while (σ := Int) GT.dat (fun (v2_0 : Int) => [(5, .int .i64 v2_0)]) (fun (v2_0 : Int) => []) [(0, _), (1, _)] [] 0 hp sb ms ?_
    clear hp
    rintro v2_0 x2 hp hx2
    replace hp := dd hp
    refine kq [0, 1, 5] ?_
    refine s8 ?_
    refine kp [0, 1, 5, 14] ?_
    refine W_cond rfl (fun hc3 => ?_) (fun hc3 => ?_)
    · replace hp := cond_t hc3 hp
      refine s4 ?_
      replace hp := idx_bind hp; obtain ⟨u4, hy4, hp⟩ := hp
      replace hp := idx_bind hp; obtain ⟨u5, hy5, hp⟩ := hp
      refine W_D0 [25] mix (by kernel_rfl) rfl ?_
      refine s2 ?_
      refine D_idxA (X := a0) GC.none (OpV.t rfl) (OpV.t rfl) el32.h (RdT.old h0) (fun _ => hy4) ?_
      refine D_load0 GC.none (OpV.t rfl) (fun hg => RdT.at (RdT.old h0) (hy4).2) one9.h rfl ?_
      refine s2 ?_
      refine D_idxA (X := a1) GC.none (OpV.t rfl) (OpV.t rfl) el32.h (RdT.old h1) (fun _ => hy5) ?_
      refine D_load0 GC.none (OpV.t rfl) (fun hg => RdT.at (RdT.old h1) (hy5).2) one9.h rfl ?_
      refine s12 ?_
      refine kp [0, 1, 5, 25] ?_
      refine W_cond rfl (fun hc6 => ?_) (fun hc6 => ?_)
      · replace hp := cond_t hc6 hp
        refine s4 ?_
        replace hp := map_any hp; obtain ⟨a7, hp, hx_a7⟩ := hp
        obtain rfl := hx2 _ hx_a7
        obtain rfl := Option.some.inj hp
        refine s1 ?_
        refine res1 rfl (ResOK.tmp rfl) ⟨rfl, rfl⟩ ms
      · replace hp := cond_f hc6 hp
        refine s6 ?_
        exact ⟨IntKind.wrap .i64 (v2_0 + 1), sb, (.sub ms), some_eq hp⟩
    · replace hp := cond_f hc3 hp
      refine W_exit ?_
      replace hp := map_any hp; obtain ⟨a8, hp, hx_a8⟩ := hp
      obtain rfl := hx2 _ hx_a8
      refine s4 ?_
      obtain rfl := Option.some.inj hp
      refine s1 ?_
      refine res1 rfl (ResOK.tmp rfl) ⟨rfl, rfl⟩ ms
noncomputable def w_FnRepair (a0 : List UInt8) : Option Bool :=
  Option.bind (w_big a0) (fun y1 => cond y1 (some true) (Option.bind (s_DrawRepairs a0) (fun y3 => Option.bind (i_Repairs y3.1 (y3.2.1.1, y3.2.1.2) y3.2.2) (fun y4 => Option.bind (s_Repairs y3.1 (y3.2.1.1, y3.2.1.2) y3.2.2) (fun y5 => cond (!decide ((y4.length : Int) = (y5.length : Int))) (some false) (whileP (fun s7 : Int => cond (decide (s7 < (y4.length : Int))) (Option.bind (idx y4 s7) (fun y9 => Option.bind (idx y5 s7) (fun y10 => cond (!(decide (y9.1 = y10.1) && (decide (y9.2.1 = y10.2.1) && (decide (y9.2.2 = y10.2.2) && true)))) (Option.map .inr (some false)) (some (.inl (IntKind.wrap .i64 (s7 + 1))))))) (Option.map .inr (Option.bind (s_CatOk y3.1) (fun y14 => gb (!(!y14)) (s_UpsOk (y3.2.1.1, y3.2.1.2)) (fun y15 => cond (((!y14) || (!y15)) || (!decide ((y3.2.2.length : Int) = 3))) (gb (decide ((y4.length : Int) = 0)) (i_Lost y3.1 (y3.2.1.1, y3.2.1.2) y3.2.2) (fun y17 => some ((decide ((y4.length : Int) = 0)) && (decide ((y17.length : Int) = 0))))) (Option.bind (i_RepairAll (y3.2.1.1, y3.2.1.2) y4) (fun y18 => Option.bind (i_Lost y3.1 (y18.1.1, y18.1.2) y3.2.2) (fun y19 => whileP (fun s20 : Int × Int => cond (decide (s20.2 < 3)) (Option.bind (idx y3.2.2 s20.2) (fun y22 => cond y22 (some (.inl ((IntKind.wrap .i64 (s20.1 + 1), IntKind.wrap .i64 (s20.2 + 1))))) (some (.inl ((s20.1, IntKind.wrap .i64 (s20.2 + 1))))))) (Option.map .inr (Option.bind (s_AllChunks y3.1) (fun y25 => whileP (fun s26 : Int => cond ((decide (s26 < (y25.length : Int))) && (decide (2 ≤ s20.1))) (Option.bind (idx y25 s26) (fun y28 => Option.bind (w_hasText y19 y28) (fun y29 => gb (!y29) (idx y25 s26) (fun y30 => gb (!y29) (i_UpHas (y18.1.1, y18.1.2) y30) (fun y31 => cond ((!y29) && (decide (y31 < 2))) (Option.map .inr (some false)) (some (.inl (IntKind.wrap .i64 (s26 + 1))))))))) (Option.map .inr (Option.bind (s_DrawRepairAll a0) (fun y35 => Option.bind (i_RepairAll (y35.1.1, y35.1.2) y35.2) (fun y36 => Option.bind (s_RepairAll (y35.1.1, y35.1.2) y35.2) (fun y37 => gb y18.2 (i_Repairs y3.1 (y18.1.1, y18.1.2) y3.2.2) (fun y38 => gb (y18.2 && (decide ((y38.length : Int) = 0))) (s_Lost y3.1 (y3.2.1.1, y3.2.1.2) y3.2.2) (fun y39 => gb (y18.2 && (decide ((y38.length : Int) = 0))) (w_sameTexts y19 y39) (fun y40 => some (((y18.2 && (decide ((y38.length : Int) = 0))) && y40) && (y36.2 == y37.2))))))))))) 0)))) (0, 0))))))))) 0))))))
theorem w_FnRepair_walk (w : World) (a0 : TL UInt8) (h0 : GT.rd w [] a0) (r : Bool) (hp : w_FnRepair (GT.dat a0) = some r) : Spec Tryz.prog 4 [(TL.hdr a0)].toArray w [] (IsV (.bool r)) := by
  refine Spec.intro Tryz.func4 rfl Tryz.ntmps4 rfl ?_
  unfold w_FnRepair at hp
  replace hp := dd hp
  refine s8 ?_
  replace hp := ba hp; obtain ⟨y1, hy1, hp⟩ := hp
  refine L_callX rfl fn5.h rfl (by exact fun w hw => w_big_walk w a0 (RdT.now (RdT.old h0) hw) _ hy1) ?_
  refine s1 ?_
  refine kp [0, 23] ?_
  refine W_cond rfl (fun hc2 => ?_) (fun hc2 => ?_)
  · replace hp := cond_t hc2 hp
    refine s4 ?_
    obtain rfl := Option.some.inj hp
    refine s1 ?_
    refine res1 rfl (ResOK.tmp rfl) ⟨rfl, rfl⟩ ms
  · replace hp := cond_f hc2 hp
    refine s4 ?_
    replace hp := ba hp; obtain ⟨y3, hy3, hp⟩ := hp
    refine L_callR rfl fn18.h rfl (by exact fun w hw => s_DrawRepairs_walk w a0 (RdT.now (RdT.old h0) hw) _ hy3) ?_
    rintro _ _ ⟨y3x0, ⟨y3x1_1, y3x1_2⟩, y3x2, rfl, rfl, rfl⟩
    refine sc ?_
    replace hp := dd hp
    refine xL ((y3x1_1, y3x1_2) : T_Ups) ?_
    refine s4 ?_
    refine al fun bk3 => ?_
    refine al fun bk4 => ?_
    refine s9 ?_
    replace hp := ba hp; obtain ⟨y4, hy4, hp⟩ := hp
    refine L_callR rfl fn19.h rfl (by exact fun w hw => i_Repairs_walk w y3x0 (y3x1_1, y3x1_2) y3x2 (RdT.now (RdT.tree mm) hw) (RdT.now (RdT.pair RdT.int (RdT.tree mm)) hw) (RdT.now (RdT.tree mm) hw) _ hy4) ?_
    rintro _ _ ⟨y4x0, rfl, rfl, rfl⟩
    refine sc ?_
    replace hp := dd hp
    refine s7 ?_
    replace hp := ba hp; obtain ⟨y5, hy5, hp⟩ := hp
    refine L_callR rfl fn20.h rfl (by exact fun w hw => s_Repairs_walk w y3x0 (y3x1_1, y3x1_2) y3x2 (RdT.now (RdT.tree mm) hw) (RdT.now (RdT.pair RdT.int (RdT.tree mm)) hw) (RdT.now (RdT.tree mm) hw) _ hy5) ?_
    rintro _ _ ⟨y5x0, rfl, rfl, rfl⟩
    refine sc ?_
    replace hp := dd hp
    refine s11 ?_
    refine kp [0, 3, 4, 5, 6, 7, 42] ?_
    refine W_cond rfl (fun hc6 => ?_) (fun hc6 => ?_)
    · replace hp := cond_t hc6 hp
      refine s4 ?_
      obtain rfl := Option.some.inj hp
      refine s1 ?_
      refine res1 rfl (ResOK.tmp rfl) ⟨rfl, rfl⟩ ms
    · replace hp := cond_f hc6 hp
      refine s7 ?_
      refine W_while (σ := Int) GT.dat (fun (v7_0 : Int) => [(8, .int .i64 v7_0)]) (fun (v7_0 : Int) => []) [(0, _), (3, _), (4, _), (5, _), (6, _), (7, _)] [blk bk3 _ _, blk bk4 _ _, treeH y3x2, treeH y4x0, treeH y5x0, treeH y3x0, treeH y3x1_2] 0 hp sb ms ?_
      clear hp
      rintro v7_0 x7 hp hx7
      replace hp := dd hp
      refine kq [0, 3, 4, 5, 6, 7, 8] ?_
      refine s8 ?_
      refine kp [0, 3, 4, 5, 6, 7, 8, 46] ?_
      refine W_cond rfl (fun hc8 => ?_) (fun hc8 => ?_)
      · replace hp := cond_t hc8 hp
        refine s4 ?_
        replace hp := idx_bind hp; obtain ⟨⟨u9_1, u9_2, u9_3⟩, hy9, hp⟩ := hp
        replace hp := idx_bind hp; obtain ⟨⟨u10_1, u10_2, u10_3⟩, hy10, hp⟩ := hp
        refine W_D0 [57] mix (by kernel_rfl) rfl ?_
        refine s2 ?_
        refine D_idxA (X := y4x0) GC.none (OpV.t rfl) (OpV.t rfl) el49.h (RdT.tree mm) (fun _ => hy9) ?_
        refine D_loadW GC.none (OpV.t rfl) (fun hg => RdT.at (RdT.tree mm) (hy9).2) (by exact agg52.h) ?_
        refine s2 ?_
        refine D_idxA (X := y5x0) GC.none (OpV.t rfl) (OpV.t rfl) el49.h (RdT.tree mm) (fun _ => hy10) ?_
        refine D_loadW GC.none (OpV.t rfl) (fun hg => RdT.at (RdT.tree mm) (hy10).2) (by exact agg52.h) ?_
        refine D_bin GC.none (OpV.t rfl) (OpV.t rfl) (fun hg => (bv_aneq eqsh52 (EqS.consS one9.h und9.h rfl rfl (EqS.consI one3.h und3.h rfl rfl (EqS.consI one3.h und3.h rfl rfl EqS.nil))))) ?_
        refine s11 ?_
        refine kp [0, 3, 4, 5, 6, 7, 8, 57] ?_
        refine W_cond rfl (fun hc11 => ?_) (fun hc11 => ?_)
        · replace hp := cond_t hc11 hp
          refine s4 ?_
          replace hp := map_any hp; obtain ⟨a12, hp, hx_a12⟩ := hp
          obtain rfl := hx7 _ hx_a12
          obtain rfl := Option.some.inj hp
          refine s1 ?_
          refine res1 rfl (ResOK.tmp rfl) ⟨rfl, rfl⟩ ms
        · replace hp := cond_f hc11 hp
          refine s6 ?_
          exact ⟨IntKind.wrap .i64 (v7_0 + 1), sb, (.sub ms), some_eq hp⟩
      · replace hp := cond_f hc8 hp
        refine W_exit ?_
        replace hp := map_any hp; obtain ⟨a13, hp, hx_a13⟩ := hp
        obtain rfl := hx7 _ hx_a13
        refine s2 ?_
        replace hp := ba hp; obtain ⟨y14, hy14, hp⟩ := hp
        replace hp := gb_any hp; obtain ⟨y15, hy15, hp⟩ := hp
        refine W_D0 [70] mix (by kernel_rfl) rfl ?_
        refine s1 ?_
        refine D_callX GC.none fn17.h (OpVs.cons (OpV.t rfl) (OpVs.nil)) (by exact fun hg w F hF hM => s_CatOk_walk w y3x0 (RdT.nowS (RdT.tree mm) hF hM) _ hy14) ?_
        refine s3 ?_
        refine D_callX (GC.some rfl rfl) fn12.h (OpVs.cons (OpV.s rfl) (OpVs.nil)) (by exact fun hg w F hF hM => s_UpsOk_walk w (y3x1_1, y3x1_2) (RdT.nowS (RdT.pair RdT.int (RdT.tree mm)) hF hM) _ (hy15 (gnot hg.2))) ?_
        refine s4 ?_
        refine D_lenP (X := y3x2) (GC.some rfl rfl) (OpV.s rfl) el46.h ?_
        refine s17 ?_
        refine kp [0, 3, 4, 5, 6, 70] ?_
        refine W_cond rfl (fun hc16 => ?_) (fun hc16 => ?_)
        · replace hp := cond_t hc16 hp
          refine s1 ?_
          replace hp := gb_any hp; obtain ⟨y17, hy17, hp⟩ := hp
          refine W_D0 [2] mix (by kernel_rfl) rfl ?_
          refine s1 ?_
          refine D_lenP (X := y4x0) GC.none (OpV.t rfl) el49.h ?_
          refine s5 ?_
          refine D_callGV (fun v M => ∃ (x0 : TL ByteArray), v = (TL.hdr x0) ∧ GT.dat x0 = y17 ∧ M = [treeH x0]) (GC.some rfl rfl) fn21.h (OpVs.cons (OpV.s rfl) (OpVs.cons (OpV.s rfl) (OpVs.cons (OpV.s rfl) (OpVs.nil)))) (by exact fun hg w F hF hM => i_Lost_walk w y3x0 (y3x1_1, y3x1_2) y3x2 (RdT.nowS (RdT.tree mm) hF hM) (RdT.nowS (RdT.pair RdT.int (RdT.tree mm)) hF hM) (RdT.nowS (RdT.tree mm) hF hM) _ (hy17 hg.2)) ?_
          refine D_lenG (τ := ByteArray) (t := 78) (r := y17) rfl id (by rintro v M ⟨x0, rfl, hd, -⟩; exact ⟨x0, rfl, hd⟩) (GC.some rfl rfl) el32.h ?_
          refine s17 ?_
          obtain rfl := Option.some.inj hp
          refine s1 ?_
          refine res1 rfl (ResOK.tmp rfl) ⟨rfl, rfl⟩ ms
        · replace hp := cond_f hc16 hp
          refine s5 ?_
          replace hp := ba hp; obtain ⟨y18, hy18, hp⟩ := hp
          refine L_callR rfl fn22.h rfl (by exact fun w hw => i_RepairAll_walk w (y3x1_1, y3x1_2) y4x0 (RdT.now (RdT.pair RdT.int (RdT.tree mm)) hw) (RdT.now (RdT.tree mm) hw) _ hy18) ?_
          rintro _ _ ⟨⟨y18x0_1, y18x0_2⟩, y18x1, rfl, rfl, rfl⟩
          refine sc ?_
          replace hp := dd hp
          refine xL ((y18x0_1, y18x0_2) : T_Ups) ?_
          refine s3 ?_
          refine al fun bk9 => ?_
          refine s8 ?_
          replace hp := ba hp; obtain ⟨y19, hy19, hp⟩ := hp
          refine L_callR rfl fn21.h rfl (by exact fun w hw => i_Lost_walk w y3x0 (y18x0_1, y18x0_2) y3x2 (RdT.now (RdT.tree mm) hw) (RdT.now (RdT.pair RdT.int (RdT.tree mm)) hw) (RdT.now (RdT.tree mm) hw) _ hy19) ?_
          rintro _ _ ⟨y19x0, rfl, rfl, rfl⟩
          refine sc ?_
          replace hp := dd hp
          refine s12 ?_
          refine W_while (σ := Int × Int) GT.dat (fun ((v20_0, v20_1) : Int × Int) => [(12, .int .i64 v20_0), (13, .int .i64 v20_1)]) (fun ((v20_0, v20_1) : Int × Int) => []) [(0, _), (3, _), (4, _), (5, _), (9, _), (10, _), (11, _)] [blk bk3 _ _, blk bk4 _ _, blk bk9 _ _, treeH y3x2, treeH y19x0, treeH y3x0, treeH y3x1_2, treeH y18x0_2] (0, 0) hp sb ms ?_
          clear hp
          rintro ⟨v20_0, v20_1⟩ x20 hp hx20
          replace hp := dd hp
          refine kq [0, 3, 4, 5, 9, 10, 11, 12, 13] ?_
          refine s6 ?_
          refine kp [0, 3, 4, 5, 9, 10, 11, 12, 13, 93] ?_
          refine W_cond rfl (fun hc21 => ?_) (fun hc21 => ?_)
          · replace hp := cond_t hc21 hp
            refine s7 ?_
            replace hp := idx_bind hp; obtain ⟨u22, hy22, hp⟩ := hp
            refine L_idxA (X := y3x2) rfl rfl rfl el46.h (RdT.tree mm) hy22 ?_
            refine L_load0 rfl rfl (RdT.at (RdT.tree mm) (hy22).2) one4.h rfl ?_
            refine s1 ?_
            refine kp [0, 3, 4, 5, 9, 10, 11, 12, 13, 99] ?_
            refine W_cond rfl (fun hc23 => ?_) (fun hc23 => ?_)
            · replace hp := cond_t hc23 hp
              refine s10 ?_
              exact ⟨(IntKind.wrap .i64 (v20_0 + 1), IntKind.wrap .i64 (v20_1 + 1)), sb, (.sub ms), some_eq hp⟩
            · replace hp := cond_f hc23 hp
              refine s6 ?_
              exact ⟨(v20_0, IntKind.wrap .i64 (v20_1 + 1)), sb, (.sub ms), some_eq hp⟩
          · replace hp := cond_f hc21 hp
            refine W_exit ?_
            replace hp := map_any hp; obtain ⟨a24, hp, hx_a24⟩ := hp
            obtain rfl := hx20 _ hx_a24
            refine s3 ?_
            replace hp := ba hp; obtain ⟨y25, hy25, hp⟩ := hp
            refine L_callR rfl fn13.h rfl (by exact fun w hw => s_AllChunks_walk w y3x0 (RdT.now (RdT.tree mm) hw) _ hy25) ?_
            rintro _ _ ⟨y25x0, rfl, rfl, rfl⟩
            refine sc ?_
            replace hp := dd hp
            refine s8 ?_
            refine W_while (σ := Int) GT.dat (fun (v26_0 : Int) => [(15, .int .i64 v26_0)]) (fun (v26_0 : Int) => []) [(0, _), (3, _), (4, _), (5, _), (9, _), (10, _), (11, _), (12, _), (14, _)] [blk bk3 _ _, blk bk4 _ _, blk bk9 _ _, treeH y3x2, treeH y19x0, treeH y25x0, treeH y3x0, treeH y3x1_2, treeH y18x0_2] 0 hp sb ms ?_
            clear hp
            rintro v26_0 x26 hp hx26
            replace hp := dd hp
            refine kq [0, 3, 4, 5, 9, 10, 11, 12, 14, 15] ?_
            refine s2 ?_
            refine W_D0 [111] mix (by kernel_rfl) rfl ?_
            refine s2 ?_
            refine D_lenP (X := y25x0) GC.none (OpV.t rfl) el32.h ?_
            refine s15 ?_
            refine kp [0, 3, 4, 5, 9, 10, 11, 12, 14, 15, 111] ?_
            refine W_cond rfl (fun hc27 => ?_) (fun hc27 => ?_)
            · replace hp := cond_t hc27 hp
              refine s4 ?_
              replace hp := idx_bind hp; obtain ⟨u28, hy28, hp⟩ := hp
              replace hp := ba hp; obtain ⟨y29, hy29, hp⟩ := hp
              replace hp := idx_gb hp; obtain ⟨u30, hy30, hp⟩ := hp
              replace hp := gb_any hp; obtain ⟨y31, hy31, hp⟩ := hp
              refine W_D0 [129] mix (by kernel_rfl) rfl ?_
              refine s3 ?_
              refine D_idxA (X := y25x0) GC.none (OpV.t rfl) (OpV.t rfl) el32.h (RdT.tree mm) (fun _ => hy28) ?_
              refine D_load0 GC.none (OpV.t rfl) (fun hg => RdT.at (RdT.tree mm) (hy28).2) one9.h rfl ?_
              refine D_callX GC.none fn14.h (OpVs.cons (OpV.t rfl) (OpVs.cons (OpV.t rfl) (OpVs.nil))) (by exact fun hg w F hF hM => w_hasText_walk w y19x0 u28 (RdT.nowS (RdT.tree mm) hF hM) _ hy29) ?_
              refine s5 ?_
              refine D_idxA (X := y25x0) (GC.some rfl rfl) (OpV.s rfl) (OpV.s rfl) el32.h (RdT.tree mm) (fun hg => hy30 hg.2) ?_
              refine D_load0 (GC.some rfl rfl) (OpV.s rfl) (fun hg => RdT.at (RdT.tree mm) (hy30 hg.2).2) one9.h rfl ?_
              refine D_callX (GC.some rfl rfl) fn15.h (OpVs.cons (OpV.s rfl) (OpVs.cons (OpV.s rfl) (OpVs.nil))) (by exact fun hg w F hF hM => i_UpHas_walk w (y18x0_1, y18x0_2) u30 (RdT.nowS (RdT.pair RdT.int (RdT.tree mm)) hF hM) _ (hy31 hg.2)) ?_
              refine s20 ?_
              refine kp [0, 3, 4, 5, 9, 10, 11, 12, 14, 15, 129] ?_
              refine W_cond rfl (fun hc32 => ?_) (fun hc32 => ?_)
              · replace hp := cond_t hc32 hp
                refine s4 ?_
                replace hp := map_any hp; obtain ⟨a33, hp, hx_a33⟩ := hp
                obtain rfl := hx26 _ hx_a33
                obtain rfl := Option.some.inj hp
                refine s1 ?_
                refine res1 rfl (ResOK.tmp rfl) ⟨rfl, rfl⟩ ms
              · replace hp := cond_f hc32 hp
                refine s6 ?_
                exact ⟨IntKind.wrap .i64 (v26_0 + 1), sb, (.sub ms), some_eq hp⟩
            · replace hp := cond_f hc27 hp
              refine W_exit ?_
              replace hp := map_any hp; obtain ⟨a34, hp, hx_a34⟩ := hp
              obtain rfl := hx26 _ hx_a34
              refine s3 ?_
              replace hp := ba hp; obtain ⟨y35, hy35, hp⟩ := hp
              refine L_callR rfl fn23.h rfl (by exact fun w hw => s_DrawRepairAll_walk w a0 (RdT.now (RdT.old h0) hw) _ hy35) ?_
              rintro _ _ ⟨⟨y35x0_1, y35x0_2⟩, y35x1, rfl, rfl, rfl⟩
              refine sc ?_
              replace hp := dd hp
              refine xL ((y35x0_1, y35x0_2) : T_Ups) ?_
              refine s3 ?_
              refine al fun bk16 => ?_
              refine s7 ?_
              replace hp := ba hp; obtain ⟨y36, hy36, hp⟩ := hp
              refine L_callR rfl fn22.h rfl (by exact fun w hw => i_RepairAll_walk w (y35x0_1, y35x0_2) y35x1 (RdT.now (RdT.pair RdT.int (RdT.tree mm)) hw) (RdT.now (RdT.tree mm) hw) _ hy36) ?_
              rintro _ _ ⟨⟨y36x0_1, y36x0_2⟩, y36x1, rfl, rfl, rfl⟩
              refine sc ?_
              replace hp := dd hp
              refine xL ((y36x0_1, y36x0_2) : T_Ups) ?_
              refine s3 ?_
              refine al fun bk18 => ?_
              refine s7 ?_
              replace hp := ba hp; obtain ⟨y37, hy37, hp⟩ := hp
              refine L_callR rfl fn24.h rfl (by exact fun w hw => s_RepairAll_walk w (y35x0_1, y35x0_2) y35x1 (RdT.now (RdT.pair RdT.int (RdT.tree mm)) hw) (RdT.now (RdT.tree mm) hw) _ hy37) ?_
              rintro _ _ ⟨⟨y37x0_1, y37x0_2⟩, y37x1, rfl, rfl, rfl⟩
              refine sc ?_
              replace hp := dd hp
              refine xL ((y37x0_1, y37x0_2) : T_Ups) ?_
              refine s3 ?_
              refine al fun bk20 => ?_
              refine s4 ?_
              replace hp := gb_any hp; obtain ⟨y38, hy38, hp⟩ := hp
              replace hp := gb_any hp; obtain ⟨y39, hy39, hp⟩ := hp
              replace hp := gb_any hp; obtain ⟨y40, hy40, hp⟩ := hp
              refine W_D0 [2] mix (by kernel_rfl) rfl ?_
              refine s5 ?_
              refine D_callGV (fun v M => ∃ (x0 : TL T_Copy), v = (TL.hdr x0) ∧ GT.dat x0 = y38 ∧ M = [treeH x0]) (GC.some rfl rfl) fn19.h (OpVs.cons (OpV.s rfl) (OpVs.cons (OpV.s rfl) (OpVs.cons (OpV.s rfl) (OpVs.nil)))) (by exact fun hg w F hF hM => i_Repairs_walk w y3x0 (y18x0_1, y18x0_2) y3x2 (RdT.nowS (RdT.tree mm) hF hM) (RdT.nowS (RdT.pair RdT.int (RdT.tree mm)) hF hM) (RdT.nowS (RdT.tree mm) hF hM) _ (hy38 hg.2)) ?_
              refine D_lenG (τ := T_Copy) (t := 152) (r := y38) rfl id (by rintro v M ⟨x0, rfl, hd, -⟩; exact ⟨x0, rfl, hd⟩) (GC.some rfl rfl) el49.h ?_
              refine s7 ?_
              refine D_callGV (fun v M => ∃ (x0 : TL ByteArray), v = (TL.hdr x0) ∧ GT.dat x0 = y39 ∧ M = [treeH x0]) (GC.some rfl rfl) fn25.h (OpVs.cons (OpV.s rfl) (OpVs.cons (OpV.s rfl) (OpVs.cons (OpV.s rfl) (OpVs.nil)))) (by exact fun hg w F hF hM => s_Lost_walk w y3x0 (y3x1_1, y3x1_2) y3x2 (RdT.nowS (RdT.tree mm) hF hM) (RdT.nowS (RdT.pair RdT.int (RdT.tree mm)) hF hM) (RdT.nowS (RdT.tree mm) hF hM) _ (hy39 hg.2)) ?_
              refine D_callGR [_, _] (GC.some rfl rfl) fn9.h ⟨⟨_, rfl, fun _ _ h => h⟩, ⟨⟨_, rfl, fun _ _ h => h⟩, trivial⟩⟩ (by rintro hg w F vs hF hM ⟨v0, u0, M0, rfl, g0, hin0, ⟨v1, u1, M1, rfl, g1, hin1, rfl⟩⟩; obtain rfl := g0.2.1 hg; obtain ⟨m1, rfl, hd1, rfl⟩ := g1.1 hg; subst hd1; exact w_sameTexts_walk w y19x0 m1 (RdT.nowS (RdT.tree mm) hF hM) (rd_of_tree (hin1 _ (List.mem_singleton.2 rfl)) hF.sees) _ (hy40 hg.2)) ?_
              refine s20 ?_
              refine s12 ?_
              obtain rfl := Option.some.inj hp
              refine s1 ?_
              refine res1 rfl (ResOK.tmp rfl) ⟨rfl, rfl⟩ ms
end Go.Proofs.SL
namespace Go.Proofs.SL
open Go
variable {Γ : Cx} {l : Envl} {M A : List HP} {K : Kont} {rest : List Oper} {d : Nat} {ty : TypeId} {pos : String} {af : Array Edge}
end Go.Proofs.SL
namespace Go.Proofs.SL
open Go
set_option maxHeartbeats 2000000
instance fn68 : FnF Tryz.prog 68 := ⟨⟨_, Tryz.func68, by kernel_rfl, rfl⟩⟩
instance fn34 : FnF Tryz.prog 34 := ⟨⟨_, Tryz.func34, by kernel_rfl, rfl⟩⟩
instance fn16 : FnF Tryz.prog 16 := ⟨⟨_, Tryz.func16, by kernel_rfl, rfl⟩⟩
instance fn36 : FnF Tryz.prog 36 := ⟨⟨_, Tryz.func36, by kernel_rfl, rfl⟩⟩
instance fn39 : FnF Tryz.prog 39 := ⟨⟨_, Tryz.func39, by kernel_rfl, rfl⟩⟩
instance fn6 : FnF Tryz.prog 6 := ⟨⟨_, Tryz.func6, by kernel_rfl, rfl⟩⟩
instance fn7 : FnF Tryz.prog 7 := ⟨⟨_, Tryz.func7, by kernel_rfl, rfl⟩⟩
instance fn8 : FnF Tryz.prog 8 := ⟨⟨_, Tryz.func8, by kernel_rfl, rfl⟩⟩
instance fn10 : FnF Tryz.prog 10 := ⟨⟨_, Tryz.func10, by kernel_rfl, rfl⟩⟩
instance fn11 : FnF Tryz.prog 11 := ⟨⟨_, Tryz.func11, by kernel_rfl, rfl⟩⟩
end Go.Proofs.SL
