/- The texts of the proof, part 3: the base, walks of functions, plain Lean. -/
import Derived.Test.YtklkmmnaccbodaaGreatT2
import Derived.Test.YtklkmmnaccbodaaGreatRows
namespace Go.Proofs.SL
open Go
set_option maxHeartbeats 2000000
abbrev T_Cmd := Int × Int × Int × ByteArray × ByteArray × ByteArray × Int × (TL ByteArray)
abbrev D_Cmd := Int × Int × Int × ByteArray × ByteArray × ByteArray × Int × (List ByteArray)
instance fn40 : FnF Tryz.prog 40 := ⟨⟨_, Tryz.func40, by kernel_rfl, rfl⟩⟩
instance zero110 : ZerF Tryz.prog 110 [.int .i64 0, .int .i64 0, .int .i64 0, .string ByteArray.empty, .string ByteArray.empty, .string ByteArray.empty, .int .i64 0, .slice none 0 0] := ⟨by kernel_rfl⟩
instance bld110 : BldF Tryz.prog 110 [(0, 1), (1, 1), (2, 1), (3, 1), (4, 1), (5, 1), (6, 1), (7, 1)] [.int .i64 0, .int .i64 0, .int .i64 0, .string ByteArray.empty, .string ByteArray.empty, .string ByteArray.empty, .int .i64 0, .slice none 0 0] := ⟨by kernel_rfl⟩
instance agg110 : AggF Tryz.prog 110 8 := ⟨by kernel_rfl⟩
instance fn29 : FnF Tryz.prog 29 := ⟨⟨_, Tryz.func29, by kernel_rfl, rfl⟩⟩
instance fld110_0 : FldF Tryz.prog 110 0 0 := ⟨by kernel_rfl⟩
instance fn61 : FnF Tryz.prog 61 := ⟨⟨_, Tryz.func61, by kernel_rfl, rfl⟩⟩
instance fld110_3 : FldF Tryz.prog 110 3 3 := ⟨by kernel_rfl⟩
instance fld110_4 : FldF Tryz.prog 110 4 4 := ⟨by kernel_rfl⟩
instance fld110_5 : FldF Tryz.prog 110 5 5 := ⟨by kernel_rfl⟩
instance fld110_6 : FldF Tryz.prog 110 6 6 := ⟨by kernel_rfl⟩
instance fld110_7 : FldF Tryz.prog 110 7 7 := ⟨by kernel_rfl⟩
instance one32 : OneF Tryz.prog 32 := ⟨by kernel_rfl⟩
instance fn76 : FnF Tryz.prog 76 := ⟨⟨_, Tryz.func76, by kernel_rfl, rfl⟩⟩
instance fn79 : FnF Tryz.prog 79 := ⟨⟨_, Tryz.func79, by kernel_rfl, rfl⟩⟩
instance fn64 : FnF Tryz.prog 64 := ⟨⟨_, Tryz.func64, by kernel_rfl, rfl⟩⟩
instance fld110_1 : FldF Tryz.prog 110 1 1 := ⟨by kernel_rfl⟩
instance fld110_2 : FldF Tryz.prog 110 2 2 := ⟨by kernel_rfl⟩
instance fn75 : FnF Tryz.prog 75 := ⟨⟨_, Tryz.func75, by kernel_rfl, rfl⟩⟩
instance el90 : ElF Tryz.prog 90 110 8 104 [.int .i64 0, .int .i64 0, .int .i64 0, .string ByteArray.empty, .string ByteArray.empty, .string ByteArray.empty, .int .i64 0, .slice none 0 0] := ⟨by kernel_rfl⟩
instance fn80 : FnF Tryz.prog 80 := ⟨⟨_, Tryz.func80, by kernel_rfl, rfl⟩⟩
instance fn134 : FnF Tryz.prog 134 := ⟨⟨_, Tryz.func134, by kernel_rfl, rfl⟩⟩
instance fn44 : FnF Tryz.prog 44 := ⟨⟨_, Tryz.func44, by kernel_rfl, rfl⟩⟩
instance fn117 : FnF Tryz.prog 117 := ⟨⟨_, Tryz.func117, by kernel_rfl, rfl⟩⟩
instance fn118 : FnF Tryz.prog 118 := ⟨⟨_, Tryz.func118, by kernel_rfl, rfl⟩⟩
noncomputable def s_l4Word (a0 : ByteArray) : Option Bool :=
  Option.bind (s_l1In (a0.size : Int) 1 8) (fun y1 => cond (!y1) (some false) (whileP (fun s3 : Int => cond (decide (s3 < (a0.size : Int))) (Option.bind (sidx a0 s3) (fun y5 => gb (!(decide (y5 < 97))) (sidx a0 s3) (fun y6 => cond ((decide (y5 < 97)) || (decide (122 < y6))) (Option.map .inr (some false)) (some (.inl (IntKind.wrap .i64 (s3 + 1))))))) (Option.map .inr (some true))) 0))
theorem s_l4Word_walk (w : World) (a0 : ByteArray)  (r : Bool) (hp : s_l4Word a0 = some r) : Spec Tryz.prog 44 [.string a0].toArray w [] (IsV (.bool r)) := by
  refine Spec.intro Tryz.func44 rfl Tryz.ntmps44 rfl ?_
  unfold s_l4Word at hp
  replace hp := dd hp
  refine s9 ?_
  replace hp := ba hp; obtain ⟨y1, hy1, hp⟩ := hp
  refine L_callX rfl fn40.h rfl (by exact fun w hw => s_l1In_walk w (a0.size : Int) 1 8  _ hy1) ?_
  refine s2 ?_
  refine kp [0, 7] ?_
  refine W_cond rfl (fun hc2 => ?_) (fun hc2 => ?_)
  · replace hp := cond_t hc2 hp
    refine s4 ?_
    obtain rfl := Option.some.inj hp
    refine s1 ?_
    refine res1 rfl (ResOK.tmp rfl) ⟨rfl, rfl⟩ ms
  · replace hp := cond_f hc2 hp
    refine s7 ?_
    refine W_while (σ := Int) GT.dat (fun (v3_0 : Int) => [(3, .int .i64 v3_0)]) (fun (v3_0 : Int) => []) [(0, _)] [] 0 hp sb ms ?_
    clear hp
    rintro v3_0 x3 hp hx3
    replace hp := dd hp
    refine kq [0, 3] ?_
    refine s8 ?_
    refine kp [0, 3, 11] ?_
    refine W_cond rfl (fun hc4 => ?_) (fun hc4 => ?_)
    · replace hp := cond_t hc4 hp
      refine s4 ?_
      replace hp := ba hp; obtain ⟨y5, hy5, hp⟩ := hp
      replace hp := gb_any hp; obtain ⟨y6, hy6, hp⟩ := hp
      refine W_D0 [23] mix (by kernel_rfl) rfl ?_
      refine s2 ?_
      refine D_idxS GC.none (OpV.t rfl) (OpV.t rfl) str9.h (fun hg => hy5) ?_
      refine s4 ?_
      refine D_idxS (GC.some rfl rfl) (OpV.s rfl) (OpV.s rfl) str9.h (fun hg => (hy6 (gnot hg.2))) ?_
      refine s14 ?_
      refine kp [0, 3, 23] ?_
      refine W_cond rfl (fun hc7 => ?_) (fun hc7 => ?_)
      · replace hp := cond_t hc7 hp
        refine s4 ?_
        replace hp := map_any hp; obtain ⟨a8, hp, hx_a8⟩ := hp
        obtain rfl := hx3 _ hx_a8
        obtain rfl := Option.some.inj hp
        refine s1 ?_
        refine res1 rfl (ResOK.tmp rfl) ⟨rfl, rfl⟩ ms
      · replace hp := cond_f hc7 hp
        refine s6 ?_
        exact ⟨IntKind.wrap .i64 (v3_0 + 1), sb, (.sub ms), some_eq hp⟩
    · replace hp := cond_f hc4 hp
      refine W_exit ?_
      replace hp := map_any hp; obtain ⟨a9, hp, hx_a9⟩ := hp
      obtain rfl := hx3 _ hx_a9
      refine s4 ?_
      obtain rfl := Option.some.inj hp
      refine s1 ?_
      refine res1 rfl (ResOK.tmp rfl) ⟨rfl, rfl⟩ ms
noncomputable def s_l4Right (a0 : D_l1Cur) : Option (D_Cmd × D_l1Cur) :=
  Option.bind (s_l1Below (a0.1, a0.2.1, a0.2.2) 7) (fun y1 => Option.bind (s_l1Below (y1.2.1, y1.2.2.1, y1.2.2.2) 3) (fun y2 => Option.bind (s_l1Below (y2.2.1, y2.2.2.1, y2.2.2.2) 6) (fun y3 => jbind (Option.bind (s_l1Once (y3.2.1, y3.2.2.1, y3.2.2.2) 4) (fun y5 => cond y5.1 (some (.inl ((y5.2.2.1, y5.2.2.2, 3)))) (some (.inl ((y5.2.2.1, y5.2.2.2, IntKind.wrap .i64 (1 + y1.1))))))) (fun s4 : Int × Int × Int => jbind (cond (!decide (s4.2.2 = 7)) (Option.bind (some ([(ByteArray.mk #[97]), (ByteArray.mk #[98]), (ByteArray.mk #[97, 98])] : List ByteArray)) (fun y9 => Option.bind (s_l1Pick (y3.2.1, s4.1, s4.2.1) y9) (fun y11 => some (.inl ((y11.2.2.1, y11.2.2.2, y11.1)))))) (some (.inl ((s4.1, s4.2.1, ByteArray.empty))))) (fun s7 : Int × Int × ByteArray => jbind (cond ((decide (s4.2.2 = 3)) || (decide (s4.2.2 = 4))) (Option.bind (some ([(ByteArray.mk #[120]), (ByteArray.mk #[121]), (ByteArray.mk #[122])] : List ByteArray)) (fun y14 => Option.bind (s_l1Pick (y3.2.1, s7.1, s7.2.1) y14) (fun y16 => some (.inl ((y16.2.2.1, y16.2.2.2, y16.1)))))) (some (.inl ((s7.1, s7.2.1, ByteArray.empty))))) (fun s12 : Int × Int × ByteArray => jbind (cond (decide (s4.2.2 = 4)) (Option.bind (some ([(ByteArray.mk #[107, 101, 101, 112]), (ByteArray.mk #[116])] : List ByteArray)) (fun y19 => Option.bind (s_l1Pick (y3.2.1, s12.1, s12.2.1) y19) (fun y21 => some (.inl ((y21.2.2.1, y21.2.2.2, y21.1)))))) (some (.inl ((s12.1, s12.2.1, ByteArray.empty))))) (fun s17 : Int × Int × ByteArray => jbind (cond (decide (s4.2.2 = 5)) (Option.bind (s_l1Below (y3.2.1, s17.1, s17.2.1) 4) (fun y24 => some (.inl ((y24.2.2.1, y24.2.2.2, y24.1))))) (some (.inl ((s17.1, s17.2.1, 0))))) (fun s22 : Int × Int × Int => cond (decide (s4.2.2 = 3)) (Option.bind (s_l1Below (y3.2.1, s22.1, s22.2.1) 3) (fun y26 => whileP (fun s27 : Int × Int × Int × (List ByteArray) => cond (decide (0 < s27.1)) (Option.bind (s_l1Below (y26.2.1, s27.2.1, s27.2.2.1) 4) (fun y29 => Option.bind (u8P (IntKind.wrap .u8 y29.1)) (fun y30 => Option.bind (some ([y30] : List UInt8)) (fun y31 => Option.bind (s_Short (strP y31)) (fun y33 => Option.bind (appP s27.2.2.2 [y33]) (fun y35 => some (.inl ((IntKind.wrap .i64 (s27.1 - 1), y29.2.2.1, y29.2.2.2, y35))))))))) (Option.map .inr (some ((s4.2.2, IntKind.wrap .i64 (1 + y2.1), IntKind.wrap .i64 (1 + y3.1), s7.2.2, s12.2.2, s17.2.2, s22.2.2, s27.2.2.2), (y26.2.1, s27.2.1, s27.2.2.1))))) (IntKind.wrap .i64 (1 + y26.1), y26.2.2.1, y26.2.2.2, ([] : List ByteArray)))) (some ((s4.2.2, IntKind.wrap .i64 (1 + y2.1), IntKind.wrap .i64 (1 + y3.1), s7.2.2, s12.2.2, s17.2.2, s22.2.2, ([] : List ByteArray)), (y3.2.1, s22.1, s22.2.1)))))))))))
theorem s_l4Right_walk (w : World) (b0_ : Nat) (a0 : T_l1Cur) (h0_0 : GT.rd w (fps [blk b0_ (GT.cells a0) 87]) a0.1) (r : D_Cmd × D_l1Cur) (hp : s_l4Right (GT.dat a0) = some r) : Spec Tryz.prog 79 [Value.pointer (some ⟨b0_, 0, none⟩)].toArray w [blk b0_ (GT.cells a0) 87] (fun v M => ∃ (x0 : T_Cmd) (y0 : T_l1Cur), v = .agg (GT.cells x0).toArray ∧ (GT.dat x0, GT.dat y0) = r ∧ M = [treeH x0, blk b0_ (GT.cells y0) 87] ∧ y0.1 = a0.1) := by
  obtain ⟨a0_1, a0_2, a0_3⟩ := a0
  change Spec _ _ ([Value.pointer (some ⟨b0_, 0, none⟩)] : List Value).toArray w _ _
  refine Spec.intro Tryz.func79 rfl Tryz.ntmps79 rfl ?_
  unfold s_l4Right at hp
  replace hp := dd hp
  refine s2 ?_
  refine al fun bk2 => ?_
  refine s4 ?_
  replace hp := ba hp; obtain ⟨y1, hy1, hp⟩ := hp
  refine L_callM [blk b0_ _ _] _ rfl fn56.h rfl pc (by exact fun w hw => s_l1Below_walk w b0_ (a0_1, a0_2, a0_3) 7 ((RdX.old h0_0) w hw) _ hy1) ?_
  rintro _ _ ⟨y1x0, ⟨y1y0_1, y1y0_2, y1y0_3⟩, rfl, rfl, rfl, hey1_0⟩
  obtain rfl : a0_1 = y1y0_1 := hey1_0.symm
  refine sc ?_
  replace hp := dd hp
  refine s2 ?_
  replace hp := ba hp; obtain ⟨y2, hy2, hp⟩ := hp
  refine L_callM [blk b0_ _ _] _ rfl fn56.h rfl pc (by exact fun w hw => s_l1Below_walk w b0_ (a0_1, y1y0_2, y1y0_3) 3 ((RdX.old h0_0) w hw) _ hy2) ?_
  rintro _ _ ⟨y2x0, ⟨y2y0_1, y2y0_2, y2y0_3⟩, rfl, rfl, rfl, hey2_0⟩
  obtain rfl : a0_1 = y2y0_1 := hey2_0.symm
  refine sc ?_
  replace hp := dd hp
  refine s2 ?_
  replace hp := ba hp; obtain ⟨y3, hy3, hp⟩ := hp
  refine L_callM [blk b0_ _ _] _ rfl fn56.h rfl pc (by exact fun w hw => s_l1Below_walk w b0_ (a0_1, y2y0_2, y2y0_3) 6 ((RdX.old h0_0) w hw) _ hy3) ?_
  rintro _ _ ⟨y3x0, ⟨y3y0_1, y3y0_2, y3y0_3⟩, rfl, rfl, rfl, hey3_0⟩
  obtain rfl : a0_1 = y3y0_1 := hey3_0.symm
  refine sc ?_
  replace hp := dd hp
  refine s1 ?_
  refine L_build (xs := [(0, .tmp 7), (1, .tmp 10), (2, .tmp 13)]) (cs := [.int .i64 (IntKind.wrap .i64 (1 + y1x0)), .int .i64 (IntKind.wrap .i64 (1 + y2x0)), .int .i64 (IntKind.wrap .i64 (1 + y3x0)), .string ByteArray.empty, .string ByteArray.empty, .string ByteArray.empty, .int .i64 0, (TL.hdr (TL.nil ByteArray 0))]) rfl rfl bld110.h rfl ?_
  refine al fun bk3 => ?_
  refine s2 ?_
  refine W_jn (σ := Int × Int × Int) GT.dat (fun ((v4_0, v4_1, v4_2) : Int × Int × Int) => []) (fun ((v4_0, v4_1, v4_2) : Int × Int × Int) => [blk b0_ [(TL.hdr a0_1), .int .i64 v4_0, .int .i64 v4_1] 87, blk bk3 [.int .i64 v4_2, .int .i64 (IntKind.wrap .i64 (1 + y2x0)), .int .i64 (IntKind.wrap .i64 (1 + y3x0)), .string ByteArray.empty, .string ByteArray.empty, .string ByteArray.empty, .int .i64 0, (TL.hdr (TL.nil ByteArray 0))] 110]) [(0, .pointer (some ⟨b0_, 0, none⟩)), (2, .pointer (some ⟨bk2, 0, none⟩)), (3, .pointer (some ⟨bk3, 0, none⟩))] [blk bk2 [.int .i64 0, .int .i64 0, .int .i64 0, .string ByteArray.empty, .string ByteArray.empty, .string ByteArray.empty, .int .i64 0, (TL.hdr (TL.nil ByteArray 0))] 110] hp ?_ ?_
  · clear hp
    intro x4 hp hx4
    refine s3 ?_
    replace hp := ba hp; obtain ⟨y5, hy5, hp⟩ := hp
    refine L_callM [blk b0_ _ _] _ rfl fn29.h rfl pc (by exact fun w hw => s_l1Once_walk w b0_ (a0_1, y3y0_2, y3y0_3) 4 ((RdX.old h0_0) w hw) _ hy5) ?_
    rintro _ _ ⟨y5x0, ⟨y5y0_1, y5y0_2, y5y0_3⟩, rfl, rfl, rfl, hey5_0⟩
    obtain rfl : a0_1 = y5y0_1 := hey5_0.symm
    refine sc ?_
    replace hp := dd hp
    refine s1 ?_
    refine kp [0, 2, 3, 16] ?_
    refine W_cond rfl (fun hc6 => ?_) (fun hc6 => ?_)
    · replace hp := cond_t hc6 hp
      refine s4 ?_
      exact ⟨(y5y0_2, y5y0_3, 3), sb, (.sub ms), some_eq hp⟩
    · replace hp := cond_f hc6 hp
      refine s1 ?_
      exact ⟨(y5y0_2, y5y0_3, IntKind.wrap .i64 (1 + y1x0)), sb, (.sub ms), some_eq hp⟩
  · clear hp
    rintro ⟨v4_0, v4_1, v4_2⟩ hp
    replace hp := dd hp
    refine kq [0, 2, 3] ?_
    refine W_jn (σ := Int × Int × ByteArray) GT.dat (fun ((v7_0, v7_1, v7_2) : Int × Int × ByteArray) => []) (fun ((v7_0, v7_1, v7_2) : Int × Int × ByteArray) => [blk b0_ [(TL.hdr a0_1), .int .i64 v7_0, .int .i64 v7_1] 87, blk bk3 [.int .i64 v4_2, .int .i64 (IntKind.wrap .i64 (1 + y2x0)), .int .i64 (IntKind.wrap .i64 (1 + y3x0)), .string v7_2, .string ByteArray.empty, .string ByteArray.empty, .int .i64 0, (TL.hdr (TL.nil ByteArray 0))] 110]) [(0, .pointer (some ⟨b0_, 0, none⟩)), (2, .pointer (some ⟨bk2, 0, none⟩)), (3, .pointer (some ⟨bk3, 0, none⟩))] [blk bk2 [.int .i64 0, .int .i64 0, .int .i64 0, .string ByteArray.empty, .string ByteArray.empty, .string ByteArray.empty, .int .i64 0, (TL.hdr (TL.nil ByteArray 0))] 110] hp ?_ ?_
    · clear hp
      intro x7 hp hx7
      refine s6 ?_
      refine kp [0, 2, 3, 20] ?_
      refine W_cond rfl (fun hc8 => ?_) (fun hc8 => ?_)
      · replace hp := cond_t hc8 hp
        refine s2 ?_
        replace hp := ba hp; obtain ⟨y9, hy9, hp⟩ := hp
        refine L_bsN ([(ByteArray.mk #[97]), (ByteArray.mk #[98]), (ByteArray.mk #[97, 98])] : List ByteArray) (xs := [(0, .const (.string (ByteArray.mk #[97]))), (1, .const (.string (ByteArray.mk #[98]))), (2, .const (.string (ByteArray.mk #[97, 98])))]) rfl rfl el32.h rfl rfl rfl rfl rfl rfl rfl hy9 (fun X10 hdX10 => ?_)
        subst hdX10
        replace hp := ba hp; obtain ⟨y11, hy11, hp⟩ := hp
        refine L_callM [blk b0_ _ _] _ rfl fn61.h rfl pc (by exact fun w hw => s_l1Pick_walk w b0_ (a0_1, v4_0, v4_1) X10 ((RdX.tree mm) w hw) ((RdX.old h0_0) w hw) _ hy11) ?_
        rintro _ _ ⟨y11x0, ⟨y11y0_1, y11y0_2, y11y0_3⟩, rfl, rfl, rfl, hey11_0⟩
        obtain rfl : a0_1 = y11y0_1 := hey11_0.symm
        refine sc ?_
        replace hp := dd hp
        refine s3 ?_
        exact ⟨(y11y0_2, y11y0_3, y11x0), sb, (.sub ms), some_eq hp⟩
      · replace hp := cond_f hc8 hp
        refine s1 ?_
        exact ⟨(v4_0, v4_1, ByteArray.empty), sb, (.sub ms), some_eq hp⟩
    · clear hp
      rintro ⟨v7_0, v7_1, v7_2⟩ hp
      replace hp := dd hp
      refine kq [0, 2, 3] ?_
      refine W_jn (σ := Int × Int × ByteArray) GT.dat (fun ((v12_0, v12_1, v12_2) : Int × Int × ByteArray) => []) (fun ((v12_0, v12_1, v12_2) : Int × Int × ByteArray) => [blk b0_ [(TL.hdr a0_1), .int .i64 v12_0, .int .i64 v12_1] 87, blk bk3 [.int .i64 v4_2, .int .i64 (IntKind.wrap .i64 (1 + y2x0)), .int .i64 (IntKind.wrap .i64 (1 + y3x0)), .string v7_2, .string v12_2, .string ByteArray.empty, .int .i64 0, (TL.hdr (TL.nil ByteArray 0))] 110]) [(0, .pointer (some ⟨b0_, 0, none⟩)), (2, .pointer (some ⟨bk2, 0, none⟩)), (3, .pointer (some ⟨bk3, 0, none⟩))] [blk bk2 [.int .i64 0, .int .i64 0, .int .i64 0, .string ByteArray.empty, .string ByteArray.empty, .string ByteArray.empty, .int .i64 0, (TL.hdr (TL.nil ByteArray 0))] 110] hp ?_ ?_
      · clear hp
        intro x12 hp hx12
        refine s1 ?_
        refine W_D0 [32] mix (by kernel_rfl) rfl ?_
        refine s18 ?_
        refine kp [0, 2, 3, 32] ?_
        refine W_cond rfl (fun hc13 => ?_) (fun hc13 => ?_)
        · replace hp := cond_t hc13 hp
          refine s2 ?_
          replace hp := ba hp; obtain ⟨y14, hy14, hp⟩ := hp
          refine L_bsN ([(ByteArray.mk #[120]), (ByteArray.mk #[121]), (ByteArray.mk #[122])] : List ByteArray) (xs := [(0, .const (.string (ByteArray.mk #[120]))), (1, .const (.string (ByteArray.mk #[121]))), (2, .const (.string (ByteArray.mk #[122])))]) rfl rfl el32.h rfl rfl rfl rfl rfl rfl rfl hy14 (fun X15 hdX15 => ?_)
          subst hdX15
          replace hp := ba hp; obtain ⟨y16, hy16, hp⟩ := hp
          refine L_callM [blk b0_ _ _] _ rfl fn61.h rfl pc (by exact fun w hw => s_l1Pick_walk w b0_ (a0_1, v7_0, v7_1) X15 ((RdX.tree mm) w hw) ((RdX.old h0_0) w hw) _ hy16) ?_
          rintro _ _ ⟨y16x0, ⟨y16y0_1, y16y0_2, y16y0_3⟩, rfl, rfl, rfl, hey16_0⟩
          obtain rfl : a0_1 = y16y0_1 := hey16_0.symm
          refine sc ?_
          replace hp := dd hp
          refine s3 ?_
          exact ⟨(y16y0_2, y16y0_3, y16x0), sb, (.sub ms), some_eq hp⟩
        · replace hp := cond_f hc13 hp
          refine s1 ?_
          exact ⟨(v7_0, v7_1, ByteArray.empty), sb, (.sub ms), some_eq hp⟩
      · clear hp
        rintro ⟨v12_0, v12_1, v12_2⟩ hp
        replace hp := dd hp
        refine kq [0, 2, 3] ?_
        refine W_jn (σ := Int × Int × ByteArray) GT.dat (fun ((v17_0, v17_1, v17_2) : Int × Int × ByteArray) => []) (fun ((v17_0, v17_1, v17_2) : Int × Int × ByteArray) => [blk b0_ [(TL.hdr a0_1), .int .i64 v17_0, .int .i64 v17_1] 87, blk bk3 [.int .i64 v4_2, .int .i64 (IntKind.wrap .i64 (1 + y2x0)), .int .i64 (IntKind.wrap .i64 (1 + y3x0)), .string v7_2, .string v12_2, .string v17_2, .int .i64 0, (TL.hdr (TL.nil ByteArray 0))] 110]) [(0, .pointer (some ⟨b0_, 0, none⟩)), (2, .pointer (some ⟨bk2, 0, none⟩)), (3, .pointer (some ⟨bk3, 0, none⟩))] [blk bk2 [.int .i64 0, .int .i64 0, .int .i64 0, .string ByteArray.empty, .string ByteArray.empty, .string ByteArray.empty, .int .i64 0, (TL.hdr (TL.nil ByteArray 0))] 110] hp ?_ ?_
        · clear hp
          intro x17 hp hx17
          refine s6 ?_
          refine kp [0, 2, 3, 39] ?_
          refine W_cond rfl (fun hc18 => ?_) (fun hc18 => ?_)
          · replace hp := cond_t hc18 hp
            refine s2 ?_
            replace hp := ba hp; obtain ⟨y19, hy19, hp⟩ := hp
            refine L_bsN ([(ByteArray.mk #[107, 101, 101, 112]), (ByteArray.mk #[116])] : List ByteArray) (xs := [(0, .const (.string (ByteArray.mk #[107, 101, 101, 112]))), (1, .const (.string (ByteArray.mk #[116])))]) rfl rfl el32.h rfl rfl rfl rfl rfl rfl rfl hy19 (fun X20 hdX20 => ?_)
            subst hdX20
            replace hp := ba hp; obtain ⟨y21, hy21, hp⟩ := hp
            refine L_callM [blk b0_ _ _] _ rfl fn61.h rfl pc (by exact fun w hw => s_l1Pick_walk w b0_ (a0_1, v12_0, v12_1) X20 ((RdX.tree mm) w hw) ((RdX.old h0_0) w hw) _ hy21) ?_
            rintro _ _ ⟨y21x0, ⟨y21y0_1, y21y0_2, y21y0_3⟩, rfl, rfl, rfl, hey21_0⟩
            obtain rfl : a0_1 = y21y0_1 := hey21_0.symm
            refine sc ?_
            replace hp := dd hp
            refine s3 ?_
            exact ⟨(y21y0_2, y21y0_3, y21x0), sb, (.sub ms), some_eq hp⟩
          · replace hp := cond_f hc18 hp
            refine s1 ?_
            exact ⟨(v12_0, v12_1, ByteArray.empty), sb, (.sub ms), some_eq hp⟩
        · clear hp
          rintro ⟨v17_0, v17_1, v17_2⟩ hp
          replace hp := dd hp
          refine kq [0, 2, 3] ?_
          refine W_jn (σ := Int × Int × Int) GT.dat (fun ((v22_0, v22_1, v22_2) : Int × Int × Int) => []) (fun ((v22_0, v22_1, v22_2) : Int × Int × Int) => [blk b0_ [(TL.hdr a0_1), .int .i64 v22_0, .int .i64 v22_1] 87, blk bk3 [.int .i64 v4_2, .int .i64 (IntKind.wrap .i64 (1 + y2x0)), .int .i64 (IntKind.wrap .i64 (1 + y3x0)), .string v7_2, .string v12_2, .string v17_2, .int .i64 v22_2, (TL.hdr (TL.nil ByteArray 0))] 110]) [(0, .pointer (some ⟨b0_, 0, none⟩)), (2, .pointer (some ⟨bk2, 0, none⟩)), (3, .pointer (some ⟨bk3, 0, none⟩))] [blk bk2 [.int .i64 0, .int .i64 0, .int .i64 0, .string ByteArray.empty, .string ByteArray.empty, .string ByteArray.empty, .int .i64 0, (TL.hdr (TL.nil ByteArray 0))] 110] hp ?_ ?_
          · clear hp
            intro x22 hp hx22
            refine s6 ?_
            refine kp [0, 2, 3, 46] ?_
            refine W_cond rfl (fun hc23 => ?_) (fun hc23 => ?_)
            · replace hp := cond_t hc23 hp
              refine s2 ?_
              replace hp := ba hp; obtain ⟨y24, hy24, hp⟩ := hp
              refine L_callM [blk b0_ _ _] _ rfl fn56.h rfl pc (by exact fun w hw => s_l1Below_walk w b0_ (a0_1, v17_0, v17_1) 4 ((RdX.old h0_0) w hw) _ hy24) ?_
              rintro _ _ ⟨y24x0, ⟨y24y0_1, y24y0_2, y24y0_3⟩, rfl, rfl, rfl, hey24_0⟩
              obtain rfl : a0_1 = y24y0_1 := hey24_0.symm
              refine sc ?_
              replace hp := dd hp
              refine s3 ?_
              exact ⟨(y24y0_2, y24y0_3, y24x0), sb, (.sub ms), some_eq hp⟩
            · replace hp := cond_f hc23 hp
              refine s1 ?_
              exact ⟨(v17_0, v17_1, 0), sb, (.sub ms), some_eq hp⟩
          · clear hp
            rintro ⟨v22_0, v22_1, v22_2⟩ hp
            replace hp := dd hp
            refine kq [0, 2, 3] ?_
            refine s7 ?_
            refine kp [0, 2, 3, 52] ?_
            refine W_cond rfl (fun hc25 => ?_) (fun hc25 => ?_)
            · replace hp := cond_t hc25 hp
              refine s3 ?_
              replace hp := ba hp; obtain ⟨y26, hy26, hp⟩ := hp
              refine L_callM [blk b0_ _ _] _ rfl fn56.h rfl pc (by exact fun w hw => s_l1Below_walk w b0_ (a0_1, v22_0, v22_1) 3 ((RdX.old h0_0) w hw) _ hy26) ?_
              rintro _ _ ⟨y26x0, ⟨y26y0_1, y26y0_2, y26y0_3⟩, rfl, rfl, rfl, hey26_0⟩
              obtain rfl : a0_1 = y26y0_1 := hey26_0.symm
              refine sc ?_
              replace hp := dd hp
              refine s4 ?_
              refine W_conv (M' := treeH (TL.nil ByteArray 0) :: _) (fun w h => addNilT (τ := ByteArray) 0 h) ?_
              refine W_while (σ := Int × Int × Int × (TL ByteArray)) GT.dat (fun ((v27_0, v27_1, v27_2, v27_3) : Int × Int × Int × (TL ByteArray)) => [(4, .int .i64 v27_0)]) (fun ((v27_0, v27_1, v27_2, v27_3) : Int × Int × Int × (TL ByteArray)) => [blk b0_ [(TL.hdr a0_1), .int .i64 v27_1, .int .i64 v27_2] 87, blk bk3 [.int .i64 v4_2, .int .i64 (IntKind.wrap .i64 (1 + y2x0)), .int .i64 (IntKind.wrap .i64 (1 + y3x0)), .string v7_2, .string v12_2, .string v17_2, .int .i64 v22_2, (TL.hdr v27_3)] 110, treeH v27_3]) [(0, _), (2, _), (3, _)] [blk bk2 _ _] (IntKind.wrap .i64 (1 + y26x0), y26y0_2, y26y0_3, (TL.nil ByteArray 0)) hp sb ms ?_
              clear hp
              rintro ⟨v27_0, v27_1, v27_2, v27_3⟩ x27 hp hx27
              replace hp := dd hp
              refine kq [0, 2, 3, 4] ?_
              refine s6 ?_
              refine kp [0, 2, 3, 4, 57] ?_
              refine W_cond rfl (fun hc28 => ?_) (fun hc28 => ?_)
              · replace hp := cond_t hc28 hp
                refine s3 ?_
                replace hp := ba hp; obtain ⟨y29, hy29, hp⟩ := hp
                replace hp := ba hp; obtain ⟨y30, hy30, hp⟩ := hp
                have ey30 := u8P_some hy30
                try simp only [dat_u8] at ey30
                try simp only [ey30]
                replace hp := ba hp; obtain ⟨y31, hy31, hp⟩ := hp
                replace hp := ba hp; obtain ⟨y33, hy33, hp⟩ := hp
                refine W_DS (pre := [_, _, _, _, _, _, _, _, _]) (suf := [_, _, _]) [61, 63, 68] [blk b0_ _ 87] _ pc mix (by kernel_rfl) (by kernel_rfl) rfl ?_
                refine s3 ?_
                refine D_callM (fun v M => ∃ (x0 : Int) (y0 : T_l1Cur), v = .int .i64 x0 ∧ (GT.dat x0, GT.dat y0) = y29 ∧ M = [blk b0_ (GT.cells y0) 87] ∧ y0.1 = a0_1) [blk b0_ _ 87] pc fn56.h (OpVs.cons (OpV.t rfl) (OpVs.cons OpV.c (OpVs.nil))) (by exact fun w F hw hM => s_l1Below_walk w b0_ (a0_1, v27_1, v27_2) 4 ((RdX.old h0_0) w hw) _ hy29) ?_
                refine D_convInt GC.none (show OpV _ _ _ (.int .i64 y29.1) from ⟨_, rfl, fun u M h hc => by obtain ⟨x0, z0, hv, hd, _⟩ := h; subst hd; exact hv⟩) und5.h (by rw [und3.h]; rfl) ?_
                refine D_bsN ([y30] : List UInt8) (xs := [(0, .tmp 64)]) (ps := [(0, .int .u8 (y30.toNat : Int))]) (OpVp.cons (by rw [← ey30]; exact (OpV.t rfl)) (OpVp.nil)) el22.h rfl rfl rfl rfl rfl rfl rfl hy31 ?_
                refine D_toStrO (r := y31) (t := 65) rfl und22.h und5.h und9.h (by kernel_rfl) ?_
                refine D_callX GC.none fn76.h (OpVs.cons (OpV.t rfl) (OpVs.nil)) (by exact fun hg w F hF hM => s_Short_walk w (strP y31)  _ hy33) ?_
                refine D_bs1 (OpV.t rfl) el32.h rfl (by decide) (by decide) rfl ?_
                refine s1 ?_
                refine Give_R rfl rfl ?_
                rintro _ _ ⟨bb68, rfl, rfl⟩
                simp only [List.cons_append, List.nil_append]
                refine s4 ?_
                refine Give_R rfl rfl ?_
                rintro _ _ ⟨y29x0, ⟨y29y0_1, y29y0_2, y29y0_3⟩, rfl, rfl, rfl, hey29_0⟩
                obtain rfl : a0_1 = y29y0_1 := hey29_0.symm
                refine s4 ?_
                refine sc ?_
                replace hp := dd hp
                replace hp := ba hp; obtain ⟨y35, hy35, hp⟩ := hp
                refine L_app1F (X := v27_3) (y33 : ByteArray) rfl rfl rfl el32.h rfl rfl pk mm  hy35 (by decide) (fun X34 hdX34 => ?_)
                subst hdX34
                refine s8 ?_
                exact ⟨(IntKind.wrap .i64 (v27_0 - 1), y29y0_2, y29y0_3, X34), sb, (.sub ms), some_eq hp⟩
              · replace hp := cond_f hc28 hp
                refine W_exit ?_
                replace hp := map_any hp; obtain ⟨a36, hp, hx_a36⟩ := hp
                obtain rfl := hx27 _ hx_a36
                refine s5 ?_
                obtain rfl := Option.some.inj hp
                refine jW ((v4_2, IntKind.wrap .i64 (1 + y2x0), IntKind.wrap .i64 (1 + y3x0), v7_2, v12_2, v17_2, v22_2, v27_3) : T_Cmd) ?_
                refine s1 ?_
                refine res1 rfl (ResOK.cell rfl mm (by exact agg110.h)) ⟨(v4_2, IntKind.wrap .i64 (1 + y2x0), IntKind.wrap .i64 (1 + y3x0), v7_2, v12_2, v17_2, v22_2, v27_3), (a0_1, v27_1, v27_2), rfl, rfl, rfl, rfl⟩ ms
            · replace hp := cond_f hc25 hp
              refine s6 ?_
              obtain rfl := Option.some.inj hp
              refine W_conv (M' := treeH (TL.nil ByteArray 0) :: _) (fun w h => addNilT (τ := ByteArray) 0 h) ?_
              refine jW ((v4_2, IntKind.wrap .i64 (1 + y2x0), IntKind.wrap .i64 (1 + y3x0), v7_2, v12_2, v17_2, v22_2, (TL.nil ByteArray 0)) : T_Cmd) ?_
              refine s1 ?_
              refine res1 rfl (ResOK.cell rfl mm (by exact agg110.h)) ⟨(v4_2, IntKind.wrap .i64 (1 + y2x0), IntKind.wrap .i64 (1 + y3x0), v7_2, v12_2, v17_2, v22_2, (TL.nil ByteArray 0)), (a0_1, v22_0, v22_1), rfl, rfl, rfl, rfl⟩ ms
noncomputable def s_l4Cmd (a0 : D_l1Cur) : Option (D_Cmd × D_l1Cur) :=
  Option.bind (s_l1Once (a0.1, a0.2.1, a0.2.2) 12) (fun y1 => cond y1.1 (some ((0, 0, 0, ByteArray.empty, ByteArray.empty, ByteArray.empty, 0, ([] : List ByteArray)), (y1.2.1, y1.2.2.1, y1.2.2.2))) (Option.bind (s_l4Right (y1.2.1, y1.2.2.1, y1.2.2.2)) (fun y3 => Option.bind (s_l1Once (y3.2.1, y3.2.2.1, y3.2.2.2) 8) (fun y4 => cond y4.1 (Option.bind (s_l1Below (y4.2.1, y4.2.2.1, y4.2.2.2) 6) (fun y6 => cond (decide (y6.1 = 0)) (Option.bind (some ([(-1), 0, 8, 3] : List Int)) (fun y8 => Option.bind (s_l1PickInt (y6.2.1, y6.2.2.1, y6.2.2.2) y8) (fun y10 => some ((y10.1, y3.1.2.1, y3.1.2.2.1, y3.1.2.2.2.1, y3.1.2.2.2.2.1, y3.1.2.2.2.2.2.1, y3.1.2.2.2.2.2.2.1, y3.1.2.2.2.2.2.2.2), (y10.2.1, y10.2.2.1, y10.2.2.2))))) (cond (decide (y6.1 = 1)) (Option.bind (some ([0, 9, 10] : List Int)) (fun y12 => Option.bind (s_l1PickInt (y6.2.1, y6.2.2.1, y6.2.2.2) y12) (fun y14 => some ((y3.1.1, y14.1, y3.1.2.2.1, y3.1.2.2.2.1, y3.1.2.2.2.2.1, y3.1.2.2.2.2.2.1, y3.1.2.2.2.2.2.2.1, y3.1.2.2.2.2.2.2.2), (y14.2.1, y14.2.2.1, y14.2.2.2))))) (cond (decide (y6.1 = 2)) (Option.bind (some ([0, 1000, 1001] : List Int)) (fun y16 => Option.bind (s_l1PickInt (y6.2.1, y6.2.2.1, y6.2.2.2) y16) (fun y18 => some ((y3.1.1, y3.1.2.1, y18.1, y3.1.2.2.2.1, y3.1.2.2.2.2.1, y3.1.2.2.2.2.2.1, y3.1.2.2.2.2.2.2.1, y3.1.2.2.2.2.2.2.2), (y18.2.1, y18.2.2.1, y18.2.2.2))))) (cond (decide (y6.1 = 3)) (Option.bind (some ([ByteArray.empty, (ByteArray.mk #[65]), (ByteArray.mk #[97, 98, 99, 100, 101, 102, 103, 104]), (ByteArray.mk #[97, 98, 99, 100, 101, 102, 103, 104, 105])] : List ByteArray)) (fun y20 => Option.bind (s_l1Pick (y6.2.1, y6.2.2.1, y6.2.2.2) y20) (fun y22 => some ((y3.1.1, y3.1.2.1, y3.1.2.2.1, y22.1, y3.1.2.2.2.2.1, y3.1.2.2.2.2.2.1, y3.1.2.2.2.2.2.2.1, y3.1.2.2.2.2.2.2.2), (y22.2.1, y22.2.2.1, y22.2.2.2))))) (cond (decide (y6.1 = 4)) (Option.bind (some ([(-1), 9, 10] : List Int)) (fun y24 => Option.bind (s_l1PickInt (y6.2.1, y6.2.2.1, y6.2.2.2) y24) (fun y26 => some ((y3.1.1, y3.1.2.1, y3.1.2.2.1, y3.1.2.2.2.1, y3.1.2.2.2.2.1, y3.1.2.2.2.2.2.1, y26.1, y3.1.2.2.2.2.2.2.2), (y26.2.1, y26.2.2.1, y26.2.2.2))))) (Option.bind (s_l1Text (y6.2.1, y6.2.2.1, y6.2.2.2) 9) (fun y27 => Option.bind (appP y3.1.2.2.2.2.2.2.2 [y27.1]) (fun y29 => some ((y3.1.1, y3.1.2.1, y3.1.2.2.1, y3.1.2.2.2.1, y3.1.2.2.2.2.1, y3.1.2.2.2.2.2.1, y3.1.2.2.2.2.2.2.1, y29), (y27.2.1, y27.2.2.1, y27.2.2.2))))))))))) (some ((y3.1.1, y3.1.2.1, y3.1.2.2.1, y3.1.2.2.2.1, y3.1.2.2.2.2.1, y3.1.2.2.2.2.2.1, y3.1.2.2.2.2.2.2.1, y3.1.2.2.2.2.2.2.2), (y4.2.1, y4.2.2.1, y4.2.2.2)))))))
theorem s_l4Cmd_walk (w : World) (b0_ : Nat) (a0 : T_l1Cur) (h0_0 : GT.rd w (fps [blk b0_ (GT.cells a0) 87]) a0.1) (r : D_Cmd × D_l1Cur) (hp : s_l4Cmd (GT.dat a0) = some r) : Spec Tryz.prog 80 [Value.pointer (some ⟨b0_, 0, none⟩)].toArray w [blk b0_ (GT.cells a0) 87] (fun v M => ∃ (x0 : T_Cmd) (y0 : T_l1Cur), v = .agg (GT.cells x0).toArray ∧ (GT.dat x0, GT.dat y0) = r ∧ M = [treeH x0, blk b0_ (GT.cells y0) 87] ∧ y0.1 = a0.1) := by
  obtain ⟨a0_1, a0_2, a0_3⟩ := a0
  change Spec _ _ ([Value.pointer (some ⟨b0_, 0, none⟩)] : List Value).toArray w _ _
  refine Spec.intro Tryz.func80 rfl Tryz.ntmps80 rfl ?_
  unfold s_l4Cmd at hp
  replace hp := dd hp
  refine s2 ?_
  refine al fun bk2 => ?_
  refine s5 ?_
  replace hp := ba hp; obtain ⟨y1, hy1, hp⟩ := hp
  refine L_callM [blk b0_ _ _] _ rfl fn29.h rfl pc (by exact fun w hw => s_l1Once_walk w b0_ (a0_1, a0_2, a0_3) 12 ((RdX.old h0_0) w hw) _ hy1) ?_
  rintro _ _ ⟨y1x0, ⟨y1y0_1, y1y0_2, y1y0_3⟩, rfl, rfl, rfl, hey1_0⟩
  obtain rfl : a0_1 = y1y0_1 := hey1_0.symm
  refine sc ?_
  replace hp := dd hp
  refine s1 ?_
  refine kp [0, 2, 5] ?_
  refine W_cond rfl (fun hc2 => ?_) (fun hc2 => ?_)
  · replace hp := cond_t hc2 hp
    refine s2 ?_
    refine L_build (xs := []) (cs := [.int .i64 0, .int .i64 0, .int .i64 0, .string ByteArray.empty, .string ByteArray.empty, .string ByteArray.empty, .int .i64 0, (TL.hdr (TL.nil ByteArray 0))]) rfl rfl bld110.h rfl ?_
    refine s2 ?_
    obtain rfl := Option.some.inj hp
    refine W_conv (M' := treeH (TL.nil ByteArray 0) :: _) (fun w h => addNilT (τ := ByteArray) 0 h) ?_
    refine jW ((0, 0, 0, ByteArray.empty, ByteArray.empty, ByteArray.empty, 0, (TL.nil ByteArray 0)) : T_Cmd) ?_
    refine s1 ?_
    refine res1 rfl (ResOK.cell rfl mm (by exact agg110.h)) ⟨(0, 0, 0, ByteArray.empty, ByteArray.empty, ByteArray.empty, 0, (TL.nil ByteArray 0)), (a0_1, y1y0_2, y1y0_3), rfl, rfl, rfl, rfl⟩ ms
  · replace hp := cond_f hc2 hp
    refine s4 ?_
    replace hp := ba hp; obtain ⟨y3, hy3, hp⟩ := hp
    refine L_callM [blk b0_ _ _] _ rfl fn79.h rfl pc (by exact fun w hw => s_l4Right_walk w b0_ (a0_1, y1y0_2, y1y0_3) ((RdX.old h0_0) w hw) _ hy3) ?_
    rintro _ _ ⟨⟨y3x0_1, y3x0_2, y3x0_3, y3x0_4, y3x0_5, y3x0_6, y3x0_7, y3x0_8⟩, ⟨y3y0_1, y3y0_2, y3y0_3⟩, rfl, rfl, rfl, hey3_0⟩
    obtain rfl : a0_1 = y3y0_1 := hey3_0.symm
    refine sc ?_
    replace hp := dd hp
    refine xL ((y3x0_1, y3x0_2, y3x0_3, y3x0_4, y3x0_5, y3x0_6, y3x0_7, y3x0_8) : T_Cmd) ?_
    refine al fun bk3 => ?_
    refine s6 ?_
    replace hp := ba hp; obtain ⟨y4, hy4, hp⟩ := hp
    refine L_callM [blk b0_ _ _] _ rfl fn29.h rfl pc (by exact fun w hw => s_l1Once_walk w b0_ (a0_1, y3y0_2, y3y0_3) 8 ((RdX.old h0_0) w hw) _ hy4) ?_
    rintro _ _ ⟨y4x0, ⟨y4y0_1, y4y0_2, y4y0_3⟩, rfl, rfl, rfl, hey4_0⟩
    obtain rfl : a0_1 = y4y0_1 := hey4_0.symm
    refine sc ?_
    replace hp := dd hp
    refine s1 ?_
    refine kp [0, 2, 3, 10] ?_
    refine W_cond rfl (fun hc5 => ?_) (fun hc5 => ?_)
    · replace hp := cond_t hc5 hp
      refine s3 ?_
      replace hp := ba hp; obtain ⟨y6, hy6, hp⟩ := hp
      refine L_callM [blk b0_ _ _] _ rfl fn56.h rfl pc (by exact fun w hw => s_l1Below_walk w b0_ (a0_1, y4y0_2, y4y0_3) 6 ((RdX.old h0_0) w hw) _ hy6) ?_
      rintro _ _ ⟨y6x0, ⟨y6y0_1, y6y0_2, y6y0_3⟩, rfl, rfl, rfl, hey6_0⟩
      obtain rfl : a0_1 = y6y0_1 := hey6_0.symm
      refine sc ?_
      replace hp := dd hp
      refine s7 ?_
      refine kp [0, 2, 3, 12, 20] ?_
      refine W_cond rfl (fun hc7 => ?_) (fun hc7 => ?_)
      · replace hp := cond_t hc7 hp
        refine s2 ?_
        replace hp := ba hp; obtain ⟨y8, hy8, hp⟩ := hp
        refine L_bsN ([(-1), 0, 8, 3] : List Int) (xs := [(0, .const (.int .i64 (-1))), (1, .const (.int .i64 0)), (2, .const (.int .i64 8)), (3, .const (.int .i64 3))]) rfl rfl el41.h rfl rfl rfl rfl rfl rfl rfl hy8 (fun X9 hdX9 => ?_)
        subst hdX9
        replace hp := ba hp; obtain ⟨y10, hy10, hp⟩ := hp
        refine L_callM [blk b0_ _ _] _ rfl fn64.h rfl pc (by exact fun w hw => s_l1PickInt_walk w b0_ (a0_1, y6y0_2, y6y0_3) X9 ((RdX.tree mm) w hw) ((RdX.old h0_0) w hw) _ hy10) ?_
        rintro _ _ ⟨y10x0, ⟨y10y0_1, y10y0_2, y10y0_3⟩, rfl, rfl, rfl, hey10_0⟩
        obtain rfl : a0_1 = y10y0_1 := hey10_0.symm
        refine sc ?_
        replace hp := dd hp
        refine s8 ?_
        obtain rfl := Option.some.inj hp
        refine jW ((y10x0, y3x0_2, y3x0_3, y3x0_4, y3x0_5, y3x0_6, y3x0_7, y3x0_8) : T_Cmd) ?_
        refine s1 ?_
        refine res1 rfl (ResOK.cell rfl mm (by exact agg110.h)) ⟨(y10x0, y3x0_2, y3x0_3, y3x0_4, y3x0_5, y3x0_6, y3x0_7, y3x0_8), (a0_1, y10y0_2, y10y0_3), rfl, rfl, rfl, rfl⟩ ms
      · replace hp := cond_f hc7 hp
        refine s5 ?_
        refine kp [0, 2, 3, 12, 26] ?_
        refine W_cond rfl (fun hc11 => ?_) (fun hc11 => ?_)
        · replace hp := cond_t hc11 hp
          refine s2 ?_
          replace hp := ba hp; obtain ⟨y12, hy12, hp⟩ := hp
          refine L_bsN ([0, 9, 10] : List Int) (xs := [(0, .const (.int .i64 0)), (1, .const (.int .i64 9)), (2, .const (.int .i64 10))]) rfl rfl el41.h rfl rfl rfl rfl rfl rfl rfl hy12 (fun X13 hdX13 => ?_)
          subst hdX13
          replace hp := ba hp; obtain ⟨y14, hy14, hp⟩ := hp
          refine L_callM [blk b0_ _ _] _ rfl fn64.h rfl pc (by exact fun w hw => s_l1PickInt_walk w b0_ (a0_1, y6y0_2, y6y0_3) X13 ((RdX.tree mm) w hw) ((RdX.old h0_0) w hw) _ hy14) ?_
          rintro _ _ ⟨y14x0, ⟨y14y0_1, y14y0_2, y14y0_3⟩, rfl, rfl, rfl, hey14_0⟩
          obtain rfl : a0_1 = y14y0_1 := hey14_0.symm
          refine sc ?_
          replace hp := dd hp
          refine s8 ?_
          obtain rfl := Option.some.inj hp
          refine jW ((y3x0_1, y14x0, y3x0_3, y3x0_4, y3x0_5, y3x0_6, y3x0_7, y3x0_8) : T_Cmd) ?_
          refine s1 ?_
          refine res1 rfl (ResOK.cell rfl mm (by exact agg110.h)) ⟨(y3x0_1, y14x0, y3x0_3, y3x0_4, y3x0_5, y3x0_6, y3x0_7, y3x0_8), (a0_1, y14y0_2, y14y0_3), rfl, rfl, rfl, rfl⟩ ms
        · replace hp := cond_f hc11 hp
          refine s5 ?_
          refine kp [0, 2, 3, 12, 32] ?_
          refine W_cond rfl (fun hc15 => ?_) (fun hc15 => ?_)
          · replace hp := cond_t hc15 hp
            refine s2 ?_
            replace hp := ba hp; obtain ⟨y16, hy16, hp⟩ := hp
            refine L_bsN ([0, 1000, 1001] : List Int) (xs := [(0, .const (.int .i64 0)), (1, .const (.int .i64 1000)), (2, .const (.int .i64 1001))]) rfl rfl el41.h rfl rfl rfl rfl rfl rfl rfl hy16 (fun X17 hdX17 => ?_)
            subst hdX17
            replace hp := ba hp; obtain ⟨y18, hy18, hp⟩ := hp
            refine L_callM [blk b0_ _ _] _ rfl fn64.h rfl pc (by exact fun w hw => s_l1PickInt_walk w b0_ (a0_1, y6y0_2, y6y0_3) X17 ((RdX.tree mm) w hw) ((RdX.old h0_0) w hw) _ hy18) ?_
            rintro _ _ ⟨y18x0, ⟨y18y0_1, y18y0_2, y18y0_3⟩, rfl, rfl, rfl, hey18_0⟩
            obtain rfl : a0_1 = y18y0_1 := hey18_0.symm
            refine sc ?_
            replace hp := dd hp
            refine s8 ?_
            obtain rfl := Option.some.inj hp
            refine jW ((y3x0_1, y3x0_2, y18x0, y3x0_4, y3x0_5, y3x0_6, y3x0_7, y3x0_8) : T_Cmd) ?_
            refine s1 ?_
            refine res1 rfl (ResOK.cell rfl mm (by exact agg110.h)) ⟨(y3x0_1, y3x0_2, y18x0, y3x0_4, y3x0_5, y3x0_6, y3x0_7, y3x0_8), (a0_1, y18y0_2, y18y0_3), rfl, rfl, rfl, rfl⟩ ms
          · replace hp := cond_f hc15 hp
            refine s5 ?_
            refine kp [0, 2, 3, 12, 38] ?_
            refine W_cond rfl (fun hc19 => ?_) (fun hc19 => ?_)
            · replace hp := cond_t hc19 hp
              refine s2 ?_
              replace hp := ba hp; obtain ⟨y20, hy20, hp⟩ := hp
              refine L_bsN ([ByteArray.empty, (ByteArray.mk #[65]), (ByteArray.mk #[97, 98, 99, 100, 101, 102, 103, 104]), (ByteArray.mk #[97, 98, 99, 100, 101, 102, 103, 104, 105])] : List ByteArray) (xs := [(0, .const (.string ByteArray.empty)), (1, .const (.string (ByteArray.mk #[65]))), (2, .const (.string (ByteArray.mk #[97, 98, 99, 100, 101, 102, 103, 104]))), (3, .const (.string (ByteArray.mk #[97, 98, 99, 100, 101, 102, 103, 104, 105])))]) rfl rfl el32.h rfl rfl rfl rfl rfl rfl rfl hy20 (fun X21 hdX21 => ?_)
              subst hdX21
              replace hp := ba hp; obtain ⟨y22, hy22, hp⟩ := hp
              refine L_callM [blk b0_ _ _] _ rfl fn61.h rfl pc (by exact fun w hw => s_l1Pick_walk w b0_ (a0_1, y6y0_2, y6y0_3) X21 ((RdX.tree mm) w hw) ((RdX.old h0_0) w hw) _ hy22) ?_
              rintro _ _ ⟨y22x0, ⟨y22y0_1, y22y0_2, y22y0_3⟩, rfl, rfl, rfl, hey22_0⟩
              obtain rfl : a0_1 = y22y0_1 := hey22_0.symm
              refine sc ?_
              replace hp := dd hp
              refine s8 ?_
              obtain rfl := Option.some.inj hp
              refine jW ((y3x0_1, y3x0_2, y3x0_3, y22x0, y3x0_5, y3x0_6, y3x0_7, y3x0_8) : T_Cmd) ?_
              refine s1 ?_
              refine res1 rfl (ResOK.cell rfl mm (by exact agg110.h)) ⟨(y3x0_1, y3x0_2, y3x0_3, y22x0, y3x0_5, y3x0_6, y3x0_7, y3x0_8), (a0_1, y22y0_2, y22y0_3), rfl, rfl, rfl, rfl⟩ ms
            · replace hp := cond_f hc19 hp
              refine s5 ?_
              refine kp [0, 2, 3, 44] ?_
              refine W_cond rfl (fun hc23 => ?_) (fun hc23 => ?_)
              · replace hp := cond_t hc23 hp
                refine s2 ?_
                replace hp := ba hp; obtain ⟨y24, hy24, hp⟩ := hp
                refine L_bsN ([(-1), 9, 10] : List Int) (xs := [(0, .const (.int .i64 (-1))), (1, .const (.int .i64 9)), (2, .const (.int .i64 10))]) rfl rfl el41.h rfl rfl rfl rfl rfl rfl rfl hy24 (fun X25 hdX25 => ?_)
                subst hdX25
                replace hp := ba hp; obtain ⟨y26, hy26, hp⟩ := hp
                refine L_callM [blk b0_ _ _] _ rfl fn64.h rfl pc (by exact fun w hw => s_l1PickInt_walk w b0_ (a0_1, y6y0_2, y6y0_3) X25 ((RdX.tree mm) w hw) ((RdX.old h0_0) w hw) _ hy26) ?_
                rintro _ _ ⟨y26x0, ⟨y26y0_1, y26y0_2, y26y0_3⟩, rfl, rfl, rfl, hey26_0⟩
                obtain rfl : a0_1 = y26y0_1 := hey26_0.symm
                refine sc ?_
                replace hp := dd hp
                refine s8 ?_
                obtain rfl := Option.some.inj hp
                refine jW ((y3x0_1, y3x0_2, y3x0_3, y3x0_4, y3x0_5, y3x0_6, y26x0, y3x0_8) : T_Cmd) ?_
                refine s1 ?_
                refine res1 rfl (ResOK.cell rfl mm (by exact agg110.h)) ⟨(y3x0_1, y3x0_2, y3x0_3, y3x0_4, y3x0_5, y3x0_6, y26x0, y3x0_8), (a0_1, y26y0_2, y26y0_3), rfl, rfl, rfl, rfl⟩ ms
              · replace hp := cond_f hc23 hp
                replace hp := ba hp; obtain ⟨y27, hy27, hp⟩ := hp
                refine W_DS (pre := [_, _, _, _, _]) (suf := [_, _, _]) [14, 16, 17] [blk b0_ _ 87] _ pc mix (by kernel_rfl) (by kernel_rfl) rfl ?_
                refine s3 ?_
                refine D_callM (fun v M => ∃ (x0 : ByteArray) (y0 : T_l1Cur), v = .string x0 ∧ (GT.dat x0, GT.dat y0) = y27 ∧ M = [blk b0_ (GT.cells y0) 87] ∧ y0.1 = a0_1) [blk b0_ _ 87] pc fn75.h (OpVs.cons (OpV.t rfl) (OpVs.cons OpV.c (OpVs.nil))) (by exact fun w F hw hM => s_l1Text_walk w b0_ (a0_1, y6y0_2, y6y0_3) 9 ((RdX.old h0_0) w hw) _ hy27) ?_
                refine D_bs1 (show OpV _ _ _ (.string y27.1) from ⟨_, rfl, fun u M h hc => by obtain ⟨x0, z0, hv, hd, _⟩ := h; subst hd; exact hv⟩) el32.h rfl (by decide) (by decide) rfl ?_
                refine s1 ?_
                refine Give_R rfl rfl ?_
                rintro _ _ ⟨bb17, rfl, rfl⟩
                simp only [List.cons_append, List.nil_append]
                refine Give_R rfl rfl ?_
                rintro _ _ ⟨y27x0, ⟨y27y0_1, y27y0_2, y27y0_3⟩, rfl, rfl, rfl, hey27_0⟩
                obtain rfl : a0_1 = y27y0_1 := hey27_0.symm
                refine s4 ?_
                refine sc ?_
                replace hp := dd hp
                replace hp := ba hp; obtain ⟨y29, hy29, hp⟩ := hp
                refine L_app1F (X := y3x0_8) (y27x0 : ByteArray) rfl rfl rfl el32.h rfl rfl pk mm  hy29 (by decide) (fun X28 hdX28 => ?_)
                subst hdX28
                refine s8 ?_
                obtain rfl := Option.some.inj hp
                refine jW ((y3x0_1, y3x0_2, y3x0_3, y3x0_4, y3x0_5, y3x0_6, y3x0_7, X28) : T_Cmd) ?_
                refine s1 ?_
                refine res1 rfl (ResOK.cell rfl mm (by exact agg110.h)) ⟨(y3x0_1, y3x0_2, y3x0_3, y3x0_4, y3x0_5, y3x0_6, y3x0_7, X28), (a0_1, y27y0_2, y27y0_3), rfl, rfl, rfl, rfl⟩ ms
    · replace hp := cond_f hc5 hp
      refine s6 ?_
      obtain rfl := Option.some.inj hp
      refine jW ((y3x0_1, y3x0_2, y3x0_3, y3x0_4, y3x0_5, y3x0_6, y3x0_7, y3x0_8) : T_Cmd) ?_
      refine s1 ?_
      refine res1 rfl (ResOK.cell rfl mm (by exact agg110.h)) ⟨(y3x0_1, y3x0_2, y3x0_3, y3x0_4, y3x0_5, y3x0_6, y3x0_7, y3x0_8), (a0_1, y4y0_2, y4y0_3), rfl, rfl, rfl, rfl⟩ ms
noncomputable def s_l15Cmds (a0 : D_l1Cur) (a1 : Int) : Option ((List D_Cmd) × D_l1Cur) :=
  Option.bind (some ([] : List D_Cmd)) (fun y2 => Option.bind (s_l1Below (a0.1, a0.2.1, a0.2.2) a1) (fun y3 => whileP (fun s4 : (List D_Cmd) × Int × Int × Int => cond (decide (0 < s4.2.1)) (Option.bind (s_l4Right (y3.2.1, s4.2.2.1, s4.2.2.2)) (fun y6 => Option.bind (s_l1Once (y6.2.1, y6.2.2.1, y6.2.2.2) 4) (fun y7 => cond y7.1 (Option.bind (some ([(ByteArray.mk #[97]), (ByteArray.mk #[98]), (ByteArray.mk #[97, 98]), (ByteArray.mk #[99]), (ByteArray.mk #[100]), (ByteArray.mk #[101]), (ByteArray.mk #[102])] : List ByteArray)) (fun y9 => Option.bind (s_l1Pick (y7.2.1, y7.2.2.1, y7.2.2.2) y9) (fun y11 => Option.bind (s_l1Once (y11.2.1, y11.2.2.1, y11.2.2.2) 15) (fun y12 => cond y12.1 (Option.bind (s_l4Cmd (y12.2.1, y12.2.2.1, y12.2.2.2)) (fun y14 => Option.bind (appP s4.1 [(y14.1.1, y14.1.2.1, y14.1.2.2.1, y14.1.2.2.2.1, y14.1.2.2.2.2.1, y14.1.2.2.2.2.2.1, y14.1.2.2.2.2.2.2.1, y14.1.2.2.2.2.2.2.2)]) (fun y16 => some (.inl ((y16, IntKind.wrap .i64 (s4.2.1 - 1), y14.2.2.1, y14.2.2.2)))))) (Option.bind (appP s4.1 [(1, y6.1.2.1, y6.1.2.2.1, y11.1, ByteArray.empty, ByteArray.empty, 0, ([] : List ByteArray))]) (fun y18 => some (.inl ((y18, IntKind.wrap .i64 (s4.2.1 - 1), y12.2.2.1, y12.2.2.2))))))))) (Option.bind (s_l1Once (y7.2.1, y7.2.2.1, y7.2.2.2) 15) (fun y19 => cond y19.1 (Option.bind (s_l4Cmd (y19.2.1, y19.2.2.1, y19.2.2.2)) (fun y21 => Option.bind (appP s4.1 [(y21.1.1, y21.1.2.1, y21.1.2.2.1, y21.1.2.2.2.1, y21.1.2.2.2.2.1, y21.1.2.2.2.2.2.1, y21.1.2.2.2.2.2.2.1, y21.1.2.2.2.2.2.2.2)]) (fun y23 => some (.inl ((y23, IntKind.wrap .i64 (s4.2.1 - 1), y21.2.2.1, y21.2.2.2)))))) (Option.bind (appP s4.1 [(y6.1.1, y6.1.2.1, y6.1.2.2.1, y6.1.2.2.2.1, y6.1.2.2.2.2.1, y6.1.2.2.2.2.2.1, y6.1.2.2.2.2.2.2.1, y6.1.2.2.2.2.2.2.2)]) (fun y25 => some (.inl ((y25, IntKind.wrap .i64 (s4.2.1 - 1), y19.2.2.1, y19.2.2.2)))))))))) (Option.map .inr (some (s4.1, (y3.2.1, s4.2.2.1, s4.2.2.2))))) (y2, y3.1, y3.2.2.1, y3.2.2.2)))
theorem s_l15Cmds_walk (w : World) (b0_ : Nat) (a0 : T_l1Cur) (a1 : Int) (h0_0 : GT.rd w (fps [blk b0_ (GT.cells a0) 87]) a0.1) (r : (List D_Cmd) × D_l1Cur) (hp : s_l15Cmds (GT.dat a0) a1 = some r) : Spec Tryz.prog 60 [Value.pointer (some ⟨b0_, 0, none⟩), .int .i64 a1].toArray w [blk b0_ (GT.cells a0) 87] (fun v M => ∃ (x0 : TL T_Cmd) (y0 : T_l1Cur), v = (TL.hdr x0) ∧ (GT.dat x0, GT.dat y0) = r ∧ M = [treeH x0, blk b0_ (GT.cells y0) 87] ∧ y0.1 = a0.1) := by
  obtain ⟨a0_1, a0_2, a0_3⟩ := a0
  change Spec _ _ ([Value.pointer (some ⟨b0_, 0, none⟩), .int .i64 a1] : List Value).toArray w _ _
  refine Spec.intro Tryz.func60 rfl Tryz.ntmps60 rfl ?_
  unfold s_l15Cmds at hp
  replace hp := dd hp
  refine s2 ?_
  refine L_assign (v := (TL.hdr (TL.nil T_Cmd 0))) rfl rfl ?_
  refine s3 ?_
  replace hp := ba hp; obtain ⟨y2, hy2, hp⟩ := hp
  refine L_mk0 T_Cmd rfl el90.h (fun X1 hdX1 => ?_)
  obtain rfl : GT.dat X1 = y2 := hdX1.trans (Option.some.inj hy2)
  clear hy2 hdX1
  refine s7 ?_
  replace hp := ba hp; obtain ⟨y3, hy3, hp⟩ := hp
  refine L_callM [blk b0_ _ _] _ rfl fn56.h rfl pc (by exact fun w hw => s_l1Below_walk w b0_ (a0_1, a0_2, a0_3) a1 ((RdX.old h0_0) w hw) _ hy3) ?_
  rintro _ _ ⟨y3x0, ⟨y3y0_1, y3y0_2, y3y0_3⟩, rfl, rfl, rfl, hey3_0⟩
  obtain rfl : a0_1 = y3y0_1 := hey3_0.symm
  refine sc ?_
  replace hp := dd hp
  refine s3 ?_
  refine W_while (σ := (TL T_Cmd) × Int × Int × Int) GT.dat (fun ((v4_0, v4_1, v4_2, v4_3) : (TL T_Cmd) × Int × Int × Int) => [(5, (TL.hdr v4_0)), (6, .int .i64 v4_1)]) (fun ((v4_0, v4_1, v4_2, v4_3) : (TL T_Cmd) × Int × Int × Int) => [blk b0_ [(TL.hdr a0_1), .int .i64 v4_2, .int .i64 v4_3] 87, treeH v4_0]) [(0, _)] [] (X1, y3x0, y3y0_2, y3y0_3) hp sb ms ?_
  clear hp
  rintro ⟨v4_0, v4_1, v4_2, v4_3⟩ x4 hp hx4
  replace hp := dd hp
  refine kq [0, 5, 6] ?_
  refine s6 ?_
  refine kp [0, 5, 6, 13] ?_
  refine W_cond rfl (fun hc5 => ?_) (fun hc5 => ?_)
  · replace hp := cond_t hc5 hp
    refine s6 ?_
    replace hp := ba hp; obtain ⟨y6, hy6, hp⟩ := hp
    refine L_callM [blk b0_ _ _] _ rfl fn79.h rfl pc (by exact fun w hw => s_l4Right_walk w b0_ (a0_1, v4_2, v4_3) ((RdX.old h0_0) w hw) _ hy6) ?_
    rintro _ _ ⟨⟨y6x0_1, y6x0_2, y6x0_3, y6x0_4, y6x0_5, y6x0_6, y6x0_7, y6x0_8⟩, ⟨y6y0_1, y6y0_2, y6y0_3⟩, rfl, rfl, rfl, hey6_0⟩
    obtain rfl : a0_1 = y6y0_1 := hey6_0.symm
    refine sc ?_
    replace hp := dd hp
    refine xL ((y6x0_1, y6x0_2, y6x0_3, y6x0_4, y6x0_5, y6x0_6, y6x0_7, y6x0_8) : T_Cmd) ?_
    refine al fun bk7 => ?_
    refine s6 ?_
    replace hp := ba hp; obtain ⟨y7, hy7, hp⟩ := hp
    refine L_callM [blk b0_ _ _] _ rfl fn29.h rfl pc (by exact fun w hw => s_l1Once_walk w b0_ (a0_1, y6y0_2, y6y0_3) 4 ((RdX.old h0_0) w hw) _ hy7) ?_
    rintro _ _ ⟨y7x0, ⟨y7y0_1, y7y0_2, y7y0_3⟩, rfl, rfl, rfl, hey7_0⟩
    obtain rfl : a0_1 = y7y0_1 := hey7_0.symm
    refine sc ?_
    replace hp := dd hp
    refine s1 ?_
    refine kp [0, 5, 6, 7, 19] ?_
    refine W_cond rfl (fun hc8 => ?_) (fun hc8 => ?_)
    · replace hp := cond_t hc8 hp
      replace hp := ba hp; obtain ⟨y9, hy9, hp⟩ := hp
      replace hp := ba hp; obtain ⟨y11, hy11, hp⟩ := hp
      refine W_DS (pre := [_, _, _, _, _, _, _]) (suf := [_, _]) [21, 23, 26] [blk b0_ _ 87] _ pc mix (by kernel_rfl) (by kernel_rfl) rfl ?_
      refine s5 ?_
      refine D_bsN ([(ByteArray.mk #[97]), (ByteArray.mk #[98]), (ByteArray.mk #[97, 98]), (ByteArray.mk #[99]), (ByteArray.mk #[100]), (ByteArray.mk #[101]), (ByteArray.mk #[102])] : List ByteArray) (xs := [(0, .const (.string (ByteArray.mk #[97]))), (1, .const (.string (ByteArray.mk #[98]))), (2, .const (.string (ByteArray.mk #[97, 98]))), (3, .const (.string (ByteArray.mk #[99]))), (4, .const (.string (ByteArray.mk #[100]))), (5, .const (.string (ByteArray.mk #[101]))), (6, .const (.string (ByteArray.mk #[102])))]) (ps := [(0, .string (ByteArray.mk #[97])), (1, .string (ByteArray.mk #[98])), (2, .string (ByteArray.mk #[97, 98])), (3, .string (ByteArray.mk #[99])), (4, .string (ByteArray.mk #[100])), (5, .string (ByteArray.mk #[101])), (6, .string (ByteArray.mk #[102]))]) (OpVp.cons OpV.c (OpVp.cons OpV.c (OpVp.cons OpV.c (OpVp.cons OpV.c (OpVp.cons OpV.c (OpVp.cons OpV.c (OpVp.cons OpV.c (OpVp.nil)))))))) el32.h rfl rfl rfl rfl rfl rfl rfl hy9 ?_
      refine D_callMR [_, _] (fun v M => ∃ (x0 : ByteArray) (y0 : T_l1Cur), v = .string x0 ∧ (GT.dat x0, GT.dat y0) = y11 ∧ M = [blk b0_ (GT.cells y0) 87] ∧ y0.1 = a0_1) [blk b0_ _ 87] pc fn61.h ⟨⟨_, rfl, fun _ _ h => h⟩, ⟨⟨_, rfl, fun _ _ h => h⟩, trivial⟩⟩ (by rintro w F vs hw hM ⟨v0, u0, M0, rfl, g0, hin0, ⟨v1, u1, M1, rfl, g1, hin1, rfl⟩⟩; obtain rfl := g0.2.1 trivial; obtain ⟨m1, rfl, hd1, rfl⟩ := g1; subst hd1; exact s_l1Pick_walk w b0_ (a0_1, y7y0_2, y7y0_3) m1 ((RdX.tree (hin1 _ (List.mem_singleton.2 rfl))) w hw) ((RdX.old h0_0) w hw) _ hy11) ?_
      refine s1 ?_
      refine Give_R rfl rfl ?_
      rintro _ _ ⟨y11x0, ⟨y11y0_1, y11y0_2, y11y0_3⟩, rfl, rfl, rfl, hey11_0⟩
      obtain rfl : a0_1 = y11y0_1 := hey11_0.symm
      refine s7 ?_
      refine sc ?_
      replace hp := dd hp
      refine L_build (xs := [(0, .const (.int .i64 1)), (1, .tmp 21), (2, .tmp 23), (3, .tmp 26)]) (cs := [.int .i64 1, .int .i64 y6x0_2, .int .i64 y6x0_3, .string y11x0, .string ByteArray.empty, .string ByteArray.empty, .int .i64 0, (TL.hdr (TL.nil ByteArray 0))]) rfl rfl bld110.h rfl ?_
      refine s6 ?_
      replace hp := ba hp; obtain ⟨y12, hy12, hp⟩ := hp
      refine L_callM [blk b0_ _ _] _ rfl fn29.h rfl pc (by exact fun w hw => s_l1Once_walk w b0_ (a0_1, y11y0_2, y11y0_3) 15 ((RdX.old h0_0) w hw) _ hy12) ?_
      rintro _ _ ⟨y12x0, ⟨y12y0_1, y12y0_2, y12y0_3⟩, rfl, rfl, rfl, hey12_0⟩
      obtain rfl : a0_1 = y12y0_1 := hey12_0.symm
      refine sc ?_
      replace hp := dd hp
      refine s1 ?_
      refine kp [0, 5, 6, 7, 29] ?_
      refine W_cond rfl (fun hc13 => ?_) (fun hc13 => ?_)
      · replace hp := cond_t hc13 hp
        refine s2 ?_
        replace hp := ba hp; obtain ⟨y14, hy14, hp⟩ := hp
        refine L_callM [blk b0_ _ _] _ rfl fn80.h rfl pc (by exact fun w hw => s_l4Cmd_walk w b0_ (a0_1, y12y0_2, y12y0_3) ((RdX.old h0_0) w hw) _ hy14) ?_
        rintro _ _ ⟨⟨y14x0_1, y14x0_2, y14x0_3, y14x0_4, y14x0_5, y14x0_6, y14x0_7, y14x0_8⟩, ⟨y14y0_1, y14y0_2, y14y0_3⟩, rfl, rfl, rfl, hey14_0⟩
        obtain rfl : a0_1 = y14y0_1 := hey14_0.symm
        refine sc ?_
        replace hp := dd hp
        refine xL ((y14x0_1, y14x0_2, y14x0_3, y14x0_4, y14x0_5, y14x0_6, y14x0_7, y14x0_8) : T_Cmd) ?_
        refine s5 ?_
        refine L_buildSlice1 rfl rfl el90.h rfl (by decide) (by decide) rfl (fun bb34 => ?_)
        replace hp := ba hp; obtain ⟨y16, hy16, hp⟩ := hp
        refine jL ((y14x0_1, y14x0_2, y14x0_3, y14x0_4, y14x0_5, y14x0_6, y14x0_7, y14x0_8) : T_Cmd) ?_
        refine L_app1 (X := v4_0) ((y14x0_1, y14x0_2, y14x0_3, y14x0_4, y14x0_5, y14x0_6, y14x0_7, y14x0_8) : T_Cmd) rfl rfl rfl el90.h rfl rfl pk mm pk hy16 (by decide) (fun X15 hdX15 => ?_)
        subst hdX15
        refine s7 ?_
        exact ⟨(X15, IntKind.wrap .i64 (v4_1 - 1), y14y0_2, y14y0_3), sb, (.sub ms), some_eq hp⟩
      · replace hp := cond_f hc13 hp
        refine s4 ?_
        refine L_buildSlice1 rfl rfl el90.h rfl (by decide) (by decide) rfl (fun bb34 => ?_)
        replace hp := ba hp; obtain ⟨y18, hy18, hp⟩ := hp
        refine L_conv (M' := treeH (TL.nil ByteArray 0) :: _) (fun w h => addNilT (τ := ByteArray) 0 h) ?_
        refine jL ((1, y6x0_2, y6x0_3, y11x0, ByteArray.empty, ByteArray.empty, 0, (TL.nil ByteArray 0)) : T_Cmd) ?_
        refine L_app1 (X := v4_0) ((1, y6x0_2, y6x0_3, y11x0, ByteArray.empty, ByteArray.empty, 0, (TL.nil ByteArray 0)) : T_Cmd) rfl rfl rfl el90.h rfl rfl pk mm pk hy18 (by decide) (fun X17 hdX17 => ?_)
        subst hdX17
        refine s7 ?_
        exact ⟨(X17, IntKind.wrap .i64 (v4_1 - 1), y12y0_2, y12y0_3), sb, (.sub ms), some_eq hp⟩
    · replace hp := cond_f hc8 hp
      refine s5 ?_
      replace hp := ba hp; obtain ⟨y19, hy19, hp⟩ := hp
      refine L_callM [blk b0_ _ _] _ rfl fn29.h rfl pc (by exact fun w hw => s_l1Once_walk w b0_ (a0_1, y7y0_2, y7y0_3) 15 ((RdX.old h0_0) w hw) _ hy19) ?_
      rintro _ _ ⟨y19x0, ⟨y19y0_1, y19y0_2, y19y0_3⟩, rfl, rfl, rfl, hey19_0⟩
      obtain rfl : a0_1 = y19y0_1 := hey19_0.symm
      refine sc ?_
      replace hp := dd hp
      refine s1 ?_
      refine kp [0, 5, 6, 7, 29] ?_
      refine W_cond rfl (fun hc20 => ?_) (fun hc20 => ?_)
      · replace hp := cond_t hc20 hp
        refine s2 ?_
        replace hp := ba hp; obtain ⟨y21, hy21, hp⟩ := hp
        refine L_callM [blk b0_ _ _] _ rfl fn80.h rfl pc (by exact fun w hw => s_l4Cmd_walk w b0_ (a0_1, y19y0_2, y19y0_3) ((RdX.old h0_0) w hw) _ hy21) ?_
        rintro _ _ ⟨⟨y21x0_1, y21x0_2, y21x0_3, y21x0_4, y21x0_5, y21x0_6, y21x0_7, y21x0_8⟩, ⟨y21y0_1, y21y0_2, y21y0_3⟩, rfl, rfl, rfl, hey21_0⟩
        obtain rfl : a0_1 = y21y0_1 := hey21_0.symm
        refine sc ?_
        replace hp := dd hp
        refine xL ((y21x0_1, y21x0_2, y21x0_3, y21x0_4, y21x0_5, y21x0_6, y21x0_7, y21x0_8) : T_Cmd) ?_
        refine s5 ?_
        refine L_buildSlice1 rfl rfl el90.h rfl (by decide) (by decide) rfl (fun bb34 => ?_)
        replace hp := ba hp; obtain ⟨y23, hy23, hp⟩ := hp
        refine jL ((y21x0_1, y21x0_2, y21x0_3, y21x0_4, y21x0_5, y21x0_6, y21x0_7, y21x0_8) : T_Cmd) ?_
        refine L_app1 (X := v4_0) ((y21x0_1, y21x0_2, y21x0_3, y21x0_4, y21x0_5, y21x0_6, y21x0_7, y21x0_8) : T_Cmd) rfl rfl rfl el90.h rfl rfl pk mm pk hy23 (by decide) (fun X22 hdX22 => ?_)
        subst hdX22
        refine s7 ?_
        exact ⟨(X22, IntKind.wrap .i64 (v4_1 - 1), y21y0_2, y21y0_3), sb, (.sub ms), some_eq hp⟩
      · replace hp := cond_f hc20 hp
        refine s4 ?_
        refine L_buildSlice1 rfl rfl el90.h rfl (by decide) (by decide) rfl (fun bb34 => ?_)
        replace hp := ba hp; obtain ⟨y25, hy25, hp⟩ := hp
        refine jL ((y6x0_1, y6x0_2, y6x0_3, y6x0_4, y6x0_5, y6x0_6, y6x0_7, y6x0_8) : T_Cmd) ?_
        refine L_app1 (X := v4_0) ((y6x0_1, y6x0_2, y6x0_3, y6x0_4, y6x0_5, y6x0_6, y6x0_7, y6x0_8) : T_Cmd) rfl rfl rfl el90.h rfl rfl pk mm pk hy25 (by decide) (fun X24 hdX24 => ?_)
        subst hdX24
        refine s7 ?_
        exact ⟨(X24, IntKind.wrap .i64 (v4_1 - 1), y19y0_2, y19y0_3), sb, (.sub ms), some_eq hp⟩
  · replace hp := cond_f hc5 hp
    refine W_exit ?_
    replace hp := map_any hp; obtain ⟨a26, hp, hx_a26⟩ := hp
    obtain rfl := hx4 _ hx_a26
    refine s5 ?_
    obtain rfl := Option.some.inj hp
    refine s1 ?_
    refine res1 rfl (ResOK.tmp rfl) ⟨v4_0, (a0_1, v4_2, v4_3), rfl, rfl, rfl, rfl⟩ ms
noncomputable def s_l4Texts (a0 : List ByteArray) (a1 : List ByteArray) : Option Bool :=
  cond (!decide ((a0.length : Int) = (a1.length : Int))) (some false) (whileP (fun s2 : Int => cond (decide (s2 < (a0.length : Int))) (Option.bind (idx a0 s2) (fun y4 => Option.bind (idx a1 s2) (fun y5 => cond (!decide (y4 = y5)) (Option.map .inr (some false)) (some (.inl (IntKind.wrap .i64 (s2 + 1))))))) (Option.map .inr (some true))) 0)
theorem s_l4Texts_walk (w : World) (a0 : TL ByteArray) (a1 : TL ByteArray) (h0 : GT.rd w [] a0) (h1 : GT.rd w [] a1) (r : Bool) (hp : s_l4Texts (GT.dat a0) (GT.dat a1) = some r) : Spec Tryz.prog 134 [(TL.hdr a0), (TL.hdr a1)].toArray w [] (IsV (.bool r)) := by
  refine Spec.intro Tryz.func134 rfl Tryz.ntmps134 rfl ?_
  unfold s_l4Texts at hp
  replace hp := dd hp
  refine s13 ?_
  refine kp [0, 1, 10] ?_
  refine W_cond rfl (fun hc1 => ?_) (fun hc1 => ?_)
  · replace hp := cond_t hc1 hp
    refine s4 ?_
    obtain rfl := Option.some.inj hp
    refine s1 ?_
    refine res1 rfl (ResOK.tmp rfl) ⟨rfl, rfl⟩ ms
  · replace hp := cond_f hc1 hp
    refine s7 ?_
    refine W_while (σ := Int) GT.dat (fun (v2_0 : Int) => [(5, .int .i64 v2_0)]) (fun (v2_0 : Int) => []) [(0, _), (1, _)] [] 0 hp sb ms ?_
    clear hp
    rintro v2_0 x2 hp hx2
    replace hp := dd hp
    refine kq [0, 1, 5] ?_
    refine s8 ?_
    refine kp [0, 1, 5, 14] ?_
    refine W_cond rfl (fun hc3 => ?_) (fun hc3 => ?_)
    · replace hp := cond_t hc3 hp
      refine s4 ?_
      replace hp := idx_bind hp; obtain ⟨u4, hy4, hp⟩ := hp
      replace hp := idx_bind hp; obtain ⟨u5, hy5, hp⟩ := hp
      refine W_D0 [25] mix (by kernel_rfl) rfl ?_
      refine s2 ?_
      refine D_idxA (X := a0) GC.none (OpV.t rfl) (OpV.t rfl) el32.h (RdT.old h0) (fun _ => hy4) ?_
      refine D_load0 GC.none (OpV.t rfl) (fun hg => RdT.at (RdT.old h0) (hy4).2) one9.h rfl ?_
      refine s2 ?_
      refine D_idxA (X := a1) GC.none (OpV.t rfl) (OpV.t rfl) el32.h (RdT.old h1) (fun _ => hy5) ?_
      refine D_load0 GC.none (OpV.t rfl) (fun hg => RdT.at (RdT.old h1) (hy5).2) one9.h rfl ?_
      refine s12 ?_
      refine kp [0, 1, 5, 25] ?_
      refine W_cond rfl (fun hc6 => ?_) (fun hc6 => ?_)
      · replace hp := cond_t hc6 hp
        refine s4 ?_
        replace hp := map_any hp; obtain ⟨a7, hp, hx_a7⟩ := hp
        obtain rfl := hx2 _ hx_a7
        obtain rfl := Option.some.inj hp
        refine s1 ?_
        refine res1 rfl (ResOK.tmp rfl) ⟨rfl, rfl⟩ ms
      · replace hp := cond_f hc6 hp
        refine s6 ?_
        exact ⟨IntKind.wrap .i64 (v2_0 + 1), sb, (.sub ms), some_eq hp⟩
    · replace hp := cond_f hc3 hp
      refine W_exit ?_
      replace hp := map_any hp; obtain ⟨a8, hp, hx_a8⟩ := hp
      obtain rfl := hx2 _ hx_a8
      refine s4 ?_
      obtain rfl := Option.some.inj hp
      refine s1 ?_
      refine res1 rfl (ResOK.tmp rfl) ⟨rfl, rfl⟩ ms
noncomputable def s_SameCmd (a0 : D_Cmd) (a1 : D_Cmd) : Option Bool :=
  gb (((((((decide (a0.1 = a1.1)) && (decide (a0.2.1 = a1.2.1))) && (decide (a0.2.2.1 = a1.2.2.1))) && (decide (a0.2.2.2.1 = a1.2.2.2.1))) && (decide (a0.2.2.2.2.1 = a1.2.2.2.2.1))) && (decide (a0.2.2.2.2.2.1 = a1.2.2.2.2.2.1))) && (decide (a0.2.2.2.2.2.2.1 = a1.2.2.2.2.2.2.1))) (s_l4Texts a0.2.2.2.2.2.2.2 a1.2.2.2.2.2.2.2) (fun y1 => some ((((((((decide (a0.1 = a1.1)) && (decide (a0.2.1 = a1.2.1))) && (decide (a0.2.2.1 = a1.2.2.1))) && (decide (a0.2.2.2.1 = a1.2.2.2.1))) && (decide (a0.2.2.2.2.1 = a1.2.2.2.2.1))) && (decide (a0.2.2.2.2.2.1 = a1.2.2.2.2.2.1))) && (decide (a0.2.2.2.2.2.2.1 = a1.2.2.2.2.2.2.1))) && y1))
theorem s_SameCmd_walk (w : World) (a0 : T_Cmd) (a1 : T_Cmd) (h0 : GT.rd w [] a0) (h1 : GT.rd w [] a1) (r : Bool) (hp : s_SameCmd (GT.dat a0) (GT.dat a1) = some r) : Spec Tryz.prog 117 [.agg (GT.cells a0).toArray, .agg (GT.cells a1).toArray].toArray w [] (IsV (.bool r)) := by
  obtain ⟨a0_1, a0_2, a0_3, a0_4, a0_5, a0_6, a0_7, a0_8⟩ := a0
  obtain ⟨a1_1, a1_2, a1_3, a1_4, a1_5, a1_6, a1_7, a1_8⟩ := a1
  change Spec _ _ ([Value.agg #[.int .i64 a0_1, .int .i64 a0_2, .int .i64 a0_3, .string a0_4, .string a0_5, .string a0_6, .int .i64 a0_7, (TL.hdr a0_8)], Value.agg #[.int .i64 a1_1, .int .i64 a1_2, .int .i64 a1_3, .string a1_4, .string a1_5, .string a1_6, .int .i64 a1_7, (TL.hdr a1_8)]] : List Value).toArray w [] _
  refine Spec.intro Tryz.func117 rfl Tryz.ntmps117 rfl ?_
  unfold s_SameCmd at hp
  replace hp := dd hp
  refine s2 ?_
  refine bx fun bk2 => ?_
  refine bx fun bk3 => ?_
  refine s3 ?_
  replace hp := gb_any hp; obtain ⟨y1, hy1, hp⟩ := hp
  refine W_D0 [4] mix (by kernel_rfl) rfl ?_
  refine s20 ?_
  refine s20 ?_
  refine s12 ?_
  refine D_callX (GC.some rfl rfl) fn134.h (OpVs.cons (OpV.s rfl) (OpVs.cons (OpV.s rfl) (OpVs.nil))) (by exact fun hg w F hF hM => s_l4Texts_walk w a0_8 a1_8 (RdT.nowS (RdT.old h0.2.2.2.2.2.2.2) hF hM) (RdT.nowS (RdT.old h1.2.2.2.2.2.2.2) hF hM) _ (hy1 hg.2)) ?_
  refine s20 ?_
  refine s20 ?_
  refine s19 ?_
  obtain rfl := Option.some.inj hp
  refine s1 ?_
  refine res1 rfl (ResOK.tmp rfl) ⟨rfl, rfl⟩ ms
noncomputable def s_l4May (a0 : ByteArray) (a1 : Bool) : Option Bool :=
  cond a1 (Option.bind (s_l4Word a0) (fun y2 => some y2)) (some (decide (a0 = ByteArray.empty)))
theorem s_l4May_walk (w : World) (a0 : ByteArray) (a1 : Bool)  (r : Bool) (hp : s_l4May a0 a1 = some r) : Spec Tryz.prog 118 [.string a0, .bool a1].toArray w [] (IsV (.bool r)) := by
  refine Spec.intro Tryz.func118 rfl Tryz.ntmps118 rfl ?_
  unfold s_l4May at hp
  replace hp := dd hp
  refine s9 ?_
  refine kp [0, 5] ?_
  refine W_cond rfl (fun hc1 => ?_) (fun hc1 => ?_)
  · replace hp := cond_t hc1 hp
    refine s3 ?_
    replace hp := ba hp; obtain ⟨y2, hy2, hp⟩ := hp
    refine L_callX rfl fn44.h rfl (by exact fun w hw => s_l4Word_walk w a0  _ hy2) ?_
    refine s2 ?_
    obtain rfl := Option.some.inj hp
    refine s1 ?_
    refine res1 rfl (ResOK.tmp rfl) ⟨rfl, rfl⟩ ms
  · replace hp := cond_f hc1 hp
    refine s7 ?_
    obtain rfl := Option.some.inj hp
    refine s1 ?_
    refine res1 rfl (ResOK.tmp rfl) ⟨rfl, rfl⟩ ms
noncomputable def s_CmdOk (a0 : D_Cmd) : Option Bool :=
  Option.bind (s_l1In a0.1 0 7) (fun y1 => cond (!y1) (some false) (cond (decide (a0.1 = 0)) (Option.bind (s_SameCmd (a0.1, a0.2.1, a0.2.2.1, a0.2.2.2.1, a0.2.2.2.2.1, a0.2.2.2.2.2.1, a0.2.2.2.2.2.2.1, a0.2.2.2.2.2.2.2) (0, 0, 0, ByteArray.empty, ByteArray.empty, ByteArray.empty, 0, ([] : List ByteArray))) (fun y4 => some y4)) (Option.bind (s_l1In a0.2.1 1 9) (fun y5 => gb (!(!y5)) (s_l1In a0.2.2.1 1 1000) (fun y6 => gb (!((!y5) || (!y6))) (s_l4May a0.2.2.2.1 (!decide (a0.1 = 7))) (fun y7 => gb (!(((!y5) || (!y6)) || (!y7))) (s_l4May a0.2.2.2.2.1 ((decide (a0.1 = 3)) || (decide (a0.1 = 4)))) (fun y8 => gb (!((((!y5) || (!y6)) || (!y7)) || (!y8))) (s_l4May a0.2.2.2.2.2.1 (decide (a0.1 = 4))) (fun y9 => gb (((!(((((!y5) || (!y6)) || (!y7)) || (!y8)) || (!y9))) && (!decide (a0.2.2.2.2.2.2.1 = 0))) && (!(!decide (a0.1 = 5)))) (s_l1In a0.2.2.2.2.2.2.1 0 9) (fun y10 => cond ((((((!y5) || (!y6)) || (!y7)) || (!y8)) || (!y9)) || ((!decide (a0.2.2.2.2.2.2.1 = 0)) && ((!decide (a0.1 = 5)) || (!y10)))) (some false) (cond (!decide (a0.1 = 3)) (some (decide ((a0.2.2.2.2.2.2.2.length : Int) = 0))) (Option.bind (s_l1In (a0.2.2.2.2.2.2.2.length : Int) 1 4) (fun y13 => cond (!y13) (some false) (whileP (fun s15 : Int => cond (decide (s15 < (a0.2.2.2.2.2.2.2.length : Int))) (Option.bind (idx a0.2.2.2.2.2.2.2 s15) (fun y17 => cond (!decide ((y17.size : Int) = 8)) (Option.map .inr (some false)) (some (.inl (IntKind.wrap .i64 (s15 + 1)))))) (Option.map .inr (some true))) 0)))))))))))))
theorem s_CmdOk_walk (w : World) (a0 : T_Cmd) (h0 : GT.rd w [] a0) (r : Bool) (hp : s_CmdOk (GT.dat a0) = some r) : Spec Tryz.prog 89 [.agg (GT.cells a0).toArray].toArray w [] (IsV (.bool r)) := by
  obtain ⟨a0_1, a0_2, a0_3, a0_4, a0_5, a0_6, a0_7, a0_8⟩ := a0
  change Spec _ _ ([Value.agg #[.int .i64 a0_1, .int .i64 a0_2, .int .i64 a0_3, .string a0_4, .string a0_5, .string a0_6, .int .i64 a0_7, (TL.hdr a0_8)]] : List Value).toArray w [] _
  refine Spec.intro Tryz.func89 rfl Tryz.ntmps89 rfl ?_
  unfold s_CmdOk at hp
  replace hp := dd hp
  refine s2 ?_
  refine bx fun bk1 => ?_
  refine s7 ?_
  replace hp := ba hp; obtain ⟨y1, hy1, hp⟩ := hp
  refine L_callX rfl fn40.h rfl (by exact fun w hw => s_l1In_walk w a0_1 0 7  _ hy1) ?_
  refine s2 ?_
  refine kp [1, 8] ?_
  refine W_cond rfl (fun hc2 => ?_) (fun hc2 => ?_)
  · replace hp := cond_t hc2 hp
    refine s4 ?_
    obtain rfl := Option.some.inj hp
    refine s1 ?_
    refine res1 rfl (ResOK.tmp rfl) ⟨rfl, rfl⟩ ms
  · replace hp := cond_f hc2 hp
    refine s8 ?_
    refine kp [1, 11] ?_
    refine W_cond rfl (fun hc3 => ?_) (fun hc3 => ?_)
    · replace hp := cond_t hc3 hp
      refine s3 ?_
      refine L_build (xs := []) (cs := [.int .i64 0, .int .i64 0, .int .i64 0, .string ByteArray.empty, .string ByteArray.empty, .string ByteArray.empty, .int .i64 0, (TL.hdr (TL.nil ByteArray 0))]) rfl rfl bld110.h rfl ?_
      replace hp := ba hp; obtain ⟨y4, hy4, hp⟩ := hp
      refine L_callX rfl fn117.h rfl (by exact fun w hw => s_SameCmd_walk w (a0_1, a0_2, a0_3, a0_4, a0_5, a0_6, a0_7, a0_8) (0, 0, 0, ByteArray.empty, ByteArray.empty, ByteArray.empty, 0, (TL.nil ByteArray 0)) (RdT.now (RdT.pair RdT.int (RdT.pair RdT.int (RdT.pair RdT.int (RdT.pair RdT.str (RdT.pair RdT.str (RdT.pair RdT.str (RdT.pair RdT.int (RdT.old h0.2.2.2.2.2.2.2)))))))) hw) (RdT.now (RdT.pair RdT.int (RdT.pair RdT.int (RdT.pair RdT.int (RdT.pair RdT.str (RdT.pair RdT.str (RdT.pair RdT.str (RdT.pair RdT.int (RdT.nil 0)))))))) hw) _ hy4) ?_
      refine s2 ?_
      obtain rfl := Option.some.inj hp
      refine s1 ?_
      refine res1 rfl (ResOK.tmp rfl) ⟨rfl, rfl⟩ ms
    · replace hp := cond_f hc3 hp
      refine s9 ?_
      replace hp := ba hp; obtain ⟨y5, hy5, hp⟩ := hp
      replace hp := gb_any hp; obtain ⟨y6, hy6, hp⟩ := hp
      replace hp := gb_any hp; obtain ⟨y7, hy7, hp⟩ := hp
      replace hp := gb_any hp; obtain ⟨y8, hy8, hp⟩ := hp
      replace hp := gb_any hp; obtain ⟨y9, hy9, hp⟩ := hp
      replace hp := gb_any hp; obtain ⟨y10, hy10, hp⟩ := hp
      refine W_D0 [69] mix (by kernel_rfl) rfl ?_
      refine s2 ?_
      refine D_callX GC.none fn40.h (OpVs.cons (OpV.t rfl) (OpVs.cons OpV.c (OpVs.cons OpV.c (OpVs.nil)))) (by exact fun hg w F hF hM => s_l1In_walk w a0_2 1 9  _ hy5) ?_
      refine s4 ?_
      refine D_callX (GC.some rfl rfl) fn40.h (OpVs.cons (OpV.s rfl) (OpVs.cons OpV.c (OpVs.cons OpV.c (OpVs.nil)))) (by exact fun hg w F hF hM => s_l1In_walk w a0_3 1 1000  _ (hy6 (gnot hg.2))) ?_
      refine s7 ?_
      refine D_callX (GC.some rfl rfl) fn118.h (OpVs.cons (OpV.s rfl) (OpVs.cons (OpV.s rfl) (OpVs.nil))) (by exact fun hg w F hF hM => s_l4May_walk w a0_4 (!decide (a0_1 = 7))  _ (hy7 (gnot hg.2))) ?_
      refine s11 ?_
      refine D_callX (GC.some rfl rfl) fn118.h (OpVs.cons (OpV.s rfl) (OpVs.cons (OpV.s rfl) (OpVs.nil))) (by exact fun hg w F hF hM => s_l4May_walk w a0_5 ((decide (a0_1 = 3)) || (decide (a0_1 = 4)))  _ (hy8 (gnot hg.2))) ?_
      refine s7 ?_
      refine D_callX (GC.some rfl rfl) fn118.h (OpVs.cons (OpV.s rfl) (OpVs.cons (OpV.s rfl) (OpVs.nil))) (by exact fun hg w F hF hM => s_l4May_walk w a0_6 (decide (a0_1 = 4))  _ (hy9 (gnot hg.2))) ?_
      refine s12 ?_
      refine D_callX (GC.some rfl rfl) fn40.h (OpVs.cons (OpV.s rfl) (OpVs.cons OpV.c (OpVs.cons OpV.c (OpVs.nil)))) (by exact fun hg w F hF hM => s_l1In_walk w a0_7 0 9  _ (hy10 (gand (gand (gnot hg.1.1.2) hg.1.2) (gnot hg.2)))) ?_
      refine s20 ?_
      refine s20 ?_
      refine s19 ?_
      refine kp [1, 3, 69] ?_
      refine W_cond rfl (fun hc11 => ?_) (fun hc11 => ?_)
      · replace hp := cond_t hc11 hp
        refine s4 ?_
        obtain rfl := Option.some.inj hp
        refine s1 ?_
        refine res1 rfl (ResOK.tmp rfl) ⟨rfl, rfl⟩ ms
      · replace hp := cond_f hc11 hp
        refine s7 ?_
        refine kp [1, 71] ?_
        refine W_cond rfl (fun hc12 => ?_) (fun hc12 => ?_)
        · replace hp := cond_t hc12 hp
          refine s8 ?_
          obtain rfl := Option.some.inj hp
          refine s1 ?_
          refine res1 rfl (ResOK.tmp rfl) ⟨rfl, rfl⟩ ms
        · replace hp := cond_f hc12 hp
          refine s7 ?_
          replace hp := ba hp; obtain ⟨y13, hy13, hp⟩ := hp
          refine L_callX rfl fn40.h rfl (by exact fun w hw => s_l1In_walk w ((GT.dat a0_8).length : Int) 1 4  _ hy13) ?_
          refine s2 ?_
          refine kp [1, 80] ?_
          refine W_cond rfl (fun hc14 => ?_) (fun hc14 => ?_)
          · replace hp := cond_t hc14 hp
            refine s4 ?_
            obtain rfl := Option.some.inj hp
            refine s1 ?_
            refine res1 rfl (ResOK.tmp rfl) ⟨rfl, rfl⟩ ms
          · replace hp := cond_f hc14 hp
            refine s7 ?_
            refine W_while (σ := Int) GT.dat (fun (v15_0 : Int) => [(4, .int .i64 v15_0)]) (fun (v15_0 : Int) => []) [(1, _)] [blk bk1 _ _] 0 hp sb ms ?_
            clear hp
            rintro v15_0 x15 hp hx15
            replace hp := dd hp
            refine kq [1, 4] ?_
            refine s9 ?_
            refine kp [1, 4, 85] ?_
            refine W_cond rfl (fun hc16 => ?_) (fun hc16 => ?_)
            · replace hp := cond_t hc16 hp
              refine s8 ?_
              replace hp := idx_bind hp; obtain ⟨u17, hy17, hp⟩ := hp
              refine L_idxA (X := a0_8) rfl rfl rfl el32.h (RdT.old h0.2.2.2.2.2.2.2) hy17 ?_
              refine L_load0 rfl rfl (RdT.at (RdT.old h0.2.2.2.2.2.2.2) (hy17).2) one9.h rfl ?_
              refine s3 ?_
              refine kp [1, 4, 94] ?_
              refine W_cond rfl (fun hc18 => ?_) (fun hc18 => ?_)
              · replace hp := cond_t hc18 hp
                refine s4 ?_
                replace hp := map_any hp; obtain ⟨a19, hp, hx_a19⟩ := hp
                obtain rfl := hx15 _ hx_a19
                obtain rfl := Option.some.inj hp
                refine s1 ?_
                refine res1 rfl (ResOK.tmp rfl) ⟨rfl, rfl⟩ ms
              · replace hp := cond_f hc18 hp
                refine s6 ?_
                exact ⟨IntKind.wrap .i64 (v15_0 + 1), sb, (.sub ms), some_eq hp⟩
            · replace hp := cond_f hc16 hp
              refine W_exit ?_
              replace hp := map_any hp; obtain ⟨a20, hp, hx_a20⟩ := hp
              obtain rfl := hx15 _ hx_a20
              refine s4 ?_
              obtain rfl := Option.some.inj hp
              refine s1 ?_
              refine res1 rfl (ResOK.tmp rfl) ⟨rfl, rfl⟩ ms
end Go.Proofs.SL
namespace Go.Proofs.SL
open Go
set_option maxHeartbeats 2000000
abbrev D_CSnap := ByteArray × ByteArray × (List ByteArray)
abbrev D_CSet := ByteArray × (List D_CSnap)
abbrev D_Catalog := (List D_CSet)
instance fld71_0 : FldF Tryz.prog 71 0 0 := ⟨by kernel_rfl⟩
instance fld71_1 : FldF Tryz.prog 71 1 1 := ⟨by kernel_rfl⟩
instance fld71_2 : FldF Tryz.prog 71 2 2 := ⟨by kernel_rfl⟩
instance fld69_1 : FldF Tryz.prog 69 1 1 := ⟨by kernel_rfl⟩
instance one67 : OneF Tryz.prog 67 := ⟨by kernel_rfl⟩
instance el67 : ElF Tryz.prog 67 71 3 56 [.string ByteArray.empty, .string ByteArray.empty, .slice none 0 0] := ⟨by kernel_rfl⟩
instance fld26_0 : FldF Tryz.prog 26 0 0 := ⟨by kernel_rfl⟩
instance one24 : OneF Tryz.prog 24 := ⟨by kernel_rfl⟩
instance el24 : ElF Tryz.prog 24 69 2 40 [.string ByteArray.empty, .slice none 0 0] := ⟨by kernel_rfl⟩
instance agg69 : AggF Tryz.prog 69 2 := ⟨by kernel_rfl⟩
instance zero69 : ZerF Tryz.prog 69 [.string ByteArray.empty, .slice none 0 0] := ⟨by kernel_rfl⟩
instance fld69_0 : FldF Tryz.prog 69 0 0 := ⟨by kernel_rfl⟩
instance agg71 : AggF Tryz.prog 71 3 := ⟨by kernel_rfl⟩
instance fn45 : FnF Tryz.prog 45 := ⟨⟨_, Tryz.func45, by kernel_rfl, rfl⟩⟩
instance fn46 : FnF Tryz.prog 46 := ⟨⟨_, Tryz.func46, by kernel_rfl, rfl⟩⟩
instance zero26 : ZerF Tryz.prog 26 [.slice none 0 0] := ⟨by kernel_rfl⟩
instance bld26 : BldF Tryz.prog 26 [(0, 1)] [.slice none 0 0] := ⟨by kernel_rfl⟩
instance agg26 : AggF Tryz.prog 26 1 := ⟨by kernel_rfl⟩
instance bld69 : BldF Tryz.prog 69 [(0, 1), (1, 1)] [.string ByteArray.empty, .slice none 0 0] := ⟨by kernel_rfl⟩
instance zero71 : ZerF Tryz.prog 71 [.string ByteArray.empty, .string ByteArray.empty, .slice none 0 0] := ⟨by kernel_rfl⟩
instance fn91 : FnF Tryz.prog 91 := ⟨⟨_, Tryz.func91, by kernel_rfl, rfl⟩⟩
instance bld71 : BldF Tryz.prog 71 [(0, 1), (1, 1), (2, 1)] [.string ByteArray.empty, .string ByteArray.empty, .slice none 0 0] := ⟨by kernel_rfl⟩
instance fn119 : FnF Tryz.prog 119 := ⟨⟨_, Tryz.func119, by kernel_rfl, rfl⟩⟩
instance fn120 : FnF Tryz.prog 120 := ⟨⟨_, Tryz.func120, by kernel_rfl, rfl⟩⟩
instance fn121 : FnF Tryz.prog 121 := ⟨⟨_, Tryz.func121, by kernel_rfl, rfl⟩⟩
instance fn17 : FnF Tryz.prog 17 := ⟨⟨_, Tryz.func17, by kernel_rfl, rfl⟩⟩
instance fn88 : FnF Tryz.prog 88 := ⟨⟨_, Tryz.func88, by kernel_rfl, rfl⟩⟩
instance fn89 : FnF Tryz.prog 89 := ⟨⟨_, Tryz.func89, by kernel_rfl, rfl⟩⟩
instance fn90 : FnF Tryz.prog 90 := ⟨⟨_, Tryz.func90, by kernel_rfl, rfl⟩⟩
instance fn92 : FnF Tryz.prog 92 := ⟨⟨_, Tryz.func92, by kernel_rfl, rfl⟩⟩
instance fn78 : FnF Tryz.prog 78 := ⟨⟨_, Tryz.func78, by kernel_rfl, rfl⟩⟩
instance fn60 : FnF Tryz.prog 60 := ⟨⟨_, Tryz.func60, by kernel_rfl, rfl⟩⟩
instance fn59 : FnF Tryz.prog 59 := ⟨⟨_, Tryz.func59, by kernel_rfl, rfl⟩⟩
noncomputable def s_l15Snap (a0 : D_CSnap) : Option Bool :=
  Option.bind (s_l4Word a0.1) (fun y1 => gb ((!(!y1)) && (!decide (a0.2.1 = ByteArray.empty))) (s_l4Word a0.2.1) (fun y2 => gb (!((!y1) || ((!decide (a0.2.1 = ByteArray.empty)) && (!y2)))) (s_l1In (a0.2.2.length : Int) 1 4) (fun y3 => cond (((!y1) || ((!decide (a0.2.1 = ByteArray.empty)) && (!y2))) || (!y3)) (some false) (whileP (fun s5 : Int => cond (decide (s5 < (a0.2.2.length : Int))) (Option.bind (idx a0.2.2 s5) (fun y7 => cond (!decide ((y7.size : Int) = 8)) (Option.map .inr (some false)) (some (.inl (IntKind.wrap .i64 (s5 + 1)))))) (Option.map .inr (some true))) 0))))
theorem s_l15Snap_walk (w : World) (a0 : T_CSnap) (h0 : GT.rd w [] a0) (r : Bool) (hp : s_l15Snap (GT.dat a0) = some r) : Spec Tryz.prog 45 [.agg (GT.cells a0).toArray].toArray w [] (IsV (.bool r)) := by
  obtain ⟨a0_1, a0_2, a0_3⟩ := a0
  change Spec _ _ ([Value.agg #[.string a0_1, .string a0_2, (TL.hdr a0_3)]] : List Value).toArray w [] _
  refine Spec.intro Tryz.func45 rfl Tryz.ntmps45 rfl ?_
  unfold s_l15Snap at hp
  replace hp := dd hp
  refine s2 ?_
  refine bx fun bk1 => ?_
  refine s4 ?_
  replace hp := ba hp; obtain ⟨y1, hy1, hp⟩ := hp
  replace hp := gb_any hp; obtain ⟨y2, hy2, hp⟩ := hp
  replace hp := gb_any hp; obtain ⟨y3, hy3, hp⟩ := hp
  refine W_D0 [25] mix (by kernel_rfl) rfl ?_
  refine s2 ?_
  refine D_callX GC.none fn44.h (OpVs.cons (OpV.t rfl) (OpVs.nil)) (by exact fun hg w F hF hM => s_l4Word_walk w a0_1  _ hy1) ?_
  refine s8 ?_
  refine D_callX (GC.some rfl rfl) fn44.h (OpVs.cons (OpV.s rfl) (OpVs.nil)) (by exact fun hg w F hF hM => s_l4Word_walk w a0_2  _ (hy2 (gand (gnot hg.1.2) hg.2))) ?_
  refine s6 ?_
  refine D_lenP (X := a0_3) (GC.some rfl rfl) (OpV.s rfl) el32.h ?_
  refine D_callX (GC.some rfl rfl) fn40.h (OpVs.cons (OpV.s rfl) (OpVs.cons OpV.c (OpVs.cons OpV.c (OpVs.nil)))) (by exact fun hg w F hF hM => s_l1In_walk w ((GT.dat a0_3).length : Int) 1 4  _ (hy3 (gnot hg.2))) ?_
  refine s20 ?_
  refine s6 ?_
  refine kp [1, 25] ?_
  refine W_cond rfl (fun hc4 => ?_) (fun hc4 => ?_)
  · replace hp := cond_t hc4 hp
    refine s4 ?_
    obtain rfl := Option.some.inj hp
    refine s1 ?_
    refine res1 rfl (ResOK.tmp rfl) ⟨rfl, rfl⟩ ms
  · replace hp := cond_f hc4 hp
    refine s7 ?_
    refine W_while (σ := Int) GT.dat (fun (v5_0 : Int) => [(3, .int .i64 v5_0)]) (fun (v5_0 : Int) => []) [(1, _)] [blk bk1 _ _] 0 hp sb ms ?_
    clear hp
    rintro v5_0 x5 hp hx5
    replace hp := dd hp
    refine kq [1, 3] ?_
    refine s9 ?_
    refine kp [1, 3, 30] ?_
    refine W_cond rfl (fun hc6 => ?_) (fun hc6 => ?_)
    · replace hp := cond_t hc6 hp
      refine s8 ?_
      replace hp := idx_bind hp; obtain ⟨u7, hy7, hp⟩ := hp
      refine L_idxA (X := a0_3) rfl rfl rfl el32.h (RdT.old h0.2.2) hy7 ?_
      refine L_load0 rfl rfl (RdT.at (RdT.old h0.2.2) (hy7).2) one9.h rfl ?_
      refine s3 ?_
      refine kp [1, 3, 39] ?_
      refine W_cond rfl (fun hc8 => ?_) (fun hc8 => ?_)
      · replace hp := cond_t hc8 hp
        refine s4 ?_
        replace hp := map_any hp; obtain ⟨a9, hp, hx_a9⟩ := hp
        obtain rfl := hx5 _ hx_a9
        obtain rfl := Option.some.inj hp
        refine s1 ?_
        refine res1 rfl (ResOK.tmp rfl) ⟨rfl, rfl⟩ ms
      · replace hp := cond_f hc8 hp
        refine s6 ?_
        exact ⟨IntKind.wrap .i64 (v5_0 + 1), sb, (.sub ms), some_eq hp⟩
    · replace hp := cond_f hc6 hp
      refine W_exit ?_
      replace hp := map_any hp; obtain ⟨a10, hp, hx_a10⟩ := hp
      obtain rfl := hx5 _ hx_a10
      refine s4 ?_
      obtain rfl := Option.some.inj hp
      refine s1 ?_
      refine res1 rfl (ResOK.tmp rfl) ⟨rfl, rfl⟩ ms
noncomputable def s_l15Find (a0 : D_CSet) (a1 : ByteArray) : Option Int :=
  whileP (fun s1 : Int => cond (decide (s1 < (a0.2.length : Int))) (Option.bind (idx a0.2 s1) (fun y3 => cond (decide (y3.1 = a1)) (Option.map .inr (some s1)) (some (.inl (IntKind.wrap .i64 (s1 + 1)))))) (Option.map .inr (some (-1)))) 0
theorem s_l15Find_walk (w : World) (a0 : T_CSet) (a1 : ByteArray) (h0 : GT.rd w [] a0) (r : Int) (hp : s_l15Find (GT.dat a0) a1 = some r) : Spec Tryz.prog 46 [.agg (GT.cells a0).toArray, .string a1].toArray w [] (IsV (.int .i64 r)) := by
  obtain ⟨a0_1, a0_2⟩ := a0
  change Spec _ _ ([Value.agg #[.string a0_1, (TL.hdr a0_2)], .string a1] : List Value).toArray w [] _
  refine Spec.intro Tryz.func46 rfl Tryz.ntmps46 rfl ?_
  unfold s_l15Find at hp
  replace hp := dd hp
  refine s2 ?_
  refine bx fun bk2 => ?_
  refine s8 ?_
  refine W_while (σ := Int) GT.dat (fun (v1_0 : Int) => [(5, .int .i64 v1_0)]) (fun (v1_0 : Int) => []) [(1, _), (2, _)] [blk bk2 _ _] 0 hp sb ms ?_
  clear hp
  rintro v1_0 x1 hp hx1
  replace hp := dd hp
  refine kq [1, 2, 5] ?_
  refine s9 ?_
  refine kp [1, 2, 5, 10] ?_
  refine W_cond rfl (fun hc2 => ?_) (fun hc2 => ?_)
  · replace hp := cond_t hc2 hp
    refine s8 ?_
    replace hp := idx_bind hp; obtain ⟨⟨u3_1, u3_2, u3_3⟩, hy3, hp⟩ := hp
    refine L_idxA (X := a0_2) rfl rfl rfl el67.h (RdT.old h0.2) hy3 ?_
    refine s1 ?_
    refine L_load rfl rfl (RdT.at (RdT.old h0.2) (hy3).2) one9.h rfl ?_
    refine s3 ?_
    refine kp [1, 2, 5, 20] ?_
    refine W_cond rfl (fun hc4 => ?_) (fun hc4 => ?_)
    · replace hp := cond_t hc4 hp
      refine s5 ?_
      replace hp := map_any hp; obtain ⟨a5, hp, hx_a5⟩ := hp
      obtain rfl := hx1 _ hx_a5
      obtain rfl := Option.some.inj hp
      refine s1 ?_
      refine res1 rfl (ResOK.tmp rfl) ⟨rfl, rfl⟩ ms
    · replace hp := cond_f hc4 hp
      refine s6 ?_
      exact ⟨IntKind.wrap .i64 (v1_0 + 1), sb, (.sub ms), some_eq hp⟩
  · replace hp := cond_f hc2 hp
    refine W_exit ?_
    replace hp := map_any hp; obtain ⟨a6, hp, hx_a6⟩ := hp
    obtain rfl := hx1 _ hx_a6
    refine s4 ?_
    obtain rfl := Option.some.inj hp
    refine s1 ?_
    refine res1 rfl (ResOK.tmp rfl) ⟨rfl, rfl⟩ ms
noncomputable def s_CatOk (a0 : D_Catalog) : Option Bool :=
  cond (decide (5 < (a0.length : Int))) (some false) (whileP (fun s2 : Int => cond (decide (s2 < (a0.length : Int))) (Option.bind (idx a0 s2) (fun y4 => Option.bind (s_l4Word y4.1) (fun y5 => gb ((!(!y5)) && (decide (0 < s2))) (idx a0 (IntKind.wrap .i64 (s2 - 1))) (fun y6 => cond (((!y5) || ((decide (0 < s2)) && (!sLt y6.1 y4.1))) || (decide (5 < (y4.2.length : Int)))) (Option.map .inr (some false)) (whileP (fun s9 : Int => cond (decide (s9 < (y4.2.length : Int))) (Option.bind (idx y4.2 s9) (fun y11 => Option.bind (s_l15Snap (y11.1, y11.2.1, y11.2.2)) (fun y12 => gb (!(!y12)) (idx y4.2 s9) (fun y13 => gb (!(!y12)) (s_l15Find (y4.1, y4.2) y13.1) (fun y14 => cond ((!y12) || (!decide (y14 = s9))) (Option.map .inr (Option.map .inr (some false))) (some (.inl (IntKind.wrap .i64 (s9 + 1))))))))) (Option.map .inr (some (.inl (IntKind.wrap .i64 (s2 + 1)))))) 0))))) (Option.map .inr (some true))) 0)
theorem s_CatOk_walk (w : World) (a0 : T_Catalog) (h0 : GT.rd w [] a0) (r : Bool) (hp : s_CatOk (GT.dat a0) = some r) : Spec Tryz.prog 17 [.agg (GT.cells a0).toArray].toArray w [] (IsV (.bool r)) := by
  change Spec _ _ ([Value.agg #[(TL.hdr a0)]] : List Value).toArray w [] _
  refine Spec.intro Tryz.func17 rfl Tryz.ntmps17 rfl ?_
  unfold s_CatOk at hp
  replace hp := dd hp
  refine s2 ?_
  refine bx fun bk1 => ?_
  refine s10 ?_
  refine kp [1, 9] ?_
  refine W_cond rfl (fun hc1 => ?_) (fun hc1 => ?_)
  · replace hp := cond_t hc1 hp
    refine s4 ?_
    obtain rfl := Option.some.inj hp
    refine s1 ?_
    refine res1 rfl (ResOK.tmp rfl) ⟨rfl, rfl⟩ ms
  · replace hp := cond_f hc1 hp
    refine s7 ?_
    refine W_while (σ := Int) GT.dat (fun (v2_0 : Int) => [(3, .int .i64 v2_0)]) (fun (v2_0 : Int) => []) [(1, _)] [blk bk1 _ _] 0 hp sb ms ?_
    clear hp
    rintro v2_0 x2 hp hx2
    replace hp := dd hp
    refine kq [1, 3] ?_
    refine s9 ?_
    refine kp [1, 3, 14] ?_
    refine W_cond rfl (fun hc3 => ?_) (fun hc3 => ?_)
    · replace hp := cond_t hc3 hp
      refine s8 ?_
      replace hp := idx_bind hp; obtain ⟨⟨u4_1, u4_2⟩, hy4, hp⟩ := hp
      refine L_idxA (X := a0) rfl rfl rfl el24.h (RdT.old h0) hy4 ?_
      refine L_loadW rfl rfl (RdT.at (RdT.old h0) (hy4).2) (by exact agg69.h) ?_
      refine al fun bk4 => ?_
      refine s4 ?_
      replace hp := ba hp; obtain ⟨y5, hy5, hp⟩ := hp
      replace hp := idx_gb hp; obtain ⟨⟨u6_1, u6_2⟩, hy6, hp⟩ := hp
      refine W_D0 [47] mix (by kernel_rfl) rfl ?_
      refine s2 ?_
      refine D_callX GC.none fn44.h (OpVs.cons (OpV.t rfl) (OpVs.nil)) (by exact fun hg w F hF hM => s_l4Word_walk w u4_1  _ hy5) ?_
      refine s9 ?_
      refine D_idxA (X := a0) (GC.some rfl rfl) (OpV.s rfl) (OpV.s rfl) el24.h (RdT.old h0) (fun hg => hy6 (gand (gnot hg.1.2) hg.2)) ?_
      refine s1 ?_
      refine D_load (GC.some rfl rfl) (OpV.s rfl) (fun hg => RdT.at (RdT.old h0) (hy6 (gand (gnot hg.1.2) hg.2)).2) one9.h rfl ?_
      refine s8 ?_
      refine D_lenP (X := u4_2) (GC.some rfl rfl) (OpV.s rfl) el67.h ?_
      refine s20 ?_
      refine s10 ?_
      refine kp [1, 3, 4, 47] ?_
      refine W_cond rfl (fun hc7 => ?_) (fun hc7 => ?_)
      · replace hp := cond_t hc7 hp
        refine s4 ?_
        replace hp := map_any hp; obtain ⟨a8, hp, hx_a8⟩ := hp
        obtain rfl := hx2 _ hx_a8
        obtain rfl := Option.some.inj hp
        refine s1 ?_
        refine res1 rfl (ResOK.tmp rfl) ⟨rfl, rfl⟩ ms
      · replace hp := cond_f hc7 hp
        refine s6 ?_
        refine W_while (σ := Int) GT.dat (fun (v9_0 : Int) => [(5, .int .i64 v9_0)]) (fun (v9_0 : Int) => []) [(1, _), (3, _), (4, _)] [blk bk1 _ _, blk bk4 _ _] 0 hp sb ms ?_
        clear hp
        rintro v9_0 x9 hp hx9
        replace hp := dd hp
        refine kq [1, 3, 4, 5] ?_
        refine s9 ?_
        refine kp [1, 3, 4, 5, 52] ?_
        refine W_cond rfl (fun hc10 => ?_) (fun hc10 => ?_)
        · replace hp := cond_t hc10 hp
          refine s4 ?_
          replace hp := idx_bind hp; obtain ⟨⟨u11_1, u11_2, u11_3⟩, hy11, hp⟩ := hp
          replace hp := ba hp; obtain ⟨y12, hy12, hp⟩ := hp
          replace hp := idx_gb hp; obtain ⟨⟨u13_1, u13_2, u13_3⟩, hy13, hp⟩ := hp
          replace hp := gb_any hp; obtain ⟨y14, hy14, hp⟩ := hp
          refine W_D0 [73] mix (by kernel_rfl) rfl ?_
          refine s3 ?_
          refine D_idxA (X := u4_2) GC.none (OpV.t rfl) (OpV.t rfl) el67.h (RdT.snd (RdT.of (RdT.old h0) (hy4).2)) (fun _ => hy11) ?_
          refine D_loadW GC.none (OpV.t rfl) (fun hg => RdT.at (RdT.snd (RdT.of (RdT.old h0) (hy4).2)) (hy11).2) (by exact agg71.h) ?_
          refine D_callX GC.none fn45.h (OpVs.cons (OpV.t rfl) (OpVs.nil)) (by exact fun hg w F hF hM => s_l15Snap_walk w (u11_1, u11_2, u11_3) (RdT.nowS (RdT.pair RdT.str (RdT.pair RdT.str (RdT.snd (RdT.snd (RdT.of (RdT.snd (RdT.of (RdT.old h0) (hy4).2)) (hy11).2))))) hF hM) _ hy12) ?_
          refine s6 ?_
          refine D_idxA (X := u4_2) (GC.some rfl rfl) (OpV.s rfl) (OpV.s rfl) el67.h (RdT.snd (RdT.of (RdT.old h0) (hy4).2)) (fun hg => hy13 (gnot hg.2)) ?_
          refine s1 ?_
          refine D_load (GC.some rfl rfl) (OpV.s rfl) (fun hg => RdT.at (RdT.snd (RdT.of (RdT.old h0) (hy4).2)) (hy13 (gnot hg.2)).2) one9.h rfl ?_
          refine D_callX (GC.some rfl rfl) fn46.h (OpVs.cons (OpV.s rfl) (OpVs.cons (OpV.s rfl) (OpVs.nil))) (by exact fun hg w F hF hM => s_l15Find_walk w (u4_1, u4_2) u13_1 (RdT.nowS (RdT.pair RdT.str (RdT.snd (RdT.of (RdT.old h0) (hy4).2))) hF hM) _ (hy14 (gnot hg.2))) ?_
          refine s20 ?_
          refine s4 ?_
          refine kp [1, 3, 4, 5, 73] ?_
          refine W_cond rfl (fun hc15 => ?_) (fun hc15 => ?_)
          · replace hp := cond_t hc15 hp
            refine s4 ?_
            replace hp := map_any hp; obtain ⟨a16, hp, hx_a16⟩ := hp
            obtain rfl := hx9 _ hx_a16
            replace hp := map_any hp; obtain ⟨a17, hp, hx_a17⟩ := hp
            obtain rfl := hx2 _ hx_a17
            obtain rfl := Option.some.inj hp
            refine s1 ?_
            refine res1 rfl (ResOK.tmp rfl) ⟨rfl, rfl⟩ ms
          · replace hp := cond_f hc15 hp
            refine s6 ?_
            exact ⟨IntKind.wrap .i64 (v9_0 + 1), sb, (.sub ms), some_eq hp⟩
        · replace hp := cond_f hc10 hp
          refine W_exit ?_
          replace hp := map_any hp; obtain ⟨a18, hp, hx_a18⟩ := hp
          obtain rfl := hx9 _ hx_a18
          refine s5 ?_
          exact ⟨IntKind.wrap .i64 (v2_0 + 1), sb, (.sub ms), some_eq hp⟩
    · replace hp := cond_f hc3 hp
      refine W_exit ?_
      replace hp := map_any hp; obtain ⟨a19, hp, hx_a19⟩ := hp
      obtain rfl := hx2 _ hx_a19
      refine s4 ?_
      obtain rfl := Option.some.inj hp
      refine s1 ?_
      refine res1 rfl (ResOK.tmp rfl) ⟨rfl, rfl⟩ ms
noncomputable def s_l15Copy (a0 : D_Catalog) : Option D_Catalog :=
  whileP (fun s1 : Int × (List D_CSet) => cond (decide (s1.1 < (a0.length : Int))) (Option.bind (idx a0 s1.1) (fun y3 => whileP (fun s4 : Int × (List D_CSnap) => Option.bind (idx a0 s1.1) (fun y5 => cond (decide (s4.1 < (y5.2.length : Int))) (Option.bind (idx a0 s1.1) (fun y7 => Option.bind (idx y7.2 s4.1) (fun y8 => Option.bind (some ([] : List ByteArray)) (fun y10 => Option.bind (appP y10 y8.2.2) (fun y12 => Option.bind (appP s4.2 [(y8.1, y8.2.1, y12)]) (fun y14 => some (.inl ((IntKind.wrap .i64 (s4.1 + 1), y14))))))))) (Option.map .inr (Option.bind (appP s1.2 [(y3.1, s4.2)]) (fun y17 => some (.inl ((IntKind.wrap .i64 (s1.1 + 1), y17)))))))) (0, ([] : List D_CSnap)))) (Option.map .inr (some s1.2))) (0, ([] : List D_CSet))
theorem s_l15Copy_walk (w : World) (a0 : T_Catalog) (h0 : GT.rd w [] a0) (r : D_Catalog) (hp : s_l15Copy (GT.dat a0) = some r) : Spec Tryz.prog 88 [.agg (GT.cells a0).toArray].toArray w [] (fun v M => ∃ (x0 : T_Catalog), v = .agg (GT.cells x0).toArray ∧ GT.dat x0 = r ∧ M = [treeH x0]) := by
  change Spec _ _ ([Value.agg #[(TL.hdr a0)]] : List Value).toArray w [] _
  refine Spec.intro Tryz.func88 rfl Tryz.ntmps88 rfl ?_
  unfold s_l15Copy at hp
  replace hp := dd hp
  refine s2 ?_
  refine bx fun bk1 => ?_
  refine al fun bk2 => ?_
  refine s3 ?_
  refine L_build (xs := []) (cs := [(TL.hdr (TL.nil T_CSet 0))]) rfl rfl bld26.h rfl ?_
  refine al fun bk3 => ?_
  refine s8 ?_
  refine W_conv (M' := treeH (TL.nil T_CSet 0) :: _) (fun w h => addNilT (τ := T_CSet) 0 h) ?_
  refine W_while (σ := Int × (TL T_CSet)) GT.dat (fun ((v1_0, v1_1) : Int × (TL T_CSet)) => [(4, .int .i64 v1_0)]) (fun ((v1_0, v1_1) : Int × (TL T_CSet)) => [blk bk3 [(TL.hdr v1_1)] 26, treeH v1_1]) [(1, _), (2, _), (3, _)] [blk bk1 _ _, blk bk2 _ _] (0, (TL.nil T_CSet 0)) hp sb ms ?_
  clear hp
  rintro ⟨v1_0, v1_1⟩ x1 hp hx1
  replace hp := dd hp
  refine kq [1, 2, 3, 4] ?_
  refine s9 ?_
  refine kp [1, 2, 3, 4, 13] ?_
  refine W_cond rfl (fun hc2 => ?_) (fun hc2 => ?_)
  · replace hp := cond_t hc2 hp
    refine s8 ?_
    replace hp := idx_bind hp; obtain ⟨⟨u3_1, u3_2⟩, hy3, hp⟩ := hp
    refine L_idxA (X := a0) rfl rfl rfl el24.h (RdT.old h0) hy3 ?_
    refine s1 ?_
    refine L_load rfl rfl (RdT.at (RdT.old h0) (hy3).2) one9.h rfl ?_
    refine L_build (xs := [(0, .tmp 21)]) (cs := [.string u3_1, (TL.hdr (TL.nil T_CSnap 0))]) rfl rfl bld69.h rfl ?_
    refine al fun bk5 => ?_
    refine s8 ?_
    refine W_conv (M' := treeH (TL.nil T_CSnap 0) :: _) (fun w h => addNilT (τ := T_CSnap) 0 h) ?_
    refine W_while (σ := Int × (TL T_CSnap)) GT.dat (fun ((v4_0, v4_1) : Int × (TL T_CSnap)) => [(6, .int .i64 v4_0)]) (fun ((v4_0, v4_1) : Int × (TL T_CSnap)) => [blk bk5 [.string u3_1, (TL.hdr v4_1)] 69, treeH v4_1]) [(1, _), (2, _), (3, _), (4, _), (5, _)] [blk bk1 _ _, blk bk2 _ _, blk bk3 _ _, treeH v1_1] (0, (TL.nil T_CSnap 0)) hp sb ms ?_
    clear hp
    rintro ⟨v4_0, v4_1⟩ x4 hp hx4
    replace hp := dd hp
    refine kq [1, 2, 3, 4, 5, 6] ?_
    refine s7 ?_
    replace hp := idx_bind hp; obtain ⟨u5, hy5, hp⟩ := hp
    obtain rfl : (u3_1, u3_2) = u5 := Option.some.inj (hy3.2.symm.trans hy5.2)
    refine L_idxA (X := a0) rfl rfl rfl el24.h (RdT.old h0) hy3 ?_
    refine s1 ?_
    refine L_load rfl rfl (RdT.at (RdT.old h0) (hy3).2) one67.h rfl ?_
    refine s3 ?_
    refine kp [1, 2, 3, 4, 5, 6, 31] ?_
    refine W_cond rfl (fun hc6 => ?_) (fun hc6 => ?_)
    · replace hp := cond_t hc6 hp
      refine s8 ?_
      replace hp := idx_bind hp; obtain ⟨u7, hy7, hp⟩ := hp
      obtain rfl : (u3_1, u3_2) = u7 := Option.some.inj (hy3.2.symm.trans hy7.2)
      refine L_idxA (X := a0) rfl rfl rfl el24.h (RdT.old h0) hy3 ?_
      refine s1 ?_
      refine L_load rfl rfl (RdT.at (RdT.old h0) (hy3).2) one67.h rfl ?_
      refine s1 ?_
      replace hp := idx_bind hp; obtain ⟨⟨u8_1, u8_2, u8_3⟩, hy8, hp⟩ := hp
      refine L_idxA (X := u3_2) rfl rfl rfl el67.h (RdT.snd (RdT.of (RdT.old h0) (hy3).2)) hy8 ?_
      refine L_loadW rfl rfl (RdT.at (RdT.snd (RdT.of (RdT.old h0) (hy3).2)) (hy8).2) (by exact agg71.h) ?_
      refine al fun bk7 => ?_
      refine s4 ?_
      replace hp := ba hp; obtain ⟨y10, hy10, hp⟩ := hp
      refine L_mk0 ByteArray rfl el32.h (fun X9 hdX9 => ?_)
      obtain rfl : GT.dat X9 = y10 := hdX9.trans (Option.some.inj hy10)
      clear hy10 hdX9
      refine s2 ?_
      replace hp := ba hp; obtain ⟨y12, hy12, hp⟩ := hp
      refine L_appT (X := X9) (Y := u8_3) rfl rfl rfl el32.h rfl rfl pk (RdT.snd (RdT.snd (RdT.of (RdT.snd (RdT.of (RdT.old h0) (hy3).2)) (hy8).2))) hy12 (by decide) (fun X11 hdX11 => ?_)
      subst hdX11
      refine s7 ?_
      refine L_buildSlice1 rfl rfl el67.h rfl (by decide) (by decide) rfl (fun bb51 => ?_)
      replace hp := ba hp; obtain ⟨y14, hy14, hp⟩ := hp
      refine jL ((u8_1, u8_2, X11) : T_CSnap) ?_
      refine L_app1 (X := v4_1) ((u8_1, u8_2, X11) : T_CSnap) rfl rfl rfl el67.h rfl rfl pk mm pk hy14 (by decide) (fun X13 hdX13 => ?_)
      subst hdX13
      refine s8 ?_
      exact ⟨(IntKind.wrap .i64 (v4_0 + 1), X13), sb, (.sub ms), some_eq hp⟩
    · replace hp := cond_f hc6 hp
      refine W_exit ?_
      replace hp := map_any hp; obtain ⟨a15, hp, hx_a15⟩ := hp
      obtain rfl := hx4 _ hx_a15
      refine s4 ?_
      refine L_buildSlice1 rfl rfl el24.h rfl (by decide) (by decide) rfl (fun bb57 => ?_)
      replace hp := ba hp; obtain ⟨y17, hy17, hp⟩ := hp
      refine jL ((u3_1, v4_1) : T_CSet) ?_
      refine L_app1 (X := v1_1) ((u3_1, v4_1) : T_CSet) rfl rfl rfl el24.h rfl rfl pk mm pk hy17 (by decide) (fun X16 hdX16 => ?_)
      subst hdX16
      refine s8 ?_
      exact ⟨(IntKind.wrap .i64 (v1_0 + 1), X16), sb, (.sub ms), some_eq hp⟩
  · replace hp := cond_f hc2 hp
    refine W_exit ?_
    replace hp := map_any hp; obtain ⟨a18, hp, hx_a18⟩ := hp
    obtain rfl := hx1 _ hx_a18
    refine s5 ?_
    obtain rfl := Option.some.inj hp
    refine s1 ?_
    refine res1 rfl (ResOK.cell rfl mm (by exact agg26.h)) ⟨v1_1, rfl, rfl, rfl⟩ ms
noncomputable def s_l15At (a0 : D_Catalog) (a1 : ByteArray) : Option Int :=
  whileP (fun s1 : Int => cond (decide (s1 < (a0.length : Int))) (Option.bind (idx a0 s1) (fun y3 => cond (decide (y3.1 = a1)) (Option.map .inr (some s1)) (some (.inl (IntKind.wrap .i64 (s1 + 1)))))) (Option.map .inr (some (-1)))) 0
theorem s_l15At_walk (w : World) (a0 : T_Catalog) (a1 : ByteArray) (h0 : GT.rd w [] a0) (r : Int) (hp : s_l15At (GT.dat a0) a1 = some r) : Spec Tryz.prog 91 [.agg (GT.cells a0).toArray, .string a1].toArray w [] (IsV (.int .i64 r)) := by
  change Spec _ _ ([Value.agg #[(TL.hdr a0)], .string a1] : List Value).toArray w [] _
  refine Spec.intro Tryz.func91 rfl Tryz.ntmps91 rfl ?_
  unfold s_l15At at hp
  replace hp := dd hp
  refine s2 ?_
  refine bx fun bk2 => ?_
  refine s8 ?_
  refine W_while (σ := Int) GT.dat (fun (v1_0 : Int) => [(5, .int .i64 v1_0)]) (fun (v1_0 : Int) => []) [(1, _), (2, _)] [blk bk2 _ _] 0 hp sb ms ?_
  clear hp
  rintro v1_0 x1 hp hx1
  replace hp := dd hp
  refine kq [1, 2, 5] ?_
  refine s9 ?_
  refine kp [1, 2, 5, 10] ?_
  refine W_cond rfl (fun hc2 => ?_) (fun hc2 => ?_)
  · replace hp := cond_t hc2 hp
    refine s8 ?_
    replace hp := idx_bind hp; obtain ⟨⟨u3_1, u3_2⟩, hy3, hp⟩ := hp
    refine L_idxA (X := a0) rfl rfl rfl el24.h (RdT.old h0) hy3 ?_
    refine s1 ?_
    refine L_load rfl rfl (RdT.at (RdT.old h0) (hy3).2) one9.h rfl ?_
    refine s3 ?_
    refine kp [1, 2, 5, 20] ?_
    refine W_cond rfl (fun hc4 => ?_) (fun hc4 => ?_)
    · replace hp := cond_t hc4 hp
      refine s5 ?_
      replace hp := map_any hp; obtain ⟨a5, hp, hx_a5⟩ := hp
      obtain rfl := hx1 _ hx_a5
      obtain rfl := Option.some.inj hp
      refine s1 ?_
      refine res1 rfl (ResOK.tmp rfl) ⟨rfl, rfl⟩ ms
    · replace hp := cond_f hc4 hp
      refine s6 ?_
      exact ⟨IntKind.wrap .i64 (v1_0 + 1), sb, (.sub ms), some_eq hp⟩
  · replace hp := cond_f hc2 hp
    refine W_exit ?_
    replace hp := map_any hp; obtain ⟨a6, hp, hx_a6⟩ := hp
    obtain rfl := hx1 _ hx_a6
    refine s4 ?_
    obtain rfl := Option.some.inj hp
    refine s1 ?_
    refine res1 rfl (ResOK.tmp rfl) ⟨rfl, rfl⟩ ms
noncomputable def s_l15Create (a0 : D_Catalog) (a1 : ByteArray) : Option (D_Catalog × ByteArray) :=
  Option.bind (s_l15At a0 a1) (fun y1 => cond (decide (0 ≤ y1)) (some (a0, (ByteArray.mk #[101, 120, 105, 115, 116, 115]))) (cond (decide (5 ≤ (a0.length : Int))) (some (a0, (ByteArray.mk #[102, 117, 108, 108]))) (Option.bind (some ([] : List D_CSet)) (fun y5 => whileP (fun s6 : (List D_CSet) × Bool × Int => cond (decide (s6.2.2 < (a0.length : Int))) (gb (!s6.2.1) (idx a0 s6.2.2) (fun y8 => cond ((!s6.2.1) && (!sLt y8.1 a1 && !decide (y8.1 = a1))) (Option.bind (appP s6.1 [(a1, ([] : List D_CSnap))]) (fun y11 => Option.bind (idx a0 s6.2.2) (fun y12 => Option.bind (appP y11 [(y12.1, y12.2)]) (fun y14 => some (.inl ((y14, true, IntKind.wrap .i64 (s6.2.2 + 1)))))))) (Option.bind (idx a0 s6.2.2) (fun y15 => Option.bind (appP s6.1 [(y15.1, y15.2)]) (fun y17 => some (.inl ((y17, s6.2.1, IntKind.wrap .i64 (s6.2.2 + 1))))))))) (Option.map .inr (cond (!s6.2.1) (Option.bind (appP s6.1 [(a1, ([] : List D_CSnap))]) (fun y21 => some (y21, (ByteArray.mk #[111, 107])))) (some (s6.1, (ByteArray.mk #[111, 107])))))) (y5, false, 0)))))
theorem s_l15Create_walk (w : World) (a0 : T_Catalog) (a1 : ByteArray)  (r : D_Catalog × ByteArray) (hp : s_l15Create (GT.dat a0) a1 = some r) : Spec Tryz.prog 90 [.agg (GT.cells a0).toArray, .string a1].toArray w [treeH a0] (fun v M => ∃ (x0 : T_Catalog) (x1 : ByteArray), v = .tuple #[.agg (GT.cells x0).toArray, .string x1] ∧ (GT.dat x0, GT.dat x1) = r ∧ M = [treeH x0]) := by
  change Spec _ _ ([Value.agg #[(TL.hdr a0)], .string a1] : List Value).toArray w _ _
  refine Spec.intro Tryz.func90 rfl Tryz.ntmps90 rfl ?_
  unfold s_l15Create at hp
  replace hp := dd hp
  refine s2 ?_
  refine bx fun bk2 => ?_
  refine al fun bk4 => ?_
  refine s7 ?_
  replace hp := ba hp; obtain ⟨y1, hy1, hp⟩ := hp
  refine L_callX rfl fn91.h rfl (by exact fun w hw => s_l15At_walk w a0 a1 (RdT.now (RdT.tree mm) hw) _ hy1) ?_
  refine s2 ?_
  refine kp [1, 2, 4, 12] ?_
  refine W_cond rfl (fun hc2 => ?_) (fun hc2 => ?_)
  · replace hp := cond_t hc2 hp
    refine s6 ?_
    obtain rfl := Option.some.inj hp
    refine s1 ?_
    refine res2 rfl (ResOK.cell rfl mm (by exact agg26.h)) (ResOK.tmp rfl) ⟨a0, (ByteArray.mk #[101, 120, 105, 115, 116, 115]), rfl, rfl, rfl⟩ ms
  · replace hp := cond_f hc2 hp
    refine s9 ?_
    refine kp [1, 2, 4, 17] ?_
    refine W_cond rfl (fun hc3 => ?_) (fun hc3 => ?_)
    · replace hp := cond_t hc3 hp
      refine s6 ?_
      obtain rfl := Option.some.inj hp
      refine s1 ?_
      refine res2 rfl (ResOK.cell rfl mm (by exact agg26.h)) (ResOK.tmp rfl) ⟨a0, (ByteArray.mk #[102, 117, 108, 108]), rfl, rfl, rfl⟩ ms
    · replace hp := cond_f hc3 hp
      refine s3 ?_
      replace hp := ba hp; obtain ⟨y5, hy5, hp⟩ := hp
      refine L_mk0 T_CSet rfl el24.h (fun X4 hdX4 => ?_)
      obtain rfl : GT.dat X4 = y5 := hdX4.trans (Option.some.inj hy5)
      clear hy5 hdX4
      refine s12 ?_
      refine W_conv (M' := rowH a0 :: elsT (a0.els.drop 0) :: _) (fun w h => els_start pk h) ?_
      refine W_while (σ := (TL T_CSet) × Bool × Int) GT.dat (fun ((v6_0, v6_1, v6_2) : (TL T_CSet) × Bool × Int) => [(6, (TL.hdr v6_0)), (7, .bool v6_1), (8, .int .i64 v6_2)]) (fun ((v6_0, v6_1, v6_2) : (TL T_CSet) × Bool × Int) => [treeH v6_0, elsT (a0.els.drop (v6_2.toNat))]) [(1, _), (2, _), (4, _)] [blk bk2 _ _, blk bk4 _ _, rowH a0] (X4, false, 0) hp sb ms ?_
      clear hp
      rintro ⟨v6_0, v6_1, v6_2⟩ x6 hp hx6
      replace hp := dd hp
      refine kq [1, 2, 4, 6, 7, 8] ?_
      refine s9 ?_
      refine kp [1, 2, 4, 6, 7, 8, 24] ?_
      refine W_cond rfl (fun hc7 => ?_) (fun hc7 => ?_)
      · replace hp := cond_t hc7 hp
        refine s5 ?_
        replace hp := idx_gb hp; obtain ⟨⟨u8_1, u8_2⟩, hy8, hp⟩ := hp
        refine W_D0 [38] mix (by kernel_rfl) rfl ?_
        refine s6 ?_
        refine D_idxR (X := a0) (GC.some rfl rfl) (OpV.s rfl) (OpV.s rfl) el24.h mm (fun hg => hy8 hg.2) ?_
        refine s1 ?_
        refine D_load (GC.some rfl rfl) (OpV.s rfl) (fun hg => RdC.row (X := a0) mm (hy8 hg.2).2) one9.h rfl ?_
        refine s17 ?_
        refine kp [1, 2, 4, 6, 7, 8, 38] ?_
        refine W_cond rfl (fun hc9 => ?_) (fun hc9 => ?_)
        · replace hp := cond_t hc9 hp
          refine s4 ?_
          refine L_build (xs := [(0, .tmp 40)]) (cs := [.string a1, (TL.hdr (TL.nil T_CSnap 0))]) rfl rfl bld69.h rfl ?_
          refine L_buildSlice1 rfl rfl el24.h rfl (by decide) (by decide) rfl (fun bb42 => ?_)
          replace hp := ba hp; obtain ⟨y11, hy11, hp⟩ := hp
          refine L_conv (M' := treeH (TL.nil T_CSnap 0) :: _) (fun w h => addNilT (τ := T_CSnap) 0 h) ?_
          refine jL ((a1, (TL.nil T_CSnap 0)) : T_CSet) ?_
          refine L_app1 (X := v6_0) ((a1, (TL.nil T_CSnap 0)) : T_CSet) rfl rfl rfl el24.h rfl rfl pk mm pk hy11 (by decide) (fun X10 hdX10 => ?_)
          subst hdX10
          refine s10 ?_
          replace hp := idx_bind hp; obtain ⟨⟨u12_1, u12_2⟩, hy12, hp⟩ := hp
          refine L_idxR (X := a0) rfl rfl rfl el24.h mm hy12 ?_
          refine L_conv (M' := treeH (u12_1, u12_2) :: elsT (a0.els.drop (v6_2.toNat + 1)) :: _) (fun w h => els_next hy12.2 pk h) ?_
          refine xL ((u12_1, u12_2) : T_CSet) ?_
          refine L_loadW rfl rfl (RdC.row (X := a0) mm hy12.2) (by exact agg69.h) ?_
          refine L_buildSlice1 rfl rfl el24.h rfl (by decide) (by decide) rfl (fun bb50 => ?_)
          replace hp := ba hp; obtain ⟨y14, hy14, hp⟩ := hp
          refine jL ((u12_1, u12_2) : T_CSet) ?_
          refine L_app1 (X := X10) ((u12_1, u12_2) : T_CSet) rfl rfl rfl el24.h rfl rfl pk mm pk hy14 (by decide) (fun X13 hdX13 => ?_)
          subst hdX13
          refine s7 ?_
          exact ⟨(X13, true, IntKind.wrap .i64 (v6_2 + 1)), sb, ⟨_, fun w h => (els_step hy12 mm pk h), ms⟩, some_eq hp⟩
        · replace hp := cond_f hc9 hp
          refine s6 ?_
          replace hp := idx_bind hp; obtain ⟨⟨u15_1, u15_2⟩, hy15, hp⟩ := hp
          refine L_idxR (X := a0) rfl rfl rfl el24.h mm hy15 ?_
          refine L_conv (M' := treeH (u15_1, u15_2) :: elsT (a0.els.drop (v6_2.toNat + 1)) :: _) (fun w h => els_next hy15.2 pk h) ?_
          refine xL ((u15_1, u15_2) : T_CSet) ?_
          refine L_loadW rfl rfl (RdC.row (X := a0) mm hy15.2) (by exact agg69.h) ?_
          refine L_buildSlice1 rfl rfl el24.h rfl (by decide) (by decide) rfl (fun bb50 => ?_)
          replace hp := ba hp; obtain ⟨y17, hy17, hp⟩ := hp
          refine jL ((u15_1, u15_2) : T_CSet) ?_
          refine L_app1 (X := v6_0) ((u15_1, u15_2) : T_CSet) rfl rfl rfl el24.h rfl rfl pk mm pk hy17 (by decide) (fun X16 hdX16 => ?_)
          subst hdX16
          refine s7 ?_
          exact ⟨(X16, v6_1, IntKind.wrap .i64 (v6_2 + 1)), sb, ⟨_, fun w h => (els_step hy15 mm pk h), ms⟩, some_eq hp⟩
      · replace hp := cond_f hc7 hp
        refine W_exit ?_
        replace hp := map_any hp; obtain ⟨a18, hp, hx_a18⟩ := hp
        obtain rfl := hx6 _ hx_a18
        refine s6 ?_
        refine kp [1, 2, 4, 6, 53] ?_
        refine W_cond rfl (fun hc19 => ?_) (fun hc19 => ?_)
        · replace hp := cond_t hc19 hp
          refine s3 ?_
          refine L_build (xs := [(0, .tmp 55)]) (cs := [.string a1, (TL.hdr (TL.nil T_CSnap 0))]) rfl rfl bld69.h rfl ?_
          refine L_buildSlice1 rfl rfl el24.h rfl (by decide) (by decide) rfl (fun bb57 => ?_)
          replace hp := ba hp; obtain ⟨y21, hy21, hp⟩ := hp
          refine L_conv (M' := treeH (TL.nil T_CSnap 0) :: _) (fun w h => addNilT (τ := T_CSnap) 0 h) ?_
          refine jL ((a1, (TL.nil T_CSnap 0)) : T_CSet) ?_
          refine L_app1 (X := v6_0) ((a1, (TL.nil T_CSnap 0)) : T_CSet) rfl rfl rfl el24.h rfl rfl pk mm pk hy21 (by decide) (fun X20 hdX20 => ?_)
          subst hdX20
          refine s14 ?_
          obtain rfl := Option.some.inj hp
          refine s1 ?_
          refine res2 rfl (ResOK.cell rfl mm (by exact agg26.h)) (ResOK.tmp rfl) ⟨X20, (ByteArray.mk #[111, 107]), rfl, rfl, rfl⟩ ms
        · replace hp := cond_f hc19 hp
          refine s13 ?_
          obtain rfl := Option.some.inj hp
          refine s1 ?_
          refine res2 rfl (ResOK.cell rfl mm (by exact agg26.h)) (ResOK.tmp rfl) ⟨v6_0, (ByteArray.mk #[111, 107]), rfl, rfl, rfl⟩ ms
noncomputable def s_l15Prune (a0 : List D_CSnap) (a1 : Int) : Option ((List D_CSnap) × Int) :=
  whileP (fun s1 : Int × Int => cond (decide (s1.2 < (a0.length : Int))) (Option.bind (idx a0 s1.2) (fun y3 => cond (decide (y3.2.1 = ByteArray.empty)) (some (.inl ((IntKind.wrap .i64 (s1.1 + 1), IntKind.wrap .i64 (s1.2 + 1))))) (some (.inl ((s1.1, IntKind.wrap .i64 (s1.2 + 1))))))) (Option.map .inr (Option.bind (some ([] : List D_CSnap)) (fun y7 => whileP (fun s8 : Int × (List D_CSnap) × Int => cond (decide (s8.2.2 < (a0.length : Int))) (Option.bind (idx a0 s8.2.2) (fun y10 => cond (decide (y10.2.1 = ByteArray.empty)) (cond (decide (a1 ≤ IntKind.wrap .i64 (s8.1 - 1))) (some (.inl ((IntKind.wrap .i64 (s8.1 - 1), s8.2.1, IntKind.wrap .i64 (s8.2.2 + 1))))) (Option.bind (idx a0 s8.2.2) (fun y13 => Option.bind (appP s8.2.1 [(y13.1, y13.2.1, y13.2.2)]) (fun y15 => some (.inl ((IntKind.wrap .i64 (s8.1 - 1), y15, IntKind.wrap .i64 (s8.2.2 + 1)))))))) (Option.bind (idx a0 s8.2.2) (fun y16 => Option.bind (appP s8.2.1 [(y16.1, y16.2.1, y16.2.2)]) (fun y18 => some (.inl ((s8.1, y18, IntKind.wrap .i64 (s8.2.2 + 1))))))))) (Option.map .inr (some (s8.2.1, IntKind.wrap .i64 ((a0.length : Int) - (s8.2.1.length : Int)))))) (s1.1, y7, 0))))) (0, 0)
theorem s_l15Prune_walk (w : World) (a0 : TL T_CSnap) (a1 : Int)  (r : (List D_CSnap) × Int) (hp : s_l15Prune (GT.dat a0) a1 = some r) : Spec Tryz.prog 119 [(TL.hdr a0), .int .i64 a1].toArray w [treeH a0] (fun v M => ∃ (x0 : TL T_CSnap) (x1 : Int), v = .tuple #[(TL.hdr x0), .int .i64 x1] ∧ (GT.dat x0, GT.dat x1) = r ∧ M = [treeH x0]) := by
  refine Spec.intro Tryz.func119 rfl Tryz.ntmps119 rfl ?_
  unfold s_l15Prune at hp
  replace hp := dd hp
  refine s2 ?_
  refine L_assign (v := (TL.hdr (TL.nil T_CSnap 0))) rfl rfl ?_
  refine s12 ?_
  refine W_while (σ := Int × Int) GT.dat (fun ((v1_0, v1_1) : Int × Int) => [(6, .int .i64 v1_0), (7, .int .i64 v1_1)]) (fun ((v1_0, v1_1) : Int × Int) => []) [(0, _), (1, _)] [treeH a0] (0, 0) hp sb ms ?_
  clear hp
  rintro ⟨v1_0, v1_1⟩ x1 hp hx1
  replace hp := dd hp
  refine kq [0, 1, 6, 7] ?_
  refine s8 ?_
  refine kp [0, 1, 6, 7, 13] ?_
  refine W_cond rfl (fun hc2 => ?_) (fun hc2 => ?_)
  · replace hp := cond_t hc2 hp
    refine s7 ?_
    replace hp := idx_bind hp; obtain ⟨⟨u3_1, u3_2, u3_3⟩, hy3, hp⟩ := hp
    refine L_idxA (X := a0) rfl rfl rfl el67.h (RdT.tree mm) hy3 ?_
    refine s1 ?_
    refine L_load rfl rfl (RdT.at (RdT.tree mm) (hy3).2) one9.h rfl ?_
    refine s2 ?_
    refine kp [0, 1, 6, 7, 21] ?_
    refine W_cond rfl (fun hc4 => ?_) (fun hc4 => ?_)
    · replace hp := cond_t hc4 hp
      refine s10 ?_
      exact ⟨(IntKind.wrap .i64 (v1_0 + 1), IntKind.wrap .i64 (v1_1 + 1)), sb, (.sub ms), some_eq hp⟩
    · replace hp := cond_f hc4 hp
      refine s6 ?_
      exact ⟨(v1_0, IntKind.wrap .i64 (v1_1 + 1)), sb, (.sub ms), some_eq hp⟩
  · replace hp := cond_f hc2 hp
    refine W_exit ?_
    replace hp := map_any hp; obtain ⟨a5, hp, hx_a5⟩ := hp
    obtain rfl := hx1 _ hx_a5
    refine s2 ?_
    replace hp := ba hp; obtain ⟨y7, hy7, hp⟩ := hp
    refine L_mk0 T_CSnap rfl el67.h (fun X6 hdX6 => ?_)
    obtain rfl : GT.dat X6 = y7 := hdX6.trans (Option.some.inj hy7)
    clear hy7 hdX6
    refine s8 ?_
    refine W_conv (M' := rowH a0 :: elsT (a0.els.drop 0) :: _) (fun w h => els_start pk h) ?_
    refine W_while (σ := Int × (TL T_CSnap) × Int) GT.dat (fun ((v8_0, v8_1, v8_2) : Int × (TL T_CSnap) × Int) => [(6, .int .i64 v8_0), (8, (TL.hdr v8_1)), (9, .int .i64 v8_2)]) (fun ((v8_0, v8_1, v8_2) : Int × (TL T_CSnap) × Int) => [treeH v8_1, elsT (a0.els.drop (v8_2.toNat))]) [(0, _), (1, _)] [rowH a0] (v1_0, X6, 0) hp sb ms ?_
    clear hp
    rintro ⟨v8_0, v8_1, v8_2⟩ x8 hp hx8
    replace hp := dd hp
    refine kq [0, 1, 6, 8, 9] ?_
    refine s8 ?_
    refine kp [0, 1, 6, 8, 9, 28] ?_
    refine W_cond rfl (fun hc9 => ?_) (fun hc9 => ?_)
    · replace hp := cond_t hc9 hp
      refine s8 ?_
      replace hp := idx_bind hp; obtain ⟨⟨u10_1, u10_2, u10_3⟩, hy10, hp⟩ := hp
      refine L_idxR (X := a0) rfl rfl rfl el67.h mm hy10 ?_
      refine s1 ?_
      refine L_load rfl rfl (RdC.row (X := a0) mm (hy10).2) one9.h rfl ?_
      refine s2 ?_
      refine kp [0, 1, 6, 8, 9, 36] ?_
      refine W_cond rfl (fun hc11 => ?_) (fun hc11 => ?_)
      · replace hp := cond_t hc11 hp
        refine s12 ?_
        refine kp [0, 1, 6, 8, 9, 41] ?_
        refine W_cond rfl (fun hc12 => ?_) (fun hc12 => ?_)
        · replace hp := cond_t hc12 hp
          refine W_exit ?_
          refine s5 ?_
          exact ⟨(IntKind.wrap .i64 (v8_0 - 1), v8_1, IntKind.wrap .i64 (v8_2 + 1)), sb, ⟨_, fun w h => (els_skip hy10 mm pk h), ms⟩, some_eq hp⟩
        · replace hp := cond_f hc12 hp
          refine s5 ?_
          replace hp := idx_bind hp; obtain ⟨u13, hy13, hp⟩ := hp
          obtain rfl : (u10_1, u10_2, u10_3) = u13 := Option.some.inj (hy10.2.symm.trans hy13.2)
          refine L_idxR (X := a0) rfl rfl rfl el67.h mm hy10 ?_
          refine L_conv (M' := treeH (u10_1, u10_2, u10_3) :: elsT (a0.els.drop (v8_2.toNat + 1)) :: _) (fun w h => els_next hy10.2 pk h) ?_
          refine xL ((u10_1, u10_2, u10_3) : T_CSnap) ?_
          refine L_loadW rfl rfl (RdC.row (X := a0) mm hy10.2) (by exact agg71.h) ?_
          refine L_buildSlice1 rfl rfl el67.h rfl (by decide) (by decide) rfl (fun bb47 => ?_)
          replace hp := ba hp; obtain ⟨y15, hy15, hp⟩ := hp
          refine jL ((u10_1, u10_2, u10_3) : T_CSnap) ?_
          refine L_app1 (X := v8_1) ((u10_1, u10_2, u10_3) : T_CSnap) rfl rfl rfl el67.h rfl rfl pk mm pk hy15 (by decide) (fun X14 hdX14 => ?_)
          subst hdX14
          refine s7 ?_
          exact ⟨(IntKind.wrap .i64 (v8_0 - 1), X14, IntKind.wrap .i64 (v8_2 + 1)), sb, ⟨_, fun w h => (els_step hy10 mm pk h), ms⟩, some_eq hp⟩
      · replace hp := cond_f hc11 hp
        refine s5 ?_
        replace hp := idx_bind hp; obtain ⟨u16, hy16, hp⟩ := hp
        obtain rfl : (u10_1, u10_2, u10_3) = u16 := Option.some.inj (hy10.2.symm.trans hy16.2)
        refine L_idxR (X := a0) rfl rfl rfl el67.h mm hy10 ?_
        refine L_conv (M' := treeH (u10_1, u10_2, u10_3) :: elsT (a0.els.drop (v8_2.toNat + 1)) :: _) (fun w h => els_next hy10.2 pk h) ?_
        refine xL ((u10_1, u10_2, u10_3) : T_CSnap) ?_
        refine L_loadW rfl rfl (RdC.row (X := a0) mm hy10.2) (by exact agg71.h) ?_
        refine L_buildSlice1 rfl rfl el67.h rfl (by decide) (by decide) rfl (fun bb47 => ?_)
        replace hp := ba hp; obtain ⟨y18, hy18, hp⟩ := hp
        refine jL ((u10_1, u10_2, u10_3) : T_CSnap) ?_
        refine L_app1 (X := v8_1) ((u10_1, u10_2, u10_3) : T_CSnap) rfl rfl rfl el67.h rfl rfl pk mm pk hy18 (by decide) (fun X17 hdX17 => ?_)
        subst hdX17
        refine s7 ?_
        exact ⟨(v8_0, X17, IntKind.wrap .i64 (v8_2 + 1)), sb, ⟨_, fun w h => (els_step hy10 mm pk h), ms⟩, some_eq hp⟩
    · replace hp := cond_f hc9 hp
      refine W_exit ?_
      replace hp := map_any hp; obtain ⟨a19, hp, hx_a19⟩ := hp
      obtain rfl := hx8 _ hx_a19
      refine s11 ?_
      obtain rfl := Option.some.inj hp
      refine s1 ?_
      refine res2 rfl (ResOK.tmp rfl) (ResOK.tmp rfl) ⟨v8_1, IntKind.wrap .i64 (((GT.dat a0).length : Int) - ((GT.dat v8_1).length : Int)), rfl, rfl, rfl⟩ ms
noncomputable def s_Dec (a0 : Int) : Option ByteArray :=
  cond (decide (a0 = 0)) (some (ByteArray.mk #[48])) (whileP (fun s2 : Int × ByteArray => cond (!decide (s2.1 = 0)) (cond (decide ((s2.1).tmod 10 < 0)) (Option.bind (u8P (IntKind.wrap .u8 (IntKind.wrap .i64 (48 + IntKind.wrap .i64 (-((s2.1).tmod 10)))))) (fun y5 => Option.bind (some ([y5] : List UInt8)) (fun y6 => Option.bind (catP (strP y6) s2.2) (fun y8 => some (.inl ((IntKind.wrap .i64 ((s2.1).tdiv 10), y8))))))) (Option.bind (u8P (IntKind.wrap .u8 (IntKind.wrap .i64 (48 + (s2.1).tmod 10)))) (fun y9 => Option.bind (some ([y9] : List UInt8)) (fun y10 => Option.bind (catP (strP y10) s2.2) (fun y12 => some (.inl ((IntKind.wrap .i64 ((s2.1).tdiv 10), y12)))))))) (Option.map .inr (cond (decide (a0 < 0)) (Option.bind (catP (ByteArray.mk #[45]) s2.2) (fun y15 => some y15)) (some s2.2)))) (a0, ByteArray.empty))
theorem s_Dec_walk (w : World) (a0 : Int)  (r : ByteArray) (hp : s_Dec a0 = some r) : Spec Tryz.prog 120 [.int .i64 a0].toArray w [] (IsV (.string r)) := by
  refine Spec.intro Tryz.func120 rfl Tryz.ntmps120 rfl ?_
  unfold s_Dec at hp
  replace hp := dd hp
  refine s10 ?_
  refine kp [0, 7] ?_
  refine W_cond rfl (fun hc1 => ?_) (fun hc1 => ?_)
  · replace hp := cond_t hc1 hp
    refine s4 ?_
    obtain rfl := Option.some.inj hp
    refine s1 ?_
    refine res1 rfl (ResOK.tmp rfl) ⟨rfl, rfl⟩ ms
  · replace hp := cond_f hc1 hp
    refine s13 ?_
    refine W_while (σ := Int × ByteArray) GT.dat (fun ((v2_0, v2_1) : Int × ByteArray) => [(0, .int .i64 v2_0), (3, .string v2_1)]) (fun ((v2_0, v2_1) : Int × ByteArray) => []) [(4, _)] [] (a0, ByteArray.empty) hp sb ms ?_
    clear hp
    rintro ⟨v2_0, v2_1⟩ x2 hp hx2
    replace hp := dd hp
    refine kq [0, 3, 4] ?_
    refine s6 ?_
    refine kp [0, 3, 4, 11] ?_
    refine W_cond rfl (fun hc3 => ?_) (fun hc3 => ?_)
    · replace hp := cond_t hc3 hp
      refine s14 ?_
      refine kp [0, 3, 4, 5, 15] ?_
      refine W_cond rfl (fun hc4 => ?_) (fun hc4 => ?_)
      · replace hp := cond_t hc4 hp
        refine s2 ?_
        refine L_negW rfl rfl ?_
        refine s6 ?_
        refine L_convInt rfl rfl und5.h (by rw [und3.h]; rfl) ?_
        replace hp := ba hp; obtain ⟨y5, hy5, hp⟩ := hp
        have ey5 := u8P_some hy5
        try simp only [dat_u8] at ey5
        try simp only [ey5]
        replace hp := ba hp; obtain ⟨y6, hy6, hp⟩ := hp
        refine L_bsN ([y5] : List UInt8) (xs := [(0, .tmp 20)]) rfl rfl el22.h rfl rfl rfl rfl rfl rfl rfl hy6 (fun X7 hdX7 => ?_)
        subst hdX7
        refine L_toStr (X := X7) rfl rfl und22.h und5.h und9.h (RdT.tree mm) ?_
        refine s1 ?_
        replace hp := ba hp; obtain ⟨y8, hy8, hp⟩ := hp
        refine L_binV rfl rfl rfl (bv_saddP hy8) ?_
        refine s7 ?_
        exact ⟨(IntKind.wrap .i64 ((v2_0).tdiv 10), y8), sb, (.sub ms), some_eq hp⟩
      · replace hp := cond_f hc4 hp
        refine s5 ?_
        refine L_convInt rfl rfl und5.h (by rw [und3.h]; rfl) ?_
        replace hp := ba hp; obtain ⟨y9, hy9, hp⟩ := hp
        have ey9 := u8P_some hy9
        try simp only [dat_u8] at ey9
        try simp only [ey9]
        replace hp := ba hp; obtain ⟨y10, hy10, hp⟩ := hp
        refine L_bsN ([y9] : List UInt8) (xs := [(0, .tmp 20)]) rfl rfl el22.h rfl rfl rfl rfl rfl rfl rfl hy10 (fun X11 hdX11 => ?_)
        subst hdX11
        refine L_toStr (X := X11) rfl rfl und22.h und5.h und9.h (RdT.tree mm) ?_
        refine s1 ?_
        replace hp := ba hp; obtain ⟨y12, hy12, hp⟩ := hp
        refine L_binV rfl rfl rfl (bv_saddP hy12) ?_
        refine s7 ?_
        exact ⟨(IntKind.wrap .i64 ((v2_0).tdiv 10), y12), sb, (.sub ms), some_eq hp⟩
    · replace hp := cond_f hc3 hp
      refine W_exit ?_
      replace hp := map_any hp; obtain ⟨a13, hp, hx_a13⟩ := hp
      obtain rfl := hx2 _ hx_a13
      refine s5 ?_
      refine kp [3, 27] ?_
      refine W_cond rfl (fun hc14 => ?_) (fun hc14 => ?_)
      · replace hp := cond_t hc14 hp
        refine s3 ?_
        replace hp := ba hp; obtain ⟨y15, hy15, hp⟩ := hp
        refine L_binV rfl rfl rfl (bv_saddP hy15) ?_
        refine s2 ?_
        obtain rfl := Option.some.inj hp
        refine s1 ?_
        refine res1 rfl (ResOK.tmp rfl) ⟨rfl, rfl⟩ ms
      · replace hp := cond_f hc14 hp
        refine s6 ?_
        obtain rfl := Option.some.inj hp
        refine s1 ?_
        refine res1 rfl (ResOK.tmp rfl) ⟨rfl, rfl⟩ ms
noncomputable def s_l15Read (a0 : D_CSet) : Option ByteArray :=
  whileP (fun s1 : ByteArray × Int => cond (decide (s1.2 < (a0.2.length : Int))) (jbind (cond (decide (0 < s1.2)) (Option.bind (catP s1.1 (ByteArray.mk #[32])) (fun y5 => some (.inl (y5)))) (some (.inl (s1.1)))) (fun s3 : ByteArray => Option.bind (idx a0.2 s1.2) (fun y6 => Option.bind (catP s3 y6.1) (fun y7 => Option.bind (catP y7 (ByteArray.mk #[58])) (fun y8 => Option.bind (idx a0.2 s1.2) (fun y9 => Option.bind (catP y8 y9.2.1) (fun y10 => some (.inl ((y10, IntKind.wrap .i64 (s1.2 + 1))))))))))) (Option.map .inr (some s1.1))) (ByteArray.empty, 0)
theorem s_l15Read_walk (w : World) (a0 : T_CSet) (h0 : GT.rd w [] a0) (r : ByteArray) (hp : s_l15Read (GT.dat a0) = some r) : Spec Tryz.prog 121 [.agg (GT.cells a0).toArray].toArray w [] (IsV (.string r)) := by
  obtain ⟨a0_1, a0_2⟩ := a0
  change Spec _ _ ([Value.agg #[.string a0_1, (TL.hdr a0_2)]] : List Value).toArray w [] _
  refine Spec.intro Tryz.func121 rfl Tryz.ntmps121 rfl ?_
  unfold s_l15Read at hp
  replace hp := dd hp
  refine s2 ?_
  refine bx fun bk1 => ?_
  refine s12 ?_
  refine W_while (σ := ByteArray × Int) GT.dat (fun ((v1_0, v1_1) : ByteArray × Int) => [(3, .string v1_0), (4, .int .i64 v1_1)]) (fun ((v1_0, v1_1) : ByteArray × Int) => []) [(1, _)] [blk bk1 _ _] (ByteArray.empty, 0) hp sb ms ?_
  clear hp
  rintro ⟨v1_0, v1_1⟩ x1 hp hx1
  replace hp := dd hp
  refine kq [1, 3, 4] ?_
  refine s9 ?_
  refine kp [1, 3, 4, 9] ?_
  refine W_cond rfl (fun hc2 => ?_) (fun hc2 => ?_)
  · replace hp := cond_t hc2 hp
    refine s3 ?_
    refine W_jn (σ := ByteArray) GT.dat (fun (v3_0 : ByteArray) => [(3, .string v3_0)]) (fun (v3_0 : ByteArray) => []) [(1, .pointer (some ⟨bk1, 0, none⟩)), (4, .int .i64 v1_1)] [blk bk1 [.string a0_1, (TL.hdr a0_2)] 69] hp ?_ ?_
    · clear hp
      intro x3 hp hx3
      refine s5 ?_
      refine kp [1, 3, 4, 13] ?_
      refine W_cond rfl (fun hc4 => ?_) (fun hc4 => ?_)
      · replace hp := cond_t hc4 hp
        refine s2 ?_
        replace hp := ba hp; obtain ⟨y5, hy5, hp⟩ := hp
        refine L_binV rfl rfl rfl (bv_saddP hy5) ?_
        refine s2 ?_
        exact ⟨y5, sb, (.sub ms), some_eq hp⟩
      · replace hp := cond_f hc4 hp
        refine s1 ?_
        exact ⟨v1_0, sb, (.sub ms), some_eq hp⟩
    · clear hp
      rintro v3_0 hp
      replace hp := dd hp
      refine kq [1, 3, 4] ?_
      replace hp := idx_bind hp; obtain ⟨⟨u6_1, u6_2, u6_3⟩, hy6, hp⟩ := hp
      replace hp := ba hp; obtain ⟨y7, hy7, hp⟩ := hp
      replace hp := ba hp; obtain ⟨y8, hy8, hp⟩ := hp
      replace hp := idx_bind hp; obtain ⟨u9, hy9, hp⟩ := hp
      obtain rfl : (u6_1, u6_2, u6_3) = u9 := Option.some.inj (hy6.2.symm.trans hy9.2)
      replace hp := ba hp; obtain ⟨y10, hy10, hp⟩ := hp
      refine W_D0 [3] mix (by kernel_rfl) rfl ?_
      refine s4 ?_
      refine D_idxA (X := a0_2) GC.none (OpV.t rfl) (OpV.t rfl) el67.h (RdT.old h0.2) (fun _ => hy6) ?_
      refine s1 ?_
      refine D_load GC.none (OpV.t rfl) (fun hg => RdT.at (RdT.old h0.2) (hy6).2) one9.h rfl ?_
      refine D_bin GC.none (OpV.t rfl) (OpV.t rfl) (fun hg => (bv_saddP hy7)) ?_
      refine D_bin GC.none (OpV.t rfl) OpV.c (fun hg => (bv_saddP hy8)) ?_
      refine s3 ?_
      refine D_idxA (X := a0_2) GC.none (OpV.t rfl) (OpV.t rfl) el67.h (RdT.old h0.2) (fun _ => hy6) ?_
      refine s1 ?_
      refine D_load GC.none (OpV.t rfl) (fun hg => RdT.at (RdT.old h0.2) (hy6).2) one9.h rfl ?_
      refine D_bin GC.none (OpV.t rfl) (OpV.t rfl) (fun hg => (bv_saddP hy10)) ?_
      refine s20 ?_
      refine s5 ?_
      exact ⟨(y10, IntKind.wrap .i64 (v1_1 + 1)), sb, (.sub ms), some_eq hp⟩
  · replace hp := cond_f hc2 hp
    refine W_exit ?_
    replace hp := map_any hp; obtain ⟨a11, hp, hx_a11⟩ := hp
    obtain rfl := hx1 _ hx_a11
    refine s5 ?_
    obtain rfl := Option.some.inj hp
    refine s1 ?_
    refine res1 rfl (ResOK.tmp rfl) ⟨rfl, rfl⟩ ms
noncomputable def s_l15Set (a0 : D_Catalog) (a1 : Int) (a2 : D_Cmd) : Option (D_Catalog × ByteArray) :=
  Option.bind (idx a0 a1) (fun y1 => Option.bind (s_l15Find (y1.1, y1.2) a2.2.2.2.2.1) (fun y2 => cond (decide (a2.1 = 2)) (Option.bind (some ([] : List D_CSet)) (fun y5 => Option.bind (slcP a0 (0 : Int) a1) (fun y6 => Option.bind (chkP (decide (0 ≤ ((0 : Int)).toNat))) (fun y9 => Option.bind (appP y5 y6) (fun y10 => Option.bind (slcP a0 (IntKind.wrap .i64 (a1 + 1)) (a0.length : Int)) (fun y11 => Option.bind (chkP (decide ((a1).toNat ≤ (IntKind.wrap .i64 (a1 + 1)).toNat))) (fun y14 => Option.bind (appP y10 y11) (fun y15 => some (y15, (ByteArray.mk #[111, 107])))))))))) (cond (decide (a2.1 = 3)) (cond (decide (0 ≤ y2)) (some (a0, (ByteArray.mk #[101, 120, 105, 115, 116, 115]))) (cond (decide (5 ≤ (y1.2.length : Int))) (some (a0, (ByteArray.mk #[102, 117, 108, 108]))) (Option.bind (some ([] : List D_CSnap)) (fun y20 => Option.bind (appP y20 y1.2) (fun y22 => Option.bind (some ([] : List ByteArray)) (fun y23 => Option.bind (appP ([] : List ByteArray) a2.2.2.2.2.2.2.2) (fun y25 => Option.bind (appP y22 [(a2.2.2.2.2.1, ByteArray.empty, y25)]) (fun y27 => Option.bind (idx a0 a1) (fun y29 => Option.bind (some (a0.set (a1.toNat) (y1.1, y27))) (fun y30 => some (y30, (ByteArray.mk #[111, 107])))))))))))) (cond (decide (a2.1 = 4)) (cond (decide (y2 < 0)) (some (a0, (ByteArray.mk #[110, 111, 110, 101]))) (Option.bind (idx a0 a1) (fun y34 => Option.bind (idx y34.2 y2) (fun y35 => Option.bind (some (y34.2.set (y2.toNat) (y35.1, a2.2.2.2.2.2.1, y35.2.2))) (fun y36 => Option.bind (some (a0.set (a1.toNat) (y34.1, y36))) (fun y38 => some (y38, (ByteArray.mk #[111, 107])))))))) (cond (decide (a2.1 = 5)) (Option.bind (s_l15Prune y1.2 a2.2.2.2.2.2.2.1) (fun y41 => Option.bind (idx a0 a1) (fun y42 => Option.bind (some (a0.set (a1.toNat) (y1.1, y41.1))) (fun y43 => Option.bind (s_Dec y41.2) (fun y45 => some (y43, y45)))))) (Option.bind (s_l15Read (y1.1, y1.2)) (fun y46 => some (a0, y46))))))))
theorem s_l15Set_walk (w : World) (a0 : T_Catalog) (a1 : Int) (a2 : T_Cmd) (h2 : GT.rd w (fps [treeH a0]) a2) (r : D_Catalog × ByteArray) (hp : s_l15Set (GT.dat a0) a1 (GT.dat a2) = some r) : Spec Tryz.prog 92 [.agg (GT.cells a0).toArray, .int .i64 a1, .agg (GT.cells a2).toArray].toArray w [treeH a0] (fun v M => ∃ (x0 : T_Catalog) (x1 : ByteArray), v = .tuple #[.agg (GT.cells x0).toArray, .string x1] ∧ (GT.dat x0, GT.dat x1) = r ∧ M = [treeH x0]) := by
  obtain ⟨a2_1, a2_2, a2_3, a2_4, a2_5, a2_6, a2_7, a2_8⟩ := a2
  change Spec _ _ ([Value.agg #[(TL.hdr a0)], .int .i64 a1, Value.agg #[.int .i64 a2_1, .int .i64 a2_2, .int .i64 a2_3, .string a2_4, .string a2_5, .string a2_6, .int .i64 a2_7, (TL.hdr a2_8)]] : List Value).toArray w _ _
  refine Spec.intro Tryz.func92 rfl Tryz.ntmps92 rfl ?_
  unfold s_l15Set at hp
  replace hp := dd hp
  refine s2 ?_
  refine bx fun bk3 => ?_
  refine bx fun bk5 => ?_
  refine al fun bk6 => ?_
  refine s7 ?_
  replace hp := idx_bind hp; obtain ⟨⟨u1_1, u1_2⟩, hy1, hp⟩ := hp
  refine L_idxA (X := a0) rfl rfl rfl el24.h (RdT.tree mm) hy1 ?_
  refine L_loadW rfl rfl (RdT.at (RdT.tree mm) (hy1).2) (by exact agg69.h) ?_
  refine al fun bk8 => ?_
  refine s7 ?_
  replace hp := ba hp; obtain ⟨y2, hy2, hp⟩ := hp
  refine L_callX rfl fn46.h rfl (by exact fun w hw => s_l15Find_walk w (u1_1, u1_2) a2_5 (RdT.now (RdT.pair RdT.str (RdT.snd (RdT.of (RdT.tree mm) (hy1).2))) hw) _ hy2) ?_
  refine s14 ?_
  refine kp [1, 3, 5, 6, 8, 9, 24, 25] ?_
  refine W_cond rfl (fun hc3 => ?_) (fun hc3 => ?_)
  · replace hp := cond_t hc3 hp
    refine s2 ?_
    replace hp := ba hp; obtain ⟨y5, hy5, hp⟩ := hp
    refine L_mk0 T_CSet rfl el24.h (fun X4 hdX4 => ?_)
    obtain rfl : GT.dat X4 = y5 := hdX4.trans (Option.some.inj hy5)
    clear hy5 hdX4
    refine s3 ?_
    refine L_conv (M' := rowH a0 :: elsT (a0.els.drop 0) :: _) (fun w h => els_start pk h) ?_
    replace hp := ba hp; obtain ⟨y6, hy6, hp⟩ := hp
    refine L_slM (X := a0) rfl rfl rfl rfl el24.h rfl mm hy6 (fun X7 hdX7 heX7 => ?_)
    have hsX7 := hy6
    subst hdX7
    replace hp := ba hp; obtain ⟨y9, hy9, hp⟩ := hp
    replace hp := ba hp; obtain ⟨y10, hy10, hp⟩ := hp
    refine L_appM (X := X4) (V := a0) (Y := X7) rfl rfl rfl el24.h rfl rfl pk heX7 hsX7 mm pk hy9 hy10 (by decide) (fun X8 hdX8 => ?_)
    subst hdX8
    refine s9 ?_
    replace hp := ba hp; obtain ⟨y11, hy11, hp⟩ := hp
    refine L_slM (X := a0) rfl rfl rfl rfl el24.h rfl mm hy11 (fun X12 hdX12 heX12 => ?_)
    have hsX12 := hy11
    subst hdX12
    replace hp := ba hp; obtain ⟨y14, hy14, hp⟩ := hp
    replace hp := ba hp; obtain ⟨y15, hy15, hp⟩ := hp
    refine L_appM (X := X8) (V := a0) (Y := X12) rfl rfl rfl el24.h rfl rfl pk heX12 hsX12 mm pk hy14 hy15 (by decide) (fun X13 hdX13 => ?_)
    subst hdX13
    refine s9 ?_
    obtain rfl := Option.some.inj hp
    refine s1 ?_
    refine res2 rfl (ResOK.cell rfl mm (by exact agg26.h)) (ResOK.tmp rfl) ⟨X13, (ByteArray.mk #[111, 107]), rfl, rfl, rfl⟩ ms
  · replace hp := cond_f hc3 hp
    refine s5 ?_
    refine kp [1, 3, 5, 6, 8, 9, 24, 42] ?_
    refine W_cond rfl (fun hc16 => ?_) (fun hc16 => ?_)
    · replace hp := cond_t hc16 hp
      refine s6 ?_
      refine kp [1, 3, 5, 6, 8, 45] ?_
      refine W_cond rfl (fun hc17 => ?_) (fun hc17 => ?_)
      · replace hp := cond_t hc17 hp
        refine s6 ?_
        obtain rfl := Option.some.inj hp
        refine s1 ?_
        refine res2 rfl (ResOK.cell rfl mm (by exact agg26.h)) (ResOK.tmp rfl) ⟨a0, (ByteArray.mk #[101, 120, 105, 115, 116, 115]), rfl, rfl, rfl⟩ ms
      · replace hp := cond_f hc17 hp
        refine s9 ?_
        refine kp [1, 3, 5, 6, 8, 50] ?_
        refine W_cond rfl (fun hc18 => ?_) (fun hc18 => ?_)
        · replace hp := cond_t hc18 hp
          refine s6 ?_
          obtain rfl := Option.some.inj hp
          refine s1 ?_
          refine res2 rfl (ResOK.cell rfl mm (by exact agg26.h)) (ResOK.tmp rfl) ⟨a0, (ByteArray.mk #[102, 117, 108, 108]), rfl, rfl, rfl⟩ ms
        · replace hp := cond_f hc18 hp
          refine s3 ?_
          replace hp := ba hp; obtain ⟨y20, hy20, hp⟩ := hp
          refine L_mk0 T_CSnap rfl el67.h (fun X19 hdX19 => ?_)
          obtain rfl : GT.dat X19 = y20 := hdX19.trans (Option.some.inj hy20)
          clear hy20 hdX19
          refine s2 ?_
          refine L_conv (M' := treeH (u1_1, u1_2) :: holeH a0 (a1.toNat) (GT.cells (u1_1, u1_2)) :: _) (fun w h => hole_open hy1.2 pk h) ?_
          refine xL ((u1_1, u1_2) : T_CSet) ?_
          replace hp := ba hp; obtain ⟨y22, hy22, hp⟩ := hp
          refine L_appAll (X := X19) (Y := u1_2) rfl rfl rfl el67.h rfl rfl pk pk hy22 (by decide) (fun X21 hdX21 => ?_)
          subst hdX21
          refine s3 ?_
          replace hp := ba hp; obtain ⟨y23, hy23, hp⟩ := hp
          obtain rfl := Option.some.inj hy23
          replace hp := ba hp; obtain ⟨y25, hy25, hp⟩ := hp
          replace hp := ba hp; obtain ⟨y27, hy27, hp⟩ := hp
          refine W_DS (pre := [_, _, _, _, _, _, _, _, _, _, _, _, _]) (suf := [_, _, _]) [57, 58, 68] [treeH X21] _ pc mix (by kernel_rfl) (by kernel_rfl) rfl ?_
          refine s6 ?_
          refine D_mk0 ByteArray el32.h ?_
          refine s2 ?_
          refine D_appTO (Y := a2_8) (t := 62) rfl (OpV.t rfl) el32.h rfl rfl (RdT.old h2.2.2.2.2.2.2.2) hy25 (by decide) (by kernel_rfl) ?_
          refine D_buildO (τ := ByteArray) (t := 65) (xs := [(0, .tmp 61), (2, .tmp 65)]) (ps := fun u => [(0, .string a2_5), (2, u)]) (cs := fun u => [.string a2_5, .string ByteArray.empty, u]) rfl (fun u => (OpVp.cons (OpV.t rfl) (OpVp.cons (OpV.t rfl) (OpVp.nil)))) bld71.h (fun X => rfl) (by kernel_rfl) ?_
          refine D_bs1O (t := 66) rfl el67.h rfl (by decide) (by decide) (fun X => rfl) (by kernel_rfl) ?_
          refine D_app1O (X := X21) (t := 67) (fun Y => ((a2_5, ByteArray.empty, Y) : T_CSnap)) _ (OpV.t rfl) rfl el67.h rfl rfl (fun Y => rfl) (fun Y => by first | rfl | exact List.append_nil _) (fun w Y h => by repeat (first | exact h | exact trivial | exact (flat_nil _).ow _ | constructor)) (fun Y h => by subst h; rfl) pk hy27 (by decide) (by kernel_rfl) ?_
          refine s1 ?_
          refine Give_R rfl rfl ?_
          rintro _ _ ⟨X28, rfl, rfl, rfl⟩
          simp only [List.cons_append, List.nil_append]
          refine s13 ?_
          replace hp := idx_bind hp; obtain ⟨u29, hy29, hp⟩ := hp
          obtain rfl : (u1_1, u1_2) = u29 := Option.some.inj (hy1.2.symm.trans hy29.2)
          refine L_idxH (X := a0) (cs := _) rfl rfl rfl el24.h mm hy1 ?_
          refine s1 ?_
          refine L_stH (X := a0) (i := a1.toNat) (sz := 2) (fo := 1) (n := 1) rfl rfl pk rfl (.inr ⟨one67.h, rfl⟩) rfl (allOne rfl) (Nat.le_of_ble_eq_true rfl) ?_
          refine jL ((u1_1, X28) : T_CSet) ?_
          replace hp := ba hp; obtain ⟨y30, hy30, hp⟩ := hp
          refine L_close (X := a0) ((u1_1, X28) : T_CSet) rfl pk pk hy30 (fun X31 hdX31 hhX31 => ?_)
          subst hdX31
          try rw [← hhX31]
          try rw [← g_of_hdr hhX31]
          try rw [← o_of_hdr hhX31]
          refine s7 ?_
          obtain rfl := Option.some.inj hp
          refine s1 ?_
          refine res2 rfl (ResOK.cell rfl mm (by exact agg26.h)) (ResOK.tmp rfl) ⟨X31, (ByteArray.mk #[111, 107]), rfl, rfl, rfl⟩ ms
    · replace hp := cond_f hc16 hp
      refine s5 ?_
      refine kp [1, 3, 5, 6, 8, 9, 24, 72] ?_
      refine W_cond rfl (fun hc32 => ?_) (fun hc32 => ?_)
      · replace hp := cond_t hc32 hp
        refine s6 ?_
        refine kp [1, 3, 5, 6, 9, 75] ?_
        refine W_cond rfl (fun hc33 => ?_) (fun hc33 => ?_)
        · replace hp := cond_t hc33 hp
          refine s6 ?_
          obtain rfl := Option.some.inj hp
          refine s1 ?_
          refine res2 rfl (ResOK.cell rfl mm (by exact agg26.h)) (ResOK.tmp rfl) ⟨a0, (ByteArray.mk #[110, 111, 110, 101]), rfl, rfl, rfl⟩ ms
        · replace hp := cond_f hc33 hp
          refine s2 ?_
          replace hp := idx_bind hp; obtain ⟨u34, hy34, hp⟩ := hp
          obtain rfl : (u1_1, u1_2) = u34 := Option.some.inj (hy1.2.symm.trans hy34.2)
          refine W_DS (pre := [_, _, _, _, _, _, _, _, _]) (suf := [_, _, _]) [82, 83, 85] [] _ pc mix (by kernel_rfl) (by kernel_rfl) rfl ?_
          refine s3 ?_
          refine D_idxA (X := a0) GC.none (OpV.t rfl) (OpV.t rfl) el24.h (RdT.tree mm) (fun _ => hy1) ?_
          refine s1 ?_
          refine D_load GC.none (OpV.t rfl) (fun hg => RdT.at (RdT.tree mm) (hy1).2) one67.h rfl ?_
          refine s14 ?_
          replace hp := idx_bind hp; obtain ⟨⟨u35_1, u35_2, u35_3⟩, hy35, hp⟩ := hp
          refine L_idxA (X := u1_2) rfl rfl rfl el67.h (RdT.snd (RdT.of (RdT.tree mm) (hy1).2)) hy35 ?_
          refine s1 ?_
          refine L_conv (M' := treeH (u1_1, u1_2) :: holeH a0 (a1.toNat) (GT.cells (u1_1, u1_2)) :: _) (fun w h => hole_open hy1.2 pk h) ?_
          refine xL ((u1_1, u1_2) : T_CSet) ?_
          refine L_conv (M' := treeH (u35_1, u35_2, u35_3) :: holeH u1_2 (y2.toNat) (GT.cells (u35_1, u35_2, u35_3)) :: _) (fun w h => hole_open hy35.2 pk h) ?_
          refine xL ((u35_1, u35_2, u35_3) : T_CSnap) ?_
          refine L_stH (X := u1_2) (i := y2.toNat) (sz := 3) (fo := 1) (n := 1) rfl rfl pk rfl (.inr ⟨one9.h, rfl⟩) rfl (allOne rfl) (Nat.le_of_ble_eq_true rfl) ?_
          refine jL ((u35_1, a2_6, u35_3) : T_CSnap) ?_
          replace hp := ba hp; obtain ⟨y36, hy36, hp⟩ := hp
          refine L_close (X := u1_2) ((u35_1, a2_6, u35_3) : T_CSnap) rfl pk pk hy36 (fun X37 hdX37 hhX37 => ?_)
          subst hdX37
          try simp only [cells_pair, cells_int, cells_bool, cells_str, cells_TL, List.cons_append, List.nil_append]
          try rw [← hhX37]
          try rw [← g_of_hdr hhX37]
          try rw [← o_of_hdr hhX37]
          refine jL ((u1_1, X37) : T_CSet) ?_
          replace hp := ba hp; obtain ⟨y38, hy38, hp⟩ := hp
          refine L_close (X := a0) ((u1_1, X37) : T_CSet) rfl pk pk hy38 (fun X39 hdX39 hhX39 => ?_)
          subst hdX39
          try rw [← hhX39]
          try rw [← g_of_hdr hhX39]
          try rw [← o_of_hdr hhX39]
          refine s7 ?_
          obtain rfl := Option.some.inj hp
          refine s1 ?_
          refine res2 rfl (ResOK.cell rfl mm (by exact agg26.h)) (ResOK.tmp rfl) ⟨X39, (ByteArray.mk #[111, 107]), rfl, rfl, rfl⟩ ms
      · replace hp := cond_f hc32 hp
        refine s5 ?_
        refine kp [1, 3, 5, 6, 8, 89] ?_
        refine W_cond rfl (fun hc40 => ?_) (fun hc40 => ?_)
        · replace hp := cond_t hc40 hp
          refine s6 ?_
          replace hp := ba hp; obtain ⟨y41, hy41, hp⟩ := hp
          refine L_conv (M' := treeH (u1_1, u1_2) :: holeH a0 (a1.toNat) (GT.cells (u1_1, u1_2)) :: _) (fun w h => hole_open hy1.2 pk h) ?_
          refine xL ((u1_1, u1_2) : T_CSet) ?_
          refine L_callM [treeH u1_2] _ rfl fn119.h rfl pc (by exact fun w hw => s_l15Prune_walk w u1_2 a2_7  _ hy41) ?_
          rintro _ _ ⟨y41x0, y41x1, rfl, rfl, rfl⟩
          refine sc ?_
          replace hp := dd hp
          refine s12 ?_
          replace hp := idx_bind hp; obtain ⟨u42, hy42, hp⟩ := hp
          obtain rfl : (u1_1, u1_2) = u42 := Option.some.inj (hy1.2.symm.trans hy42.2)
          refine L_idxH (X := a0) (cs := _) rfl rfl rfl el24.h mm hy1 ?_
          refine s1 ?_
          refine L_stH (X := a0) (i := a1.toNat) (sz := 2) (fo := 1) (n := 1) rfl rfl pk rfl (.inr ⟨one67.h, rfl⟩) rfl (allOne rfl) (Nat.le_of_ble_eq_true rfl) ?_
          refine jL ((u1_1, y41x0) : T_CSet) ?_
          replace hp := ba hp; obtain ⟨y43, hy43, hp⟩ := hp
          refine L_close (X := a0) ((u1_1, y41x0) : T_CSet) rfl pk pk hy43 (fun X44 hdX44 hhX44 => ?_)
          subst hdX44
          try rw [← hhX44]
          try rw [← g_of_hdr hhX44]
          try rw [← o_of_hdr hhX44]
          refine s2 ?_
          replace hp := ba hp; obtain ⟨y45, hy45, hp⟩ := hp
          refine W_DS (pre := [_, _, _]) (suf := [_, _]) [105, 107] [] _ pc mix (by kernel_rfl) (by kernel_rfl) rfl ?_
          refine s2 ?_
          refine D_callX GC.none fn120.h (OpVs.cons (OpV.t rfl) (OpVs.nil)) (by exact fun hg w F hF hM => s_Dec_walk w y41x1  _ hy45) ?_
          refine s8 ?_
          obtain rfl := Option.some.inj hp
          refine s1 ?_
          refine res2 rfl (ResOK.cell rfl mm (by exact agg26.h)) (ResOK.tmp rfl) ⟨X44, y45, rfl, rfl, rfl⟩ ms
        · replace hp := cond_f hc40 hp
          refine s2 ?_
          replace hp := ba hp; obtain ⟨y46, hy46, hp⟩ := hp
          refine W_DS (pre := [_, _, _]) (suf := [_, _]) [108, 110] [] _ pc mix (by kernel_rfl) (by kernel_rfl) rfl ?_
          refine s2 ?_
          refine D_callX GC.none fn121.h (OpVs.cons (OpV.t rfl) (OpVs.nil)) (by exact fun hg w F hF hM => s_l15Read_walk w (u1_1, u1_2) (RdT.nowS (RdT.pair RdT.str (RdT.snd (RdT.of (RdT.tree mm) (hy1).2))) hF hM) _ hy46) ?_
          refine s8 ?_
          obtain rfl := Option.some.inj hp
          refine s1 ?_
          refine res2 rfl (ResOK.cell rfl mm (by exact agg26.h)) (ResOK.tmp rfl) ⟨a0, y46, rfl, rfl, rfl⟩ ms
noncomputable def s_CatDo (a0 : D_Catalog) (a1 : D_Cmd) : Option (D_Catalog × ByteArray) :=
  Option.bind (s_CatOk a0) (fun y1 => cond (!y1) (some (([] : List D_CSet), ByteArray.empty)) (Option.bind (s_l15Copy a0) (fun y3 => Option.bind (s_CmdOk (a1.1, a1.2.1, a1.2.2.1, a1.2.2.2.1, a1.2.2.2.2.1, a1.2.2.2.2.2.1, a1.2.2.2.2.2.2.1, a1.2.2.2.2.2.2.2)) (fun y4 => cond ((!y4) || (decide (a1.1 = 0))) (some (y3, ByteArray.empty)) (cond (decide (a1.1 = 1)) (Option.bind (s_l15Create y3 a1.2.2.2.1) (fun y7 => some (y7.1, y7.2))) (cond (decide (a1.1 = 7)) (whileP (fun s9 : ByteArray × Int => cond (decide (s9.2 < (y3.length : Int))) (cond (decide (0 < s9.2)) (Option.bind (catP s9.1 (ByteArray.mk #[32])) (fun y12 => Option.bind (idx y3 s9.2) (fun y13 => Option.bind (catP y12 y13.1) (fun y14 => some (.inl ((y14, IntKind.wrap .i64 (s9.2 + 1)))))))) (Option.bind (idx y3 s9.2) (fun y15 => Option.bind (catP s9.1 y15.1) (fun y16 => some (.inl ((y16, IntKind.wrap .i64 (s9.2 + 1)))))))) (Option.map .inr (some (y3, s9.1)))) (ByteArray.empty, 0)) (Option.bind (s_l15At y3 a1.2.2.2.1) (fun y18 => cond (decide (y18 < 0)) (some (y3, (ByteArray.mk #[110, 111, 110, 101]))) (Option.bind (s_l15Set y3 y18 (a1.1, a1.2.1, a1.2.2.1, a1.2.2.2.1, a1.2.2.2.2.1, a1.2.2.2.2.2.1, a1.2.2.2.2.2.2.1, a1.2.2.2.2.2.2.2)) (fun y20 => some (y20.1, y20.2)))))))))))
theorem s_CatDo_walk (w : World) (a0 : T_Catalog) (a1 : T_Cmd) (h0 : GT.rd w [] a0) (h1 : GT.rd w [] a1) (r : D_Catalog × ByteArray) (hp : s_CatDo (GT.dat a0) (GT.dat a1) = some r) : Spec Tryz.prog 78 [.agg (GT.cells a0).toArray, .agg (GT.cells a1).toArray].toArray w [] (fun v M => ∃ (x0 : T_Catalog) (x1 : ByteArray), v = .tuple #[.agg (GT.cells x0).toArray, .string x1] ∧ (GT.dat x0, GT.dat x1) = r ∧ M = [treeH x0]) := by
  obtain ⟨a1_1, a1_2, a1_3, a1_4, a1_5, a1_6, a1_7, a1_8⟩ := a1
  change Spec _ _ ([Value.agg #[(TL.hdr a0)], Value.agg #[.int .i64 a1_1, .int .i64 a1_2, .int .i64 a1_3, .string a1_4, .string a1_5, .string a1_6, .int .i64 a1_7, (TL.hdr a1_8)]] : List Value).toArray w [] _
  refine Spec.intro Tryz.func78 rfl Tryz.ntmps78 rfl ?_
  unfold s_CatDo at hp
  replace hp := dd hp
  refine s2 ?_
  refine bx fun bk2 => ?_
  refine bx fun bk3 => ?_
  refine al fun bk4 => ?_
  refine s6 ?_
  replace hp := ba hp; obtain ⟨y1, hy1, hp⟩ := hp
  refine L_callX rfl fn17.h rfl (by exact fun w hw => s_CatOk_walk w a0 (RdT.now (RdT.old h0) hw) _ hy1) ?_
  refine s2 ?_
  refine kp [2, 3, 4, 16] ?_
  refine W_cond rfl (fun hc2 => ?_) (fun hc2 => ?_)
  · replace hp := cond_t hc2 hp
    refine s2 ?_
    refine L_build (xs := []) (cs := [(TL.hdr (TL.nil T_CSet 0))]) rfl rfl bld26.h rfl ?_
    refine s3 ?_
    obtain rfl := Option.some.inj hp
    refine W_conv (M' := treeH (TL.nil T_CSet 0) :: _) (fun w h => addNilT (τ := T_CSet) 0 h) ?_
    refine s1 ?_
    refine res2 rfl (ResOK.cell rfl mm (by exact agg26.h)) (ResOK.tmp rfl) ⟨(TL.nil T_CSet 0), ByteArray.empty, rfl, rfl, rfl⟩ ms
  · replace hp := cond_f hc2 hp
    refine s4 ?_
    replace hp := ba hp; obtain ⟨y3, hy3, hp⟩ := hp
    refine L_callR rfl fn88.h rfl (by exact fun w hw => s_l15Copy_walk w a0 (RdT.now (RdT.old h0) hw) _ hy3) ?_
    rintro _ _ ⟨y3x0, rfl, rfl, rfl⟩
    refine sc ?_
    replace hp := dd hp
    refine al fun bk6 => ?_
    refine s4 ?_
    replace hp := ba hp; obtain ⟨y4, hy4, hp⟩ := hp
    refine W_D0 [27] mix (by kernel_rfl) rfl ?_
    refine s1 ?_
    refine D_callX GC.none fn89.h (OpVs.cons (OpV.t rfl) (OpVs.nil)) (by exact fun hg w F hF hM => s_CmdOk_walk w (a1_1, a1_2, a1_3, a1_4, a1_5, a1_6, a1_7, a1_8) (RdT.nowS (RdT.pair RdT.int (RdT.pair RdT.int (RdT.pair RdT.int (RdT.pair RdT.str (RdT.pair RdT.str (RdT.pair RdT.str (RdT.pair RdT.int (RdT.old h1.2.2.2.2.2.2.2)))))))) hF hM) _ hy4) ?_
    refine s16 ?_
    refine kp [3, 4, 6, 27] ?_
    refine W_cond rfl (fun hc5 => ?_) (fun hc5 => ?_)
    · replace hp := cond_t hc5 hp
      refine s6 ?_
      obtain rfl := Option.some.inj hp
      refine s1 ?_
      refine res2 rfl (ResOK.cell rfl mm (by exact agg26.h)) (ResOK.tmp rfl) ⟨y3x0, ByteArray.empty, rfl, rfl, rfl⟩ ms
    · replace hp := cond_f hc5 hp
      refine s8 ?_
      refine kp [3, 4, 6, 31] ?_
      refine W_cond rfl (fun hc6 => ?_) (fun hc6 => ?_)
      · replace hp := cond_t hc6 hp
        refine s5 ?_
        replace hp := ba hp; obtain ⟨y7, hy7, hp⟩ := hp
        refine L_callM [treeH y3x0] _ rfl fn90.h rfl pc (by exact fun w hw => s_l15Create_walk w y3x0 a1_4  _ hy7) ?_
        rintro _ _ ⟨y7x0, y7x1, rfl, rfl, rfl⟩
        refine sc ?_
        replace hp := dd hp
        refine s3 ?_
        refine al fun bk7 => ?_
        refine s10 ?_
        obtain rfl := Option.some.inj hp
        refine s1 ?_
        refine res2 rfl (ResOK.cell rfl mm (by exact agg26.h)) (ResOK.tmp rfl) ⟨y7x0, y7x1, rfl, rfl, rfl⟩ ms
      · replace hp := cond_f hc6 hp
        refine s8 ?_
        refine kp [3, 4, 6, 43] ?_
        refine W_cond rfl (fun hc8 => ?_) (fun hc8 => ?_)
        · replace hp := cond_t hc8 hp
          refine s10 ?_
          refine W_while (σ := ByteArray × Int) GT.dat (fun ((v9_0, v9_1) : ByteArray × Int) => [(9, .string v9_0), (10, .int .i64 v9_1)]) (fun ((v9_0, v9_1) : ByteArray × Int) => []) [(4, _), (6, _)] [blk bk4 _ _, blk bk6 _ _, treeH y3x0] (ByteArray.empty, 0) hp sb ms ?_
          clear hp
          rintro ⟨v9_0, v9_1⟩ x9 hp hx9
          replace hp := dd hp
          refine kq [4, 6, 9, 10] ?_
          refine s9 ?_
          refine kp [4, 6, 9, 10, 48] ?_
          refine W_cond rfl (fun hc10 => ?_) (fun hc10 => ?_)
          · replace hp := cond_t hc10 hp
            refine s9 ?_
            refine kp [4, 6, 9, 10, 52] ?_
            refine W_cond rfl (fun hc11 => ?_) (fun hc11 => ?_)
            · replace hp := cond_t hc11 hp
              refine s2 ?_
              replace hp := ba hp; obtain ⟨y12, hy12, hp⟩ := hp
              refine L_binV rfl rfl rfl (bv_saddP hy12) ?_
              refine s7 ?_
              replace hp := idx_bind hp; obtain ⟨⟨u13_1, u13_2⟩, hy13, hp⟩ := hp
              refine L_idxA (X := y3x0) rfl rfl rfl el24.h (RdT.tree mm) hy13 ?_
              refine s1 ?_
              refine L_load rfl rfl (RdT.at (RdT.tree mm) (hy13).2) one9.h rfl ?_
              replace hp := ba hp; obtain ⟨y14, hy14, hp⟩ := hp
              refine L_binV rfl rfl rfl (bv_saddP hy14) ?_
              refine s7 ?_
              exact ⟨(y14, IntKind.wrap .i64 (v9_1 + 1)), sb, (.sub ms), some_eq hp⟩
            · replace hp := cond_f hc11 hp
              refine s6 ?_
              replace hp := idx_bind hp; obtain ⟨⟨u15_1, u15_2⟩, hy15, hp⟩ := hp
              refine L_idxA (X := y3x0) rfl rfl rfl el24.h (RdT.tree mm) hy15 ?_
              refine s1 ?_
              refine L_load rfl rfl (RdT.at (RdT.tree mm) (hy15).2) one9.h rfl ?_
              replace hp := ba hp; obtain ⟨y16, hy16, hp⟩ := hp
              refine L_binV rfl rfl rfl (bv_saddP hy16) ?_
              refine s7 ?_
              exact ⟨(y16, IntKind.wrap .i64 (v9_1 + 1)), sb, (.sub ms), some_eq hp⟩
          · replace hp := cond_f hc10 hp
            refine W_exit ?_
            replace hp := map_any hp; obtain ⟨a17, hp, hx_a17⟩ := hp
            obtain rfl := hx9 _ hx_a17
            refine s7 ?_
            obtain rfl := Option.some.inj hp
            refine s1 ?_
            refine res2 rfl (ResOK.cell rfl mm (by exact agg26.h)) (ResOK.tmp rfl) ⟨y3x0, v9_0, rfl, rfl, rfl⟩ ms
        · replace hp := cond_f hc8 hp
          refine s6 ?_
          replace hp := ba hp; obtain ⟨y18, hy18, hp⟩ := hp
          refine L_callX rfl fn91.h rfl (by exact fun w hw => s_l15At_walk w y3x0 a1_4 (RdT.now (RdT.tree mm) hw) _ hy18) ?_
          refine s8 ?_
          refine kp [3, 4, 6, 11, 70] ?_
          refine W_cond rfl (fun hc19 => ?_) (fun hc19 => ?_)
          · replace hp := cond_t hc19 hp
            refine s6 ?_
            obtain rfl := Option.some.inj hp
            refine s1 ?_
            refine res2 rfl (ResOK.cell rfl mm (by exact agg26.h)) (ResOK.tmp rfl) ⟨y3x0, (ByteArray.mk #[110, 111, 110, 101]), rfl, rfl, rfl⟩ ms
          · replace hp := cond_f hc19 hp
            refine s6 ?_
            replace hp := ba hp; obtain ⟨y20, hy20, hp⟩ := hp
            refine L_callM [treeH y3x0] _ rfl fn92.h rfl pc (by exact fun w hw => s_l15Set_walk w y3x0 y18 (a1_1, a1_2, a1_3, a1_4, a1_5, a1_6, a1_7, a1_8) ((RdX.pair RdX.int (RdX.pair RdX.int (RdX.pair RdX.int (RdX.pair RdX.str (RdX.pair RdX.str (RdX.pair RdX.str (RdX.pair RdX.int (RdX.old h1.2.2.2.2.2.2.2)))))))) w hw) _ hy20) ?_
            rintro _ _ ⟨y20x0, y20x1, rfl, rfl, rfl⟩
            refine sc ?_
            replace hp := dd hp
            refine s3 ?_
            refine al fun bk12 => ?_
            refine s10 ?_
            obtain rfl := Option.some.inj hp
            refine s1 ?_
            refine res2 rfl (ResOK.cell rfl mm (by exact agg26.h)) (ResOK.tmp rfl) ⟨y20x0, y20x1, rfl, rfl, rfl⟩ ms
noncomputable def s_CatPlay (a0 : List D_Cmd) : Option (D_Catalog × (List ByteArray)) :=
  Option.bind (some ([] : List ByteArray)) (fun y2 => whileP (fun s3 : (List ByteArray) × Int × (List D_CSet) => cond (decide (s3.2.1 < (a0.length : Int))) (Option.bind (idx a0 s3.2.1) (fun y5 => Option.bind (s_CatDo s3.2.2 (y5.1, y5.2.1, y5.2.2.1, y5.2.2.2.1, y5.2.2.2.2.1, y5.2.2.2.2.2.1, y5.2.2.2.2.2.2.1, y5.2.2.2.2.2.2.2)) (fun y6 => Option.bind (appP s3.1 [y6.2]) (fun y9 => some (.inl ((y9, IntKind.wrap .i64 (s3.2.1 + 1), y6.1))))))) (Option.map .inr (some (s3.2.2, s3.1)))) (y2, 0, ([] : List D_CSet)))
theorem s_CatPlay_walk (w : World) (a0 : TL T_Cmd) (h0 : GT.rd w [] a0) (r : D_Catalog × (List ByteArray)) (hp : s_CatPlay (GT.dat a0) = some r) : Spec Tryz.prog 59 [(TL.hdr a0)].toArray w [] (fun v M => ∃ (x0 : T_Catalog) (x1 : TL ByteArray), v = .tuple #[.agg (GT.cells x0).toArray, (TL.hdr x1)] ∧ (GT.dat x0, GT.dat x1) = r ∧ M = [treeH x0, treeH x1]) := by
  refine Spec.intro Tryz.func59 rfl Tryz.ntmps59 rfl ?_
  unfold s_CatPlay at hp
  replace hp := dd hp
  refine s2 ?_
  refine al fun bk2 => ?_
  refine L_assign (v := (TL.hdr (TL.nil ByteArray 0))) rfl rfl ?_
  refine s3 ?_
  refine L_build (xs := []) (cs := [(TL.hdr (TL.nil T_CSet 0))]) rfl rfl bld26.h rfl ?_
  refine al fun bk4 => ?_
  refine s4 ?_
  replace hp := ba hp; obtain ⟨y2, hy2, hp⟩ := hp
  refine L_mk0 ByteArray rfl el32.h (fun X1 hdX1 => ?_)
  obtain rfl : GT.dat X1 = y2 := hdX1.trans (Option.some.inj hy2)
  clear hy2 hdX1
  refine s8 ?_
  refine W_conv (M' := treeH (TL.nil T_CSet 0) :: _) (fun w h => addNilT (τ := T_CSet) 0 h) ?_
  refine W_while (σ := (TL ByteArray) × Int × (TL T_CSet)) GT.dat (fun ((v3_0, v3_1, v3_2) : (TL ByteArray) × Int × (TL T_CSet)) => [(5, (TL.hdr v3_0)), (6, .int .i64 v3_1)]) (fun ((v3_0, v3_1, v3_2) : (TL ByteArray) × Int × (TL T_CSet)) => [blk bk4 [(TL.hdr v3_2)] 26, treeH v3_0, treeH v3_2]) [(0, _), (2, _), (4, _)] [blk bk2 _ _] (X1, 0, (TL.nil T_CSet 0)) hp sb ms ?_
  clear hp
  rintro ⟨v3_0, v3_1, v3_2⟩ x3 hp hx3
  replace hp := dd hp
  refine kq [0, 2, 4, 5, 6] ?_
  refine s8 ?_
  refine kp [0, 2, 4, 5, 6, 14] ?_
  refine W_cond rfl (fun hc4 => ?_) (fun hc4 => ?_)
  · replace hp := cond_t hc4 hp
    refine s4 ?_
    replace hp := idx_bind hp; obtain ⟨⟨u5_1, u5_2, u5_3, u5_4, u5_5, u5_6, u5_7, u5_8⟩, hy5, hp⟩ := hp
    replace hp := ba hp; obtain ⟨y6, hy6, hp⟩ := hp
    refine W_D0 [7, 8] mix (by kernel_rfl) rfl ?_
    refine s3 ?_
    refine D_idxA (X := a0) GC.none (OpV.t rfl) (OpV.t rfl) el90.h (RdT.old h0) (fun _ => hy5) ?_
    refine D_loadW GC.none (OpV.t rfl) (fun hg => RdT.at (RdT.old h0) (hy5).2) (by exact agg110.h) ?_
    refine D_call1R (fun v M => ∃ (x0 : T_Catalog) (x1 : ByteArray), v = .tuple #[.agg (GT.cells x0).toArray, .string x1] ∧ (GT.dat x0, GT.dat x1) = y6 ∧ M = [treeH x0]) fn78.h (OpVs.cons (OpV.t rfl) (OpVs.cons (OpV.t rfl) (OpVs.nil))) (by exact fun w F hF hM => s_CatDo_walk w v3_2 (u5_1, u5_2, u5_3, u5_4, u5_5, u5_6, u5_7, u5_8) (RdT.nowS (RdT.tree mm) hF hM) (RdT.nowS (RdT.pair RdT.int (RdT.pair RdT.int (RdT.pair RdT.int (RdT.pair RdT.str (RdT.pair RdT.str (RdT.pair RdT.str (RdT.pair RdT.int (RdT.snd (RdT.snd (RdT.snd (RdT.snd (RdT.snd (RdT.snd (RdT.snd (RdT.of (RdT.old h0) (hy5).2))))))))))))))) hF hM) _ hy6) ?_
    refine D_moveC (t := 23) rfl (by kernel_rfl) ?_
    refine D_extractC (t := 17) (AggV (τ := T_Catalog) y6.1) rfl (by rintro v M ⟨x0, x1, rfl, hd, rfl⟩; subst hd; exact ⟨_, _, rfl, rfl, x0, rfl, rfl, rfl⟩) (by kernel_rfl) ?_
    refine D_extractW (t := 17) (.string y6.2) rfl (by rintro v M ⟨-, M', x0, x1, rfl, hd, -⟩; subst hd; exact ⟨_, rfl, rfl⟩) ?_
    refine D_alloc zero26.h ?_
    refine D_storeK (p := 7) (x := 24) rfl rfl (by exact agg26.h) rfl (by kernel_rfl) ?_
    refine s3 ?_
    refine Give_R rfl rfl ?_
    rintro _ _ ⟨bk7, X7, rfl, hdX7, rfl⟩
    try rw [← hdX7] at hp
    refine s11 ?_
    refine sc ?_
    replace hp := dd hp
    refine s8 ?_
    refine L_buildSlice1 rfl rfl el32.h rfl (by decide) (by decide) rfl (fun bb29 => ?_)
    replace hp := ba hp; obtain ⟨y9, hy9, hp⟩ := hp
    refine L_app1F (X := v3_0) (y6.2 : ByteArray) rfl rfl rfl el32.h rfl rfl pk mm  hy9 (by decide) (fun X8 hdX8 => ?_)
    subst hdX8
    refine s7 ?_
    exact ⟨(X8, IntKind.wrap .i64 (v3_1 + 1), X7), sb, (.sub ms), some_eq hp⟩
  · replace hp := cond_f hc4 hp
    refine W_exit ?_
    replace hp := map_any hp; obtain ⟨a10, hp, hx_a10⟩ := hp
    obtain rfl := hx3 _ hx_a10
    refine s7 ?_
    obtain rfl := Option.some.inj hp
    refine s1 ?_
    refine res2 rfl (ResOK.cell rfl mm (by exact agg26.h)) (ResOK.tmp rfl) ⟨v3_2, v3_0, rfl, rfl, rfl⟩ ms
noncomputable def s_l15Some (a0 : D_l1Cur) : Option (D_Catalog × D_l1Cur) :=
  Option.bind (s_l15Cmds (a0.1, a0.2.1, a0.2.2) 24) (fun y1 => Option.bind (s_CatPlay y1.1) (fun y2 => Option.bind (gm (decide (0 < (y2.1.length : Int))) (false, (y1.2.1, y1.2.2.1, y1.2.2.2)) (s_l1Once (y1.2.1, y1.2.2.1, y1.2.2.2) 10)) (fun y3 => cond ((decide (0 < (y2.1.length : Int))) && y3.1) (Option.bind (s_l1Below (y3.2.1, y3.2.2.1, y3.2.2.2) 3) (fun y5 => cond (decide (y5.1 = 0)) (Option.bind (some ([(ByteArray.mk #[97]), (ByteArray.mk #[122, 122]), (ByteArray.mk #[90])] : List ByteArray)) (fun y7 => Option.bind (s_l1Pick (y5.2.1, y5.2.2.1, y5.2.2.2) y7) (fun y9 => Option.bind (appP y2.1 [(y9.1, ([] : List D_CSnap))]) (fun y11 => some (y11, (y9.2.1, y9.2.2.1, y9.2.2.2)))))) (cond (decide (y5.1 = 1)) (Option.bind (idx y2.1 0) (fun y13 => Option.bind (appP y13.2 [((ByteArray.mk #[120]), ByteArray.empty, ([] : List ByteArray))]) (fun y14 => Option.bind (idx y2.1 0) (fun y16 => Option.bind (some (y2.1.set ((0 : Int).toNat) (y13.1, y14))) (fun y17 => some (y17, (y5.2.1, y5.2.2.1, y5.2.2.2))))))) (Option.bind (idx y2.1 0) (fun y19 => Option.bind (some (y2.1.set ((0 : Int).toNat) (ByteArray.empty, y19.2))) (fun y20 => some (y20, (y5.2.1, y5.2.2.1, y5.2.2.2)))))))) (some (y2.1, (y3.2.1, y3.2.2.1, y3.2.2.2))))))
theorem s_l15Some_walk (w : World) (b0_ : Nat) (a0 : T_l1Cur) (h0_0 : GT.rd w (fps [blk b0_ (GT.cells a0) 87]) a0.1) (r : D_Catalog × D_l1Cur) (hp : s_l15Some (GT.dat a0) = some r) : Spec Tryz.prog 27 [Value.pointer (some ⟨b0_, 0, none⟩)].toArray w [blk b0_ (GT.cells a0) 87] (fun v M => ∃ (x0 : T_Catalog) (y0 : T_l1Cur), v = .agg (GT.cells x0).toArray ∧ (GT.dat x0, GT.dat y0) = r ∧ M = [treeH x0, blk b0_ (GT.cells y0) 87] ∧ y0.1 = a0.1) := by
  obtain ⟨a0_1, a0_2, a0_3⟩ := a0
  change Spec _ _ ([Value.pointer (some ⟨b0_, 0, none⟩)] : List Value).toArray w _ _
  refine Spec.intro Tryz.func27 rfl Tryz.ntmps27 rfl ?_
  unfold s_l15Some at hp
  replace hp := dd hp
  refine s2 ?_
  refine al fun bk2 => ?_
  refine s4 ?_
  replace hp := ba hp; obtain ⟨y1, hy1, hp⟩ := hp
  refine L_callM [blk b0_ _ _] _ rfl fn60.h rfl pc (by exact fun w hw => s_l15Cmds_walk w b0_ (a0_1, a0_2, a0_3) 24 ((RdX.old h0_0) w hw) _ hy1) ?_
  rintro _ _ ⟨y1x0, ⟨y1y0_1, y1y0_2, y1y0_3⟩, rfl, rfl, rfl, hey1_0⟩
  obtain rfl : a0_1 = y1y0_1 := hey1_0.symm
  refine sc ?_
  replace hp := dd hp
  replace hp := ba hp; obtain ⟨y2, hy2, hp⟩ := hp
  refine L_callR rfl fn59.h rfl (by exact fun w hw => s_CatPlay_walk w y1x0 (RdT.now (RdT.tree mm) hw) _ hy2) ?_
  rintro _ _ ⟨y2x0, y2x1, rfl, rfl, rfl⟩
  refine sc ?_
  replace hp := dd hp
  refine s3 ?_
  refine al fun bk3 => ?_
  refine s5 ?_
  replace hp := ba hp; obtain ⟨⟨y3a, y3b⟩, hy3, hp⟩ := hp; try dsimp only at hp
  refine W_DS (pre := [_, _, _, _, _, _, _, _]) (suf := []) [17, 18] [blk b0_ [(TL.hdr a0_1), .int .i64 y1y0_2, .int .i64 y1y0_3] 87] _ pc mix (by kernel_rfl) (by kernel_rfl) rfl ?_
  refine s2 ?_
  refine D_lenP (X := y2x0) GC.none (OpV.t rfl) el24.h ?_
  refine s3 ?_
  refine D_callMg (fun v M => ∃ (x0 : Bool) (y0 : T_l1Cur), v = .bool x0 ∧ (GT.dat x0, GT.dat y0) = (y3a, y3b) ∧ M = [blk b0_ (GT.cells y0) 87] ∧ y0.1 = a0_1) (fun v M => ∃ (y0 : T_l1Cur), M = [blk b0_ (GT.cells y0) 87] ∧ GT.dat y0 = y3b ∧ y0.1 = a0_1 ∧ ((True ∧ (decide (0 < ((GT.dat y2x0).length : Int))) = true) → v = .bool y3a)) [blk b0_ [(TL.hdr a0_1), .int .i64 y1y0_2, .int .i64 y1y0_3] 87] pc (GC.some rfl rfl) fn29.h (OpVs.cons (OpV.s rfl) (OpVs.cons OpV.c (OpVs.nil))) (by exact fun hg w F hw hM => s_l1Once_walk w b0_ (a0_1, y1y0_2, y1y0_3) 10 ((RdX.old h0_0) w hw) _ (gm_t hy3 hg.2)) (by rintro hg v M ⟨x0, z0, hv, hd, hm, he0⟩; obtain ⟨rfl, rfl⟩ := Prod.mk.inj hd; exact ⟨z0, hm, rfl, he0, fun _ => hv⟩) (fun hn => ⟨(a0_1, y1y0_2, y1y0_3), rfl, (by have e := gm_f hy3 (fun hg => hn ⟨trivial, hg⟩); exact (Prod.mk.inj e).2.symm), rfl, fun hc => (hn hc).elim⟩) ?_
  refine D_and (cy := (True ∧ (decide (0 < ((GT.dat y2x0).length : Int))) = true)) GC.none (OpV.t rfl) (show OpV _ _ (True ∧ (decide (0 < ((GT.dat y2x0).length : Int))) = true) (.bool y3a) from ⟨_, rfl, fun u M h hc => by obtain ⟨z0, hm, hd, -, hv⟩ := h; exact hv hc⟩) (fun h hb => ⟨h, hb⟩) ?_
  refine s2 ?_
  refine Give_R rfl rfl ?_
  rintro _ _ ⟨⟨y3y_1, y3y_2, y3y_3⟩, rfl, rfl, hey3_0, -⟩
  obtain rfl : a0_1 = y3y_1 := hey3_0.symm
  refine s7 ?_
  refine sc ?_
  replace hp := dd hp
  refine s1 ?_
  refine kp [0, 2, 3, 18] ?_
  refine W_cond rfl (fun hc4 => ?_) (fun hc4 => ?_)
  · replace hp := cond_t hc4 hp
    refine s3 ?_
    replace hp := ba hp; obtain ⟨y5, hy5, hp⟩ := hp
    refine L_callM [blk b0_ _ _] _ rfl fn56.h rfl pc (by exact fun w hw => s_l1Below_walk w b0_ (a0_1, y3y_2, y3y_3) 3 ((RdX.old h0_0) w hw) _ hy5) ?_
    rintro _ _ ⟨y5x0, ⟨y5y0_1, y5y0_2, y5y0_3⟩, rfl, rfl, rfl, hey5_0⟩
    obtain rfl : a0_1 = y5y0_1 := hey5_0.symm
    refine sc ?_
    replace hp := dd hp
    refine s7 ?_
    refine kp [0, 2, 3, 20, 25] ?_
    refine W_cond rfl (fun hc6 => ?_) (fun hc6 => ?_)
    · replace hp := cond_t hc6 hp
      replace hp := ba hp; obtain ⟨y7, hy7, hp⟩ := hp
      replace hp := ba hp; obtain ⟨y9, hy9, hp⟩ := hp
      refine W_DS (pre := [_, _, _, _, _, _, _]) (suf := [_, _, _]) [28, 31, 33] [blk b0_ _ 87] _ pc mix (by kernel_rfl) (by kernel_rfl) rfl ?_
      refine s3 ?_
      refine D_bsN ([(ByteArray.mk #[97]), (ByteArray.mk #[122, 122]), (ByteArray.mk #[90])] : List ByteArray) (xs := [(0, .const (.string (ByteArray.mk #[97]))), (1, .const (.string (ByteArray.mk #[122, 122]))), (2, .const (.string (ByteArray.mk #[90])))]) (ps := [(0, .string (ByteArray.mk #[97])), (1, .string (ByteArray.mk #[122, 122])), (2, .string (ByteArray.mk #[90]))]) (OpVp.cons OpV.c (OpVp.cons OpV.c (OpVp.cons OpV.c (OpVp.nil)))) el32.h rfl rfl rfl rfl rfl rfl rfl hy7 ?_
      refine D_callMR [_, _] (fun v M => ∃ (x0 : ByteArray) (y0 : T_l1Cur), v = .string x0 ∧ (GT.dat x0, GT.dat y0) = y9 ∧ M = [blk b0_ (GT.cells y0) 87] ∧ y0.1 = a0_1) [blk b0_ _ 87] pc fn61.h ⟨⟨_, rfl, fun _ _ h => h⟩, ⟨⟨_, rfl, fun _ _ h => h⟩, trivial⟩⟩ (by rintro w F vs hw hM ⟨v0, u0, M0, rfl, g0, hin0, ⟨v1, u1, M1, rfl, g1, hin1, rfl⟩⟩; obtain rfl := g0.2.1 trivial; obtain ⟨m1, rfl, hd1, rfl⟩ := g1; subst hd1; exact s_l1Pick_walk w b0_ (a0_1, y5y0_2, y5y0_3) m1 ((RdX.tree (hin1 _ (List.mem_singleton.2 rfl))) w hw) ((RdX.old h0_0) w hw) _ hy9) ?_
      refine D_build (xs := [(0, .tmp 31)]) (ps := [(0, .string y9.1)]) (cs := [.string y9.1, (TL.hdr (TL.nil T_CSnap 0))]) (OpVp.cons (show OpV _ _ _ (.string y9.1) from ⟨_, rfl, fun u M h hc => by obtain ⟨x0, z0, hv, hd, _⟩ := h; subst hd; exact hv⟩) (OpVp.nil)) bld69.h rfl ?_
      refine D_bs1 (OpV.t rfl) el24.h rfl (by decide) (by decide) rfl ?_
      refine s1 ?_
      refine Give_R rfl rfl ?_
      rintro _ _ ⟨bb33, rfl, rfl⟩
      simp only [List.cons_append, List.nil_append]
      refine s1 ?_
      refine Give_R rfl rfl ?_
      rintro _ _ ⟨y9x0, ⟨y9y0_1, y9y0_2, y9y0_3⟩, rfl, rfl, rfl, hey9_0⟩
      obtain rfl : a0_1 = y9y0_1 := hey9_0.symm
      refine s5 ?_
      refine sc ?_
      replace hp := dd hp
      replace hp := ba hp; obtain ⟨y11, hy11, hp⟩ := hp
      refine L_conv (M' := treeH (TL.nil T_CSnap 0) :: _) (fun w h => addNilT (τ := T_CSnap) 0 h) ?_
      refine jL ((y9x0, (TL.nil T_CSnap 0)) : T_CSet) ?_
      refine L_app1 (X := y2x0) ((y9x0, (TL.nil T_CSnap 0)) : T_CSet) rfl rfl rfl el24.h rfl rfl pk mm pk hy11 (by decide) (fun X10 hdX10 => ?_)
      subst hdX10
      refine s8 ?_
      obtain rfl := Option.some.inj hp
      refine s1 ?_
      refine res1 rfl (ResOK.cell rfl mm (by exact agg26.h)) ⟨X10, (a0_1, y9y0_2, y9y0_3), rfl, rfl, rfl, rfl⟩ ms
    · replace hp := cond_f hc6 hp
      refine s5 ?_
      refine kp [2, 3, 36] ?_
      refine W_cond rfl (fun hc12 => ?_) (fun hc12 => ?_)
      · replace hp := cond_t hc12 hp
        replace hp := idx_bind hp; obtain ⟨⟨u13_1, u13_2⟩, hy13, hp⟩ := hp
        refine W_conv (M' := treeH (u13_1, u13_2) :: holeH y2x0 ((0 : Int).toNat) (GT.cells (u13_1, u13_2)) :: _) (fun w h => hole_open hy13.2 pk h) ?_
        refine xW ((u13_1, u13_2) : T_CSet) ?_
        replace hp := ba hp; obtain ⟨y14, hy14, hp⟩ := hp
        refine W_DS (pre := [_, _, _, _, _, _, _, _, _, _]) (suf := [_, _, _]) [39, 47] [treeH u13_2] _ pc mix (by kernel_rfl) (by kernel_rfl) rfl ?_
        refine s4 ?_
        refine D_idxH (X := y2x0) GC.none (OpV.t rfl) OpV.c el24.h mm (fun hg => hy13) ?_
        refine s1 ?_
        refine D_load GC.none (OpV.t rfl) (fun hg => RdC.hole (X := y2x0) mm) one67.h rfl ?_
        refine D_build (xs := [(0, .const (.string (ByteArray.mk #[120])))]) (ps := [(0, .string (ByteArray.mk #[120]))]) (cs := [.string (ByteArray.mk #[120]), .string ByteArray.empty, (TL.hdr (TL.nil ByteArray 0))]) (OpVp.cons OpV.c (OpVp.nil)) bld71.h rfl ?_
        refine D_bs1 (OpV.t rfl) el67.h rfl (by decide) (by decide) rfl ?_
        refine D_app1Y (X := u13_2) (t := 46) (((ByteArray.mk #[120]), ByteArray.empty, (TL.nil ByteArray 0)) : T_CSnap) (flat_pair (flat_str trivial) (flat_pair (flat_str trivial) (flat_nil _))) (OpV.t rfl) rfl el67.h rfl rfl pk hy14 (by decide) (by kernel_rfl) ?_
        refine s1 ?_
        refine Give_R rfl rfl ?_
        rintro _ _ ⟨X15, rfl, rfl, rfl⟩
        simp only [List.cons_append, List.nil_append]
        refine s10 ?_
        replace hp := idx_bind hp; obtain ⟨u16, hy16, hp⟩ := hp
        obtain rfl : (u13_1, u13_2) = u16 := Option.some.inj (hy13.2.symm.trans hy16.2)
        refine L_idxH (X := y2x0) (cs := _) rfl rfl rfl el24.h mm hy13 ?_
        refine s1 ?_
        refine L_stH (X := y2x0) (i := (0 : Int).toNat) (sz := 2) (fo := 1) (n := 1) rfl rfl pk rfl (.inr ⟨one67.h, rfl⟩) rfl (allOne rfl) (Nat.le_of_ble_eq_true rfl) ?_
        refine jL ((u13_1, X15) : T_CSet) ?_
        replace hp := ba hp; obtain ⟨y17, hy17, hp⟩ := hp
        refine L_close (X := y2x0) ((u13_1, X15) : T_CSet) rfl pk pk hy17 (fun X18 hdX18 hhX18 => ?_)
        subst hdX18
        try rw [← hhX18]
        try rw [← g_of_hdr hhX18]
        try rw [← o_of_hdr hhX18]
        refine s6 ?_
        obtain rfl := Option.some.inj hp
        refine s1 ?_
        refine res1 rfl (ResOK.cell rfl mm (by exact agg26.h)) ⟨X18, (a0_1, y5y0_2, y5y0_3), rfl, rfl, rfl, rfl⟩ ms
      · replace hp := cond_f hc12 hp
        refine s3 ?_
        replace hp := idx_bind hp; obtain ⟨⟨u19_1, u19_2⟩, hy19, hp⟩ := hp
        refine L_idxA (X := y2x0) rfl rfl rfl el24.h (RdT.tree mm) hy19 ?_
        refine s1 ?_
        refine L_conv (M' := treeH (u19_1, u19_2) :: holeH y2x0 ((0 : Int).toNat) (GT.cells (u19_1, u19_2)) :: _) (fun w h => hole_open hy19.2 pk h) ?_
        refine xL ((u19_1, u19_2) : T_CSet) ?_
        refine L_stH (X := y2x0) (i := (0 : Int).toNat) (sz := 2) (fo := 0) (n := 1) rfl rfl pk rfl (.inr ⟨one9.h, rfl⟩) rfl (allOne rfl) (Nat.le_of_ble_eq_true rfl) ?_
        refine jL ((ByteArray.empty, u19_2) : T_CSet) ?_
        replace hp := ba hp; obtain ⟨y20, hy20, hp⟩ := hp
        refine L_close (X := y2x0) ((ByteArray.empty, u19_2) : T_CSet) rfl pk pk hy20 (fun X21 hdX21 hhX21 => ?_)
        subst hdX21
        try rw [← hhX21]
        try rw [← g_of_hdr hhX21]
        try rw [← o_of_hdr hhX21]
        refine s6 ?_
        obtain rfl := Option.some.inj hp
        refine s1 ?_
        refine res1 rfl (ResOK.cell rfl mm (by exact agg26.h)) ⟨X21, (a0_1, y5y0_2, y5y0_3), rfl, rfl, rfl, rfl⟩ ms
  · replace hp := cond_f hc4 hp
    refine s6 ?_
    obtain rfl := Option.some.inj hp
    refine s1 ?_
    refine res1 rfl (ResOK.cell rfl mm (by exact agg26.h)) ⟨y2x0, (a0_1, y3y_2, y3y_3), rfl, rfl, rfl, rfl⟩ ms
end Go.Proofs.SL
namespace Go.Proofs.SL
open Go
set_option maxHeartbeats 2000000
abbrev D_Up := ByteArray × (List Int) × Int
abbrev D_Ups := Int × (List D_Up)
instance fld29_0 : FldF Tryz.prog 29 0 0 := ⟨by kernel_rfl⟩
instance fld29_1 : FldF Tryz.prog 29 1 1 := ⟨by kernel_rfl⟩
instance one27 : OneF Tryz.prog 27 := ⟨by kernel_rfl⟩
instance el27 : ElF Tryz.prog 27 43 3 48 [.string ByteArray.empty, .slice none 0 0, .int .i64 0] := ⟨by kernel_rfl⟩
instance agg43 : AggF Tryz.prog 43 3 := ⟨by kernel_rfl⟩
instance zero43 : ZerF Tryz.prog 43 [.string ByteArray.empty, .slice none 0 0, .int .i64 0] := ⟨by kernel_rfl⟩
instance fld43_0 : FldF Tryz.prog 43 0 0 := ⟨by kernel_rfl⟩
instance fld43_1 : FldF Tryz.prog 43 1 1 := ⟨by kernel_rfl⟩
instance one41 : OneF Tryz.prog 41 := ⟨by kernel_rfl⟩
instance fld43_2 : FldF Tryz.prog 43 2 2 := ⟨by kernel_rfl⟩
instance fn41 : FnF Tryz.prog 41 := ⟨⟨_, Tryz.func41, by kernel_rfl, rfl⟩⟩
instance fn53 : FnF Tryz.prog 53 := ⟨⟨_, Tryz.func53, by kernel_rfl, rfl⟩⟩
instance fn73 : FnF Tryz.prog 73 := ⟨⟨_, Tryz.func73, by kernel_rfl, rfl⟩⟩
instance fn72 : FnF Tryz.prog 72 := ⟨⟨_, Tryz.func72, by kernel_rfl, rfl⟩⟩
instance agg29 : AggF Tryz.prog 29 2 := ⟨by kernel_rfl⟩
instance fn52 : FnF Tryz.prog 52 := ⟨⟨_, Tryz.func52, by kernel_rfl, rfl⟩⟩
instance fn57 : FnF Tryz.prog 57 := ⟨⟨_, Tryz.func57, by kernel_rfl, rfl⟩⟩
instance fn12 : FnF Tryz.prog 12 := ⟨⟨_, Tryz.func12, by kernel_rfl, rfl⟩⟩
instance fn31 : FnF Tryz.prog 31 := ⟨⟨_, Tryz.func31, by kernel_rfl, rfl⟩⟩
instance fn43 : FnF Tryz.prog 43 := ⟨⟨_, Tryz.func43, by kernel_rfl, rfl⟩⟩
instance zero29 : ZerF Tryz.prog 29 [.int .i64 0, .slice none 0 0] := ⟨by kernel_rfl⟩
instance bld29 : BldF Tryz.prog 29 [(0, 1), (1, 1)] [.int .i64 0, .slice none 0 0] := ⟨by kernel_rfl⟩
instance bld43 : BldF Tryz.prog 43 [(0, 1), (1, 1), (2, 1)] [.string ByteArray.empty, .slice none 0 0, .int .i64 0] := ⟨by kernel_rfl⟩
instance fn51 : FnF Tryz.prog 51 := ⟨⟨_, Tryz.func51, by kernel_rfl, rfl⟩⟩
instance fn71 : FnF Tryz.prog 71 := ⟨⟨_, Tryz.func71, by kernel_rfl, rfl⟩⟩
noncomputable def s_UpsOk (a0 : D_Ups) : Option Bool :=
  Option.bind (s_l1In a0.1 0 1000) (fun y1 => cond ((!y1) || (decide (20 < (a0.2.length : Int)))) (some false) (whileP (fun s3 : Int => cond (decide (s3 < (a0.2.length : Int))) (Option.bind (idx a0.2 s3) (fun y5 => gb ((!(!decide ((y5.1.size : Int) = 8))) && (decide (0 < s3))) (idx a0.2 (IntKind.wrap .i64 (s3 - 1))) (fun y6 => gb (!(((!decide ((y5.1.size : Int) = 8)) || ((decide (0 < s3)) && (!sLt y6.1 y5.1))) || (decide ((y5.2.1.length : Int) = 0)))) (s_l1In y5.2.2 0 a0.1) (fun y7 => cond ((((!decide ((y5.1.size : Int) = 8)) || ((decide (0 < s3)) && (!sLt y6.1 y5.1))) || (decide ((y5.2.1.length : Int) = 0))) || (!y7)) (Option.map .inr (some false)) (whileP (fun s10 : Int => cond (decide (s10 < (y5.2.1.length : Int))) (Option.bind (idx y5.2.1 s10) (fun y12 => Option.bind (s_l9Node y12) (fun y13 => gb ((!(!y13)) && (decide (0 < s10))) (idx y5.2.1 (IntKind.wrap .i64 (s10 - 1))) (fun y14 => gb ((!(!y13)) && (decide (0 < s10))) (idx y5.2.1 s10) (fun y15 => cond ((!y13) || ((decide (0 < s10)) && (decide (y15 ≤ y14)))) (Option.map .inr (Option.map .inr (some false))) (some (.inl (IntKind.wrap .i64 (s10 + 1))))))))) (Option.map .inr (some (.inl (IntKind.wrap .i64 (s3 + 1)))))) 0))))) (Option.map .inr (some true))) 0))
theorem s_UpsOk_walk (w : World) (a0 : T_Ups) (h0 : GT.rd w [] a0) (r : Bool) (hp : s_UpsOk (GT.dat a0) = some r) : Spec Tryz.prog 12 [.agg (GT.cells a0).toArray].toArray w [] (IsV (.bool r)) := by
  obtain ⟨a0_1, a0_2⟩ := a0
  change Spec _ _ ([Value.agg #[.int .i64 a0_1, (TL.hdr a0_2)]] : List Value).toArray w [] _
  refine Spec.intro Tryz.func12 rfl Tryz.ntmps12 rfl ?_
  unfold s_UpsOk at hp
  replace hp := dd hp
  refine s2 ?_
  refine bx fun bk1 => ?_
  refine s4 ?_
  replace hp := ba hp; obtain ⟨y1, hy1, hp⟩ := hp
  refine W_D0 [15] mix (by kernel_rfl) rfl ?_
  refine s2 ?_
  refine D_callX GC.none fn40.h (OpVs.cons (OpV.t rfl) (OpVs.cons OpV.c (OpVs.cons OpV.c (OpVs.nil)))) (by exact fun hg w F hF hM => s_l1In_walk w a0_1 0 1000  _ hy1) ?_
  refine s4 ?_
  refine D_lenP (X := a0_2) (GC.some rfl rfl) (OpV.s rfl) el27.h ?_
  refine s14 ?_
  refine kp [1, 15] ?_
  refine W_cond rfl (fun hc2 => ?_) (fun hc2 => ?_)
  · replace hp := cond_t hc2 hp
    refine s4 ?_
    obtain rfl := Option.some.inj hp
    refine s1 ?_
    refine res1 rfl (ResOK.tmp rfl) ⟨rfl, rfl⟩ ms
  · replace hp := cond_f hc2 hp
    refine s7 ?_
    refine W_while (σ := Int) GT.dat (fun (v3_0 : Int) => [(3, .int .i64 v3_0)]) (fun (v3_0 : Int) => []) [(1, _)] [blk bk1 _ _] 0 hp sb ms ?_
    clear hp
    rintro v3_0 x3 hp hx3
    replace hp := dd hp
    refine kq [1, 3] ?_
    refine s9 ?_
    refine kp [1, 3, 20] ?_
    refine W_cond rfl (fun hc4 => ?_) (fun hc4 => ?_)
    · replace hp := cond_t hc4 hp
      refine s8 ?_
      replace hp := idx_bind hp; obtain ⟨⟨u5_1, u5_2, u5_3⟩, hy5, hp⟩ := hp
      refine L_idxA (X := a0_2) rfl rfl rfl el27.h (RdT.old h0.2) hy5 ?_
      refine L_loadW rfl rfl (RdT.at (RdT.old h0.2) (hy5).2) (by exact agg43.h) ?_
      refine al fun bk4 => ?_
      refine s4 ?_
      replace hp := idx_gb hp; obtain ⟨⟨u6_1, u6_2, u6_3⟩, hy6, hp⟩ := hp
      replace hp := gb_any hp; obtain ⟨y7, hy7, hp⟩ := hp
      refine W_D0 [61] mix (by kernel_rfl) rfl ?_
      refine s2 ?_
      refine D_lenT GC.none (OpV.t rfl) str9.h ?_
      refine s9 ?_
      refine D_idxA (X := a0_2) (GC.some rfl rfl) (OpV.s rfl) (OpV.s rfl) el27.h (RdT.old h0.2) (fun hg => hy6 (gand (gnot hg.1.2) hg.2)) ?_
      refine s1 ?_
      refine D_load (GC.some rfl rfl) (OpV.s rfl) (fun hg => RdT.at (RdT.old h0.2) (hy6 (gand (gnot hg.1.2) hg.2)).2) one9.h rfl ?_
      refine s8 ?_
      refine D_lenP (X := u5_2) (GC.some rfl rfl) (OpV.s rfl) el41.h ?_
      refine s7 ?_
      refine D_callX (GC.some rfl rfl) fn40.h (OpVs.cons (OpV.s rfl) (OpVs.cons OpV.c (OpVs.cons (OpV.s rfl) (OpVs.nil)))) (by exact fun hg w F hF hM => s_l1In_walk w u5_3 0 a0_1  _ (hy7 (gnot hg.2))) ?_
      refine s20 ?_
      refine s18 ?_
      refine kp [1, 3, 4, 61] ?_
      refine W_cond rfl (fun hc8 => ?_) (fun hc8 => ?_)
      · replace hp := cond_t hc8 hp
        refine s4 ?_
        replace hp := map_any hp; obtain ⟨a9, hp, hx_a9⟩ := hp
        obtain rfl := hx3 _ hx_a9
        obtain rfl := Option.some.inj hp
        refine s1 ?_
        refine res1 rfl (ResOK.tmp rfl) ⟨rfl, rfl⟩ ms
      · replace hp := cond_f hc8 hp
        refine s6 ?_
        refine W_while (σ := Int) GT.dat (fun (v10_0 : Int) => [(5, .int .i64 v10_0)]) (fun (v10_0 : Int) => []) [(1, _), (3, _), (4, _)] [blk bk1 _ _, blk bk4 _ _] 0 hp sb ms ?_
        clear hp
        rintro v10_0 x10 hp hx10
        replace hp := dd hp
        refine kq [1, 3, 4, 5] ?_
        refine s9 ?_
        refine kp [1, 3, 4, 5, 66] ?_
        refine W_cond rfl (fun hc11 => ?_) (fun hc11 => ?_)
        · replace hp := cond_t hc11 hp
          refine s4 ?_
          replace hp := idx_bind hp; obtain ⟨u12, hy12, hp⟩ := hp
          replace hp := ba hp; obtain ⟨y13, hy13, hp⟩ := hp
          replace hp := idx_gb hp; obtain ⟨u14, hy14, hp⟩ := hp
          replace hp := idx_gb hp; obtain ⟨u15, hy15, hp⟩ := hp
          refine W_D0 [93] mix (by kernel_rfl) rfl ?_
          refine s3 ?_
          refine D_idxA (X := u5_2) GC.none (OpV.t rfl) (OpV.t rfl) el41.h (RdT.fst (RdT.snd (RdT.of (RdT.old h0.2) (hy5).2))) (fun _ => hy12) ?_
          refine D_load0 GC.none (OpV.t rfl) (fun hg => RdT.at (RdT.fst (RdT.snd (RdT.of (RdT.old h0.2) (hy5).2))) (hy12).2) one3.h rfl ?_
          refine D_callX GC.none fn41.h (OpVs.cons (OpV.t rfl) (OpVs.nil)) (by exact fun hg w F hF hM => s_l9Node_walk w u12  _ hy13) ?_
          refine s9 ?_
          refine D_idxA (X := u5_2) (GC.some rfl rfl) (OpV.s rfl) (OpV.s rfl) el41.h (RdT.fst (RdT.snd (RdT.of (RdT.old h0.2) (hy5).2))) (fun hg => hy14 (gand (gnot hg.1.2) hg.2)) ?_
          refine D_load0 (GC.some rfl rfl) (OpV.s rfl) (fun hg => RdT.at (RdT.fst (RdT.snd (RdT.of (RdT.old h0.2) (hy5).2))) (hy14 (gand (gnot hg.1.2) hg.2)).2) one3.h rfl ?_
          refine s3 ?_
          refine D_idxA (X := u5_2) (GC.some rfl rfl) (OpV.s rfl) (OpV.s rfl) el41.h (RdT.fst (RdT.snd (RdT.of (RdT.old h0.2) (hy5).2))) (fun hg => hy15 (gand (gnot hg.1.2) hg.2)) ?_
          refine D_load0 (GC.some rfl rfl) (OpV.s rfl) (fun hg => RdT.at (RdT.fst (RdT.snd (RdT.of (RdT.old h0.2) (hy5).2))) (hy15 (gand (gnot hg.1.2) hg.2)).2) one3.h rfl ?_
          refine s20 ?_
          refine s10 ?_
          refine kp [1, 3, 4, 5, 93] ?_
          refine W_cond rfl (fun hc16 => ?_) (fun hc16 => ?_)
          · replace hp := cond_t hc16 hp
            refine s4 ?_
            replace hp := map_any hp; obtain ⟨a17, hp, hx_a17⟩ := hp
            obtain rfl := hx10 _ hx_a17
            replace hp := map_any hp; obtain ⟨a18, hp, hx_a18⟩ := hp
            obtain rfl := hx3 _ hx_a18
            obtain rfl := Option.some.inj hp
            refine s1 ?_
            refine res1 rfl (ResOK.tmp rfl) ⟨rfl, rfl⟩ ms
          · replace hp := cond_f hc16 hp
            refine s6 ?_
            exact ⟨IntKind.wrap .i64 (v10_0 + 1), sb, (.sub ms), some_eq hp⟩
        · replace hp := cond_f hc11 hp
          refine W_exit ?_
          replace hp := map_any hp; obtain ⟨a19, hp, hx_a19⟩ := hp
          obtain rfl := hx10 _ hx_a19
          refine s5 ?_
          exact ⟨IntKind.wrap .i64 (v3_0 + 1), sb, (.sub ms), some_eq hp⟩
    · replace hp := cond_f hc4 hp
      refine W_exit ?_
      replace hp := map_any hp; obtain ⟨a20, hp, hx_a20⟩ := hp
      obtain rfl := hx3 _ hx_a20
      refine s4 ?_
      obtain rfl := Option.some.inj hp
      refine s1 ?_
      refine res1 rfl (ResOK.tmp rfl) ⟨rfl, rfl⟩ ms
noncomputable def i_UpsOk (a0 : D_Ups) : Option Bool :=
  whileP (fun s1 : Int => cond (decide (s1 < (a0.2.length : Int))) (Option.bind (idx a0.2 s1) (fun y3 => gb ((!(!decide ((y3.1.size : Int) = 8))) && (decide (0 < s1))) (idx a0.2 (IntKind.wrap .i64 (s1 - 1))) (fun y4 => gb (!(((!decide ((y3.1.size : Int) = 8)) || ((decide (0 < s1)) && (!sLt y4.1 y3.1))) || (decide ((y3.2.1.length : Int) = 0)))) (i_within y3.2.2 0 a0.1) (fun y5 => cond ((((!decide ((y3.1.size : Int) = 8)) || ((decide (0 < s1)) && (!sLt y4.1 y3.1))) || (decide ((y3.2.1.length : Int) = 0))) || (!y5)) (Option.map .inr (some false)) (whileP (fun s8 : Int => cond (decide (s8 < (y3.2.1.length : Int))) (Option.bind (idx y3.2.1 s8) (fun y10 => Option.bind (i_isRep y10) (fun y11 => gb ((!(!y11)) && (decide (0 < s8))) (idx y3.2.1 (IntKind.wrap .i64 (s8 - 1))) (fun y12 => cond ((!y11) || ((decide (0 < s8)) && (decide (y10 ≤ y12)))) (Option.map .inr (Option.map .inr (some false))) (some (.inl (IntKind.wrap .i64 (s8 + 1)))))))) (Option.map .inr (some (.inl (IntKind.wrap .i64 (s1 + 1)))))) 0))))) (Option.map .inr (Option.bind (i_within a0.1 0 1000) (fun y18 => some (y18 && (decide ((a0.2.length : Int) ≤ 20))))))) 0
theorem i_UpsOk_walk (w : World) (a0 : T_Ups) (h0 : GT.rd w [] a0) (r : Bool) (hp : i_UpsOk (GT.dat a0) = some r) : Spec Tryz.prog 31 [.agg (GT.cells a0).toArray].toArray w [] (IsV (.bool r)) := by
  obtain ⟨a0_1, a0_2⟩ := a0
  change Spec _ _ ([Value.agg #[.int .i64 a0_1, (TL.hdr a0_2)]] : List Value).toArray w [] _
  refine Spec.intro Tryz.func31 rfl Tryz.ntmps31 rfl ?_
  unfold i_UpsOk at hp
  replace hp := dd hp
  refine s2 ?_
  refine bx fun bk1 => ?_
  refine s11 ?_
  refine W_while (σ := Int) GT.dat (fun (v1_0 : Int) => [(10, .int .i64 v1_0)]) (fun (v1_0 : Int) => []) [(1, _), (8, _), (9, _)] [blk bk1 _ _] 0 hp sb ms ?_
  clear hp
  rintro v1_0 x1 hp hx1
  replace hp := dd hp
  refine kq [1, 8, 9, 10] ?_
  refine s5 ?_
  refine kp [1, 8, 9, 10, 11] ?_
  refine W_cond rfl (fun hc2 => ?_) (fun hc2 => ?_)
  · replace hp := cond_t hc2 hp
    refine s6 ?_
    replace hp := idx_bind hp; obtain ⟨⟨u3_1, u3_2, u3_3⟩, hy3, hp⟩ := hp
    refine L_idxA (X := a0_2) rfl rfl rfl el27.h (RdT.old h0.2) hy3 ?_
    refine L_loadW rfl rfl (RdT.at (RdT.old h0.2) (hy3).2) (by exact agg43.h) ?_
    refine al fun bk4 => ?_
    refine s5 ?_
    replace hp := idx_gb hp; obtain ⟨⟨u4_1, u4_2, u4_3⟩, hy4, hp⟩ := hp
    replace hp := gb_any hp; obtain ⟨y5, hy5, hp⟩ := hp
    refine W_D0 [48] mix (by kernel_rfl) rfl ?_
    refine s2 ?_
    refine D_lenT GC.none (OpV.t rfl) str9.h ?_
    refine s9 ?_
    refine D_idxA (X := a0_2) (GC.some rfl rfl) (OpV.s rfl) (OpV.s rfl) el27.h (RdT.old h0.2) (fun hg => hy4 (gand (gnot hg.1.2) hg.2)) ?_
    refine s1 ?_
    refine D_load (GC.some rfl rfl) (OpV.s rfl) (fun hg => RdT.at (RdT.old h0.2) (hy4 (gand (gnot hg.1.2) hg.2)).2) one9.h rfl ?_
    refine s8 ?_
    refine D_lenP (X := u3_2) (GC.some rfl rfl) (OpV.s rfl) el41.h ?_
    refine s7 ?_
    refine D_callX (GC.some rfl rfl) fn66.h (OpVs.cons (OpV.s rfl) (OpVs.cons OpV.c (OpVs.cons (OpV.s rfl) (OpVs.nil)))) (by exact fun hg w F hF hM => i_within_walk w u3_3 0 a0_1  _ (hy5 (gnot hg.2))) ?_
    refine s20 ?_
    refine s18 ?_
    refine kp [1, 4, 8, 9, 10, 48] ?_
    refine W_cond rfl (fun hc6 => ?_) (fun hc6 => ?_)
    · replace hp := cond_t hc6 hp
      refine s4 ?_
      replace hp := map_any hp; obtain ⟨a7, hp, hx_a7⟩ := hp
      obtain rfl := hx1 _ hx_a7
      obtain rfl := Option.some.inj hp
      refine s1 ?_
      refine res1 rfl (ResOK.tmp rfl) ⟨rfl, rfl⟩ ms
    · replace hp := cond_f hc6 hp
      refine s9 ?_
      refine W_while (σ := Int) GT.dat (fun (v8_0 : Int) => [(52, .int .i64 v8_0)]) (fun (v8_0 : Int) => []) [(1, _), (4, _), (8, _), (9, _), (10, _), (50, _), (51, _)] [blk bk1 _ _, blk bk4 _ _] 0 hp sb ms ?_
      clear hp
      rintro v8_0 x8 hp hx8
      replace hp := dd hp
      refine kq [1, 4, 8, 9, 10, 50, 51, 52] ?_
      refine s5 ?_
      refine kp [1, 4, 8, 9, 10, 50, 51, 52, 53] ?_
      refine W_cond rfl (fun hc9 => ?_) (fun hc9 => ?_)
      · replace hp := cond_t hc9 hp
        refine s6 ?_
        replace hp := idx_bind hp; obtain ⟨u10, hy10, hp⟩ := hp
        refine L_idxA (X := u3_2) rfl rfl rfl el41.h (RdT.fst (RdT.snd (RdT.of (RdT.old h0.2) (hy3).2))) hy10 ?_
        refine L_load0 rfl rfl (RdT.at (RdT.fst (RdT.snd (RdT.of (RdT.old h0.2) (hy3).2))) (hy10).2) one3.h rfl ?_
        refine s4 ?_
        replace hp := ba hp; obtain ⟨y11, hy11, hp⟩ := hp
        replace hp := idx_gb hp; obtain ⟨u12, hy12, hp⟩ := hp
        refine W_D0 [73] mix (by kernel_rfl) rfl ?_
        refine s1 ?_
        refine D_callX GC.none fn53.h (OpVs.cons (OpV.t rfl) (OpVs.nil)) (by exact fun hg w F hF hM => i_isRep_walk w u10  _ hy11) ?_
        refine s9 ?_
        refine D_idxA (X := u3_2) (GC.some rfl rfl) (OpV.s rfl) (OpV.s rfl) el41.h (RdT.fst (RdT.snd (RdT.of (RdT.old h0.2) (hy3).2))) (fun hg => hy12 (gand (gnot hg.1.2) hg.2)) ?_
        refine D_load0 (GC.some rfl rfl) (OpV.s rfl) (fun hg => RdT.at (RdT.fst (RdT.snd (RdT.of (RdT.old h0.2) (hy3).2))) (hy12 (gand (gnot hg.1.2) hg.2)).2) one3.h rfl ?_
        refine s20 ?_
        refine s3 ?_
        refine kp [1, 4, 8, 9, 10, 50, 51, 52, 73] ?_
        refine W_cond rfl (fun hc13 => ?_) (fun hc13 => ?_)
        · replace hp := cond_t hc13 hp
          refine s4 ?_
          replace hp := map_any hp; obtain ⟨a14, hp, hx_a14⟩ := hp
          obtain rfl := hx8 _ hx_a14
          replace hp := map_any hp; obtain ⟨a15, hp, hx_a15⟩ := hp
          obtain rfl := hx1 _ hx_a15
          obtain rfl := Option.some.inj hp
          refine s1 ?_
          refine res1 rfl (ResOK.tmp rfl) ⟨rfl, rfl⟩ ms
        · replace hp := cond_f hc13 hp
          refine s5 ?_
          exact ⟨IntKind.wrap .i64 (v8_0 + 1), sb, (.sub ms), some_eq hp⟩
      · replace hp := cond_f hc9 hp
        refine W_exit ?_
        replace hp := map_any hp; obtain ⟨a16, hp, hx_a16⟩ := hp
        obtain rfl := hx8 _ hx_a16
        refine s4 ?_
        exact ⟨IntKind.wrap .i64 (v1_0 + 1), sb, (.sub ms), some_eq hp⟩
  · replace hp := cond_f hc2 hp
    refine W_exit ?_
    replace hp := map_any hp; obtain ⟨a17, hp, hx_a17⟩ := hp
    obtain rfl := hx1 _ hx_a17
    refine s1 ?_
    replace hp := ba hp; obtain ⟨y18, hy18, hp⟩ := hp
    refine W_D0 [2] mix (by kernel_rfl) rfl ?_
    refine s2 ?_
    refine D_callX GC.none fn66.h (OpVs.cons (OpV.t rfl) (OpVs.cons OpV.c (OpVs.cons OpV.c (OpVs.nil)))) (by exact fun hg w F hF hM => i_within_walk w a0_1 0 1000  _ hy18) ?_
    refine s3 ?_
    refine D_lenP (X := a0_2) (GC.some rfl rfl) (OpV.s rfl) el27.h ?_
    refine s15 ?_
    obtain rfl := Option.some.inj hp
    refine s1 ?_
    refine res1 rfl (ResOK.tmp rfl) ⟨rfl, rfl⟩ ms
noncomputable def s_l18At (a0 : D_Ups) (a1 : ByteArray) : Option Int :=
  whileP (fun s1 : Int => cond (decide (s1 < (a0.2.length : Int))) (Option.bind (idx a0.2 s1) (fun y3 => cond (decide (y3.1 = a1)) (Option.map .inr (some s1)) (some (.inl (IntKind.wrap .i64 (s1 + 1)))))) (Option.map .inr (some (-1)))) 0
theorem s_l18At_walk (w : World) (a0 : T_Ups) (a1 : ByteArray) (h0 : GT.rd w [] a0) (r : Int) (hp : s_l18At (GT.dat a0) a1 = some r) : Spec Tryz.prog 57 [.agg (GT.cells a0).toArray, .string a1].toArray w [] (IsV (.int .i64 r)) := by
  obtain ⟨a0_1, a0_2⟩ := a0
  change Spec _ _ ([Value.agg #[.int .i64 a0_1, (TL.hdr a0_2)], .string a1] : List Value).toArray w [] _
  refine Spec.intro Tryz.func57 rfl Tryz.ntmps57 rfl ?_
  unfold s_l18At at hp
  replace hp := dd hp
  refine s2 ?_
  refine bx fun bk2 => ?_
  refine s8 ?_
  refine W_while (σ := Int) GT.dat (fun (v1_0 : Int) => [(5, .int .i64 v1_0)]) (fun (v1_0 : Int) => []) [(1, _), (2, _)] [blk bk2 _ _] 0 hp sb ms ?_
  clear hp
  rintro v1_0 x1 hp hx1
  replace hp := dd hp
  refine kq [1, 2, 5] ?_
  refine s9 ?_
  refine kp [1, 2, 5, 10] ?_
  refine W_cond rfl (fun hc2 => ?_) (fun hc2 => ?_)
  · replace hp := cond_t hc2 hp
    refine s8 ?_
    replace hp := idx_bind hp; obtain ⟨⟨u3_1, u3_2, u3_3⟩, hy3, hp⟩ := hp
    refine L_idxA (X := a0_2) rfl rfl rfl el27.h (RdT.old h0.2) hy3 ?_
    refine s1 ?_
    refine L_load rfl rfl (RdT.at (RdT.old h0.2) (hy3).2) one9.h rfl ?_
    refine s3 ?_
    refine kp [1, 2, 5, 20] ?_
    refine W_cond rfl (fun hc4 => ?_) (fun hc4 => ?_)
    · replace hp := cond_t hc4 hp
      refine s5 ?_
      replace hp := map_any hp; obtain ⟨a5, hp, hx_a5⟩ := hp
      obtain rfl := hx1 _ hx_a5
      obtain rfl := Option.some.inj hp
      refine s1 ?_
      refine res1 rfl (ResOK.tmp rfl) ⟨rfl, rfl⟩ ms
    · replace hp := cond_f hc4 hp
      refine s6 ?_
      exact ⟨IntKind.wrap .i64 (v1_0 + 1), sb, (.sub ms), some_eq hp⟩
  · replace hp := cond_f hc2 hp
    refine W_exit ?_
    replace hp := map_any hp; obtain ⟨a6, hp, hx_a6⟩ := hp
    obtain rfl := hx1 _ hx_a6
    refine s4 ?_
    obtain rfl := Option.some.inj hp
    refine s1 ?_
    refine res1 rfl (ResOK.tmp rfl) ⟨rfl, rfl⟩ ms
noncomputable def i_Ups_at_c1 (a0 : D_Up) (c0 : ByteArray) : Option Bool :=
  some (decide (a0.1 = c0))
theorem i_Ups_at_c1_walk (w : World) (a0 : T_Up) (b0 : Nat) (c0 : ByteArray) (h0 : GT.rd w [] a0) (hb0 : Cells w [] b0 0 (GT.cells c0)) (hc0 : GT.rd w [] c0) (r : Bool) (hp : i_Ups_at_c1 (GT.dat a0) c0 = some r) : Spec Tryz.prog 73 ([(.agg (GT.cells a0).toArray : Value)] ++ [Value.pointer (some ⟨b0, 0, none⟩)]).toArray w [] (IsV (.bool r)) := by
  obtain ⟨a0_1, a0_2, a0_3⟩ := a0
  change Spec _ _ ([Value.agg #[.string a0_1, (TL.hdr a0_2), .int .i64 a0_3], Value.pointer (some ⟨b0, 0, none⟩)] : List Value).toArray w [] _
  refine Spec.intro Tryz.func73 rfl Tryz.ntmps73 rfl ?_
  unfold i_Ups_at_c1 at hp
  replace hp := dd hp
  refine s2 ?_
  refine bx fun bk2 => ?_
  refine s6 ?_
  refine L_load0 rfl rfl (RdC.old hb0) one9.h rfl ?_
  refine s3 ?_
  obtain rfl := Option.some.inj hp
  refine s1 ?_
  refine res1 rfl (ResOK.tmp rfl) ⟨rfl, rfl⟩ ms
noncomputable def sl_IndexFunc_implUpimplUp (a0 : List D_Up) (a1 : D_Up → Option Bool) : Option Int :=
  whileP (fun s1 : Int => cond (decide (s1 < (a0.length : Int))) (Option.bind (idx a0 s1) (fun y3 => Option.bind (a1 (y3.1, y3.2.1, y3.2.2)) (fun y4 => cond y4 (Option.map .inr (some s1)) (some (.inl (IntKind.wrap .i64 (s1 + 1))))))) (Option.map .inr (some (-1)))) 0
theorem sl_IndexFunc_implUpimplUp_walk (w : World) (a0 : TL T_Up) (f1 : Nat) (cs1 : List Value) (a1 : D_Up → Option Bool) (h0 : GT.rd w [] a0) (hf1 : IsFn Tryz.prog f1) (hk1 : ∀ (w' : World) (F : List HP) (u0 : T_Up) (v : Bool), Holds w [] F w' → GT.rd w' [] u0 → a1 (GT.dat u0) = some v → Spec Tryz.prog f1 ([Value.agg (GT.cells u0).toArray] ++ cs1).toArray w' [] (IsV (.bool v))) (r : Int) (hp : sl_IndexFunc_implUpimplUp (GT.dat a0) a1 = some r) : Spec Tryz.prog 72 [(TL.hdr a0), .func (.func f1) #[] cs1.toArray].toArray w [] (IsV (.int .i64 r)) := by
  refine Spec.intro Tryz.func72 rfl Tryz.ntmps72 rfl ?_
  unfold sl_IndexFunc_implUpimplUp at hp
  replace hp := dd hp
  refine s12 ?_
  refine W_while (σ := Int) GT.dat (fun (v1_0 : Int) => [(8, .int .i64 v1_0)]) (fun (v1_0 : Int) => []) [(0, _), (1, _), (7, _)] [] 0 hp sb ms ?_
  clear hp
  rintro v1_0 x1 hp hx1
  replace hp := dd hp
  refine kq [0, 1, 7, 8] ?_
  refine s5 ?_
  refine kp [0, 1, 7, 8, 9] ?_
  refine W_cond rfl (fun hc2 => ?_) (fun hc2 => ?_)
  · replace hp := cond_t hc2 hp
    refine s13 ?_
    replace hp := idx_bind hp; obtain ⟨⟨u3_1, u3_2, u3_3⟩, hy3, hp⟩ := hp
    refine L_idxA (X := a0) rfl rfl rfl el27.h (RdT.old h0) hy3 ?_
    refine L_loadW rfl rfl (RdT.at (RdT.old h0) (hy3).2) (by exact agg43.h) ?_
    replace hp := ba hp; obtain ⟨y4, hy4, hp⟩ := hp
    refine L_callVX rfl rfl hf1 rfl (by exact fun w hw => hk1 w _ (u3_1, u3_2, u3_3) y4 hw (RdT.now (RdT.pair RdT.str (RdT.pair (RdT.fst (RdT.snd (RdT.of (RdT.old h0) (hy3).2))) RdT.int)) hw) hy4) ?_
    refine s1 ?_
    refine kp [0, 1, 5, 7, 8, 16] ?_
    refine W_cond rfl (fun hc5 => ?_) (fun hc5 => ?_)
    · replace hp := cond_t hc5 hp
      refine s5 ?_
      replace hp := map_any hp; obtain ⟨a6, hp, hx_a6⟩ := hp
      obtain rfl := hx1 _ hx_a6
      obtain rfl := Option.some.inj hp
      refine s1 ?_
      refine res1 rfl (ResOK.tmp rfl) ⟨rfl, rfl⟩ ms
    · replace hp := cond_f hc5 hp
      refine s5 ?_
      exact ⟨IntKind.wrap .i64 (v1_0 + 1), sb, (.sub ms), some_eq hp⟩
  · replace hp := cond_f hc2 hp
    refine W_exit ?_
    replace hp := map_any hp; obtain ⟨a7, hp, hx_a7⟩ := hp
    obtain rfl := hx1 _ hx_a7
    refine s4 ?_
    obtain rfl := Option.some.inj hp
    refine s1 ?_
    refine res1 rfl (ResOK.tmp rfl) ⟨rfl, rfl⟩ ms
noncomputable def i_Ups_at (a0 : D_Ups) (a1 : ByteArray) : Option Int :=
  Option.bind (sl_IndexFunc_implUpimplUp a0.2 (fun z0 => i_Ups_at_c1 z0 a1)) (fun y1 => some y1)
theorem i_Ups_at_walk (w : World) (a0 : T_Ups) (a1 : ByteArray) (h0 : GT.rd w [] a0) (r : Int) (hp : i_Ups_at (GT.dat a0) a1 = some r) : Spec Tryz.prog 52 [.agg (GT.cells a0).toArray, .string a1].toArray w [] (IsV (.int .i64 r)) := by
  obtain ⟨a0_1, a0_2⟩ := a0
  change Spec _ _ ([Value.agg #[.int .i64 a0_1, (TL.hdr a0_2)], .string a1] : List Value).toArray w [] _
  refine Spec.intro Tryz.func52 rfl Tryz.ntmps52 rfl ?_
  unfold i_Ups_at at hp
  replace hp := dd hp
  refine s2 ?_
  refine bx fun bk2 => ?_
  refine bx fun bk3 => ?_
  refine s6 ?_
  refine L_makeFunc (fs := []) (cs := [.tmp 3]) rfl rfl rfl ?_
  replace hp := ba hp; obtain ⟨y1, hy1, hp⟩ := hp
  refine L_callX rfl fn72.h rfl (by exact fun w hw => sl_IndexFunc_implUpimplUp_walk w a0_2 73 [Value.pointer (some ⟨bk3, 0, none⟩)] (fun z0 => i_Ups_at_c1 z0 a1) (RdT.now (RdT.old h0.2) hw) fn73.h (fun w' F u0 v hF hu0 hv => i_Ups_at_c1_walk w' u0 bk3 a1 hu0 ((cells_of_blk mm hw.sees).carry hF) (rd_carry (RdT.now RdT.str hw) hF) v hv) _ hy1) ?_
  refine s2 ?_
  obtain rfl := Option.some.inj hp
  refine s1 ?_
  refine res1 rfl (ResOK.tmp rfl) ⟨rfl, rfl⟩ ms
noncomputable def i_Ups_nodes (a0 : D_Ups) (a1 : ByteArray) : Option (List Int) :=
  Option.bind (i_Ups_at (a0.1, a0.2) a1) (fun y1 => cond (decide (0 ≤ y1)) (Option.bind (idx a0.2 y1) (fun y3 => some y3.2.1)) (some ([] : List Int)))
theorem i_Ups_nodes_walk (w : World) (a0 : T_Ups) (a1 : ByteArray) (h0 : GT.rd w [] a0) (r : (List Int)) (hp : i_Ups_nodes (GT.dat a0) a1 = some r) : Spec Tryz.prog 43 [.agg (GT.cells a0).toArray, .string a1].toArray w [] (fun v M => ∃ (x0 : TL Int), v = (TL.hdr x0) ∧ GT.dat x0 = r ∧ M = [] ∧ (∀ (w' : World) (S : List Nat), GT.rd w' S a0 → GT.rd w' S x0)) := by
  obtain ⟨a0_1, a0_2⟩ := a0
  change Spec _ _ ([Value.agg #[.int .i64 a0_1, (TL.hdr a0_2)], .string a1] : List Value).toArray w [] _
  refine Spec.intro Tryz.func43 rfl Tryz.ntmps43 rfl ?_
  unfold i_Ups_nodes at hp
  replace hp := dd hp
  refine s2 ?_
  refine bx fun bk2 => ?_
  refine L_assign (v := (TL.hdr (TL.nil Int 0))) rfl rfl ?_
  refine s6 ?_
  replace hp := ba hp; obtain ⟨y1, hy1, hp⟩ := hp
  refine L_callX rfl fn52.h rfl (by exact fun w hw => i_Ups_at_walk w (a0_1, a0_2) a1 (RdT.now (RdT.pair RdT.int (RdT.old h0.2)) hw) _ hy1) ?_
  refine s7 ?_
  refine kp [2, 5, 10] ?_
  refine W_cond rfl (fun hc2 => ?_) (fun hc2 => ?_)
  · replace hp := cond_t hc2 hp
    refine s5 ?_
    replace hp := idx_bind hp; obtain ⟨⟨u3_1, u3_2, u3_3⟩, hy3, hp⟩ := hp
    refine L_idxA (X := a0_2) rfl rfl rfl el27.h (RdT.old h0.2) hy3 ?_
    refine s1 ?_
    refine L_load rfl rfl (RdT.at (RdT.old h0.2) (hy3).2) one41.h rfl ?_
    refine s2 ?_
    obtain rfl := Option.some.inj hp
    refine s1 ?_
    refine res1 rfl (ResOK.tmp rfl) ⟨u3_2, rfl, rfl, rfl, (fun w' S h0 => (RdO.fst (RdO.snd (RdO.of (RdO.old h0.2) (hy3).2))))⟩ ms
  · replace hp := cond_f hc2 hp
    refine s3 ?_
    refine L_assign (v := (TL.hdr (TL.nil Int 0))) rfl rfl ?_
    refine s1 ?_
    obtain rfl := Option.some.inj hp
    refine s1 ?_
    refine res1 rfl (ResOK.tmp rfl) ⟨(TL.nil Int 0), rfl, rfl, rfl, (fun w' S h0 => (RdO.nil 0))⟩ ms
noncomputable def i_UpHas (a0 : D_Ups) (a1 : ByteArray) : Option Int :=
  Option.bind (i_UpsOk (a0.1, a0.2)) (fun y1 => cond (!y1) (some 0) (Option.bind (i_Ups_nodes (a0.1, a0.2) a1) (fun y3 => some (y3.length : Int))))
theorem i_UpHas_walk (w : World) (a0 : T_Ups) (a1 : ByteArray) (h0 : GT.rd w [] a0) (r : Int) (hp : i_UpHas (GT.dat a0) a1 = some r) : Spec Tryz.prog 15 [.agg (GT.cells a0).toArray, .string a1].toArray w [] (IsV (.int .i64 r)) := by
  obtain ⟨a0_1, a0_2⟩ := a0
  change Spec _ _ ([Value.agg #[.int .i64 a0_1, (TL.hdr a0_2)], .string a1] : List Value).toArray w [] _
  refine Spec.intro Tryz.func15 rfl Tryz.ntmps15 rfl ?_
  unfold i_UpHas at hp
  replace hp := dd hp
  refine s2 ?_
  refine bx fun bk2 => ?_
  refine s6 ?_
  replace hp := ba hp; obtain ⟨y1, hy1, hp⟩ := hp
  refine L_callX rfl fn31.h rfl (by exact fun w hw => i_UpsOk_walk w (a0_1, a0_2) (RdT.now (RdT.pair RdT.int (RdT.old h0.2)) hw) _ hy1) ?_
  refine s2 ?_
  refine kp [1, 2, 7] ?_
  refine W_cond rfl (fun hc2 => ?_) (fun hc2 => ?_)
  · replace hp := cond_t hc2 hp
    refine s4 ?_
    obtain rfl := Option.some.inj hp
    refine s1 ?_
    refine res1 rfl (ResOK.tmp rfl) ⟨rfl, rfl⟩ ms
  · replace hp := cond_f hc2 hp
    refine s5 ?_
    replace hp := ba hp; obtain ⟨y3, hy3, hp⟩ := hp
    refine L_callR rfl fn43.h rfl (by exact fun w hw => i_Ups_nodes_walk w (a0_1, a0_2) a1 (RdT.now (RdT.pair RdT.int (RdT.old h0.2)) hw) _ hy3) ?_
    rintro _ _ ⟨y3x0, rfl, rfl, rfl, hby3x0⟩
    refine sc ?_
    replace hp := dd hp
    refine s3 ?_
    obtain rfl := Option.some.inj hp
    refine s1 ?_
    refine res1 rfl (ResOK.tmp rfl) ⟨rfl, rfl⟩ ms
noncomputable def i_copyUps (a0 : D_Ups) : Option D_Ups :=
  whileP (fun s1 : Int × (List D_Up) => cond (decide (s1.1 < (a0.2.length : Int))) (Option.bind (idx a0.2 s1.1) (fun y3 => Option.bind (appP ([] : List Int) y3.2.1) (fun y4 => Option.bind (appP s1.2 [(y3.1, y4, y3.2.2)]) (fun y7 => some (.inl ((IntKind.wrap .i64 (s1.1 + 1), y7))))))) (Option.map .inr (some (a0.1, s1.2)))) (0, ([] : List D_Up))
theorem i_copyUps_walk (w : World) (a0 : T_Ups) (h0 : GT.rd w [] a0) (r : D_Ups) (hp : i_copyUps (GT.dat a0) = some r) : Spec Tryz.prog 33 [.agg (GT.cells a0).toArray].toArray w [] (fun v M => ∃ (x0 : T_Ups), v = .agg (GT.cells x0).toArray ∧ GT.dat x0 = r ∧ M = [treeH x0]) := by
  obtain ⟨a0_1, a0_2⟩ := a0
  change Spec _ _ ([Value.agg #[.int .i64 a0_1, (TL.hdr a0_2)]] : List Value).toArray w [] _
  refine Spec.intro Tryz.func33 rfl Tryz.ntmps33 rfl ?_
  unfold i_copyUps at hp
  replace hp := dd hp
  refine s2 ?_
  refine bx fun bk1 => ?_
  refine al fun bk2 => ?_
  refine s5 ?_
  refine L_build (xs := [(0, .tmp 7)]) (cs := [.int .i64 a0_1, (TL.hdr (TL.nil T_Up 0))]) rfl rfl bld29.h rfl ?_
  refine al fun bk3 => ?_
  refine s11 ?_
  refine W_conv (M' := treeH (TL.nil T_Up 0) :: _) (fun w h => addNilT (τ := T_Up) 0 h) ?_
  refine W_while (σ := Int × (TL T_Up)) GT.dat (fun ((v1_0, v1_1) : Int × (TL T_Up)) => [(12, .int .i64 v1_0)]) (fun ((v1_0, v1_1) : Int × (TL T_Up)) => [blk bk3 [.int .i64 a0_1, (TL.hdr v1_1)] 29, treeH v1_1]) [(2, _), (3, _), (10, _), (11, _)] [blk bk2 _ _] (0, (TL.nil T_Up 0)) hp sb ms ?_
  clear hp
  rintro ⟨v1_0, v1_1⟩ x1 hp hx1
  replace hp := dd hp
  refine kq [2, 3, 10, 11, 12] ?_
  refine s5 ?_
  refine kp [2, 3, 10, 11, 12, 13] ?_
  refine W_cond rfl (fun hc2 => ?_) (fun hc2 => ?_)
  · replace hp := cond_t hc2 hp
    refine s5 ?_
    replace hp := idx_bind hp; obtain ⟨⟨u3_1, u3_2, u3_3⟩, hy3, hp⟩ := hp
    refine L_idxA (X := a0_2) rfl rfl rfl el27.h (RdT.old h0.2) hy3 ?_
    refine L_loadW rfl rfl (RdT.at (RdT.old h0.2) (hy3).2) (by exact agg43.h) ?_
    refine al fun bk5 => ?_
    refine s2 ?_
    refine W_conv (M' := treeH (TL.nil Int 0) :: _) (fun w h => addNilT (τ := Int) 0 h) ?_
    replace hp := ba hp; obtain ⟨y4, hy4, hp⟩ := hp
    refine W_DS (pre := [_, _, _, _, _, _, _, _, _, _, _]) (suf := [_, _, _]) [17, 26] [treeH (TL.nil Int 0)] _ pc mix (by kernel_rfl) (by kernel_rfl) rfl ?_
    refine s6 ?_
    refine D_appT (X := (TL.nil Int 0)) (Y := u3_2) (OpV.c (v := (TL.hdr (TL.nil Int 0)))) (OpV.t rfl) el41.h rfl rfl pk (RdT.fst (RdT.snd (RdT.of (RdT.old h0.2) (hy3).2))) hy4 (by decide) ?_
    refine s2 ?_
    refine D_buildO (τ := Int) (t := 22) (xs := [(0, .tmp 19), (1, .tmp 22), (2, .tmp 24)]) (ps := fun u => [(0, .string u3_1), (1, u), (2, .int .i64 u3_3)]) (cs := fun u => [.string u3_1, u, .int .i64 u3_3]) rfl (fun u => (OpVp.cons (OpV.t rfl) (OpVp.cons (OpV.t rfl) (OpVp.cons (OpV.t rfl) (OpVp.nil))))) bld43.h (fun X => rfl) (by kernel_rfl) ?_
    refine D_bs1O (t := 25) rfl el27.h rfl (by decide) (by decide) (fun X => rfl) (by kernel_rfl) ?_
    refine s1 ?_
    refine Give_R rfl rfl ?_
    rintro _ _ ⟨X5, bb26, rfl, rfl, rfl⟩
    simp only [List.cons_append, List.nil_append]
    refine s11 ?_
    replace hp := ba hp; obtain ⟨y7, hy7, hp⟩ := hp
    refine jL ((u3_1, X5, u3_3) : T_Up) ?_
    refine L_app1 (X := v1_1) ((u3_1, X5, u3_3) : T_Up) rfl rfl rfl el27.h rfl rfl pk mm pk hy7 (by decide) (fun X6 hdX6 => ?_)
    subst hdX6
    refine s7 ?_
    exact ⟨(IntKind.wrap .i64 (v1_0 + 1), X6), sb, (.sub ms), some_eq hp⟩
  · replace hp := cond_f hc2 hp
    refine W_exit ?_
    replace hp := map_any hp; obtain ⟨a8, hp, hx_a8⟩ := hp
    obtain rfl := hx1 _ hx_a8
    refine s5 ?_
    obtain rfl := Option.some.inj hp
    refine jW ((a0_1, v1_1) : T_Ups) ?_
    refine s1 ?_
    refine res1 rfl (ResOK.cell rfl mm (by exact agg29.h)) ⟨(a0_1, v1_1), rfl, rfl, rfl⟩ ms
noncomputable def s_l18Has (a0 : List Int) (a1 : Int) : Option Bool :=
  whileP (fun s1 : Int => cond (decide (s1 < (a0.length : Int))) (Option.bind (idx a0 s1) (fun y3 => cond (decide (y3 = a1)) (Option.map .inr (some true)) (some (.inl (IntKind.wrap .i64 (s1 + 1)))))) (Option.map .inr (some false))) 0
theorem s_l18Has_walk (w : World) (a0 : TL Int) (a1 : Int) (h0 : GT.rd w [] a0) (r : Bool) (hp : s_l18Has (GT.dat a0) a1 = some r) : Spec Tryz.prog 51 [(TL.hdr a0), .int .i64 a1].toArray w [] (IsV (.bool r)) := by
  refine Spec.intro Tryz.func51 rfl Tryz.ntmps51 rfl ?_
  unfold s_l18Has at hp
  replace hp := dd hp
  refine s10 ?_
  refine W_while (σ := Int) GT.dat (fun (v1_0 : Int) => [(5, .int .i64 v1_0)]) (fun (v1_0 : Int) => []) [(0, _), (1, _)] [] 0 hp sb ms ?_
  clear hp
  rintro v1_0 x1 hp hx1
  replace hp := dd hp
  refine kq [0, 1, 5] ?_
  refine s8 ?_
  refine kp [0, 1, 5, 9] ?_
  refine W_cond rfl (fun hc2 => ?_) (fun hc2 => ?_)
  · replace hp := cond_t hc2 hp
    refine s7 ?_
    replace hp := idx_bind hp; obtain ⟨u3, hy3, hp⟩ := hp
    refine L_idxA (X := a0) rfl rfl rfl el41.h (RdT.old h0) hy3 ?_
    refine L_load0 rfl rfl (RdT.at (RdT.old h0) (hy3).2) one3.h rfl ?_
    refine s3 ?_
    refine kp [0, 1, 5, 17] ?_
    refine W_cond rfl (fun hc4 => ?_) (fun hc4 => ?_)
    · replace hp := cond_t hc4 hp
      refine s4 ?_
      replace hp := map_any hp; obtain ⟨a5, hp, hx_a5⟩ := hp
      obtain rfl := hx1 _ hx_a5
      obtain rfl := Option.some.inj hp
      refine s1 ?_
      refine res1 rfl (ResOK.tmp rfl) ⟨rfl, rfl⟩ ms
    · replace hp := cond_f hc4 hp
      refine s6 ?_
      exact ⟨IntKind.wrap .i64 (v1_0 + 1), sb, (.sub ms), some_eq hp⟩
  · replace hp := cond_f hc2 hp
    refine W_exit ?_
    replace hp := map_any hp; obtain ⟨a6, hp, hx_a6⟩ := hp
    obtain rfl := hx1 _ hx_a6
    refine s4 ?_
    obtain rfl := Option.some.inj hp
    refine s1 ?_
    refine res1 rfl (ResOK.tmp rfl) ⟨rfl, rfl⟩ ms
noncomputable def s_l18With (a0 : List Int) (a1 : Int) (a2 : Bool) : Option (List Int) :=
  Option.bind (some ([] : List Int)) (fun y2 => whileP (fun s3 : (List Int) × Int => cond (decide (s3.2 < 3)) (gb ((!((decide (s3.2 = a1)) && a2)) && (!decide (s3.2 = a1))) (s_l18Has a0 s3.2) (fun y5 => cond (((decide (s3.2 = a1)) && a2) || ((!decide (s3.2 = a1)) && y5)) (Option.bind (appP s3.1 [s3.2]) (fun y8 => some (.inl ((y8, IntKind.wrap .i64 (s3.2 + 1)))))) (some (.inl ((s3.1, IntKind.wrap .i64 (s3.2 + 1))))))) (Option.map .inr (some s3.1))) (y2, 0))
theorem s_l18With_walk (w : World) (a0 : TL Int) (a1 : Int) (a2 : Bool) (h0 : GT.rd w [] a0) (r : (List Int)) (hp : s_l18With (GT.dat a0) a1 a2 = some r) : Spec Tryz.prog 58 [(TL.hdr a0), .int .i64 a1, .bool a2].toArray w [] (fun v M => ∃ (x0 : TL Int), v = (TL.hdr x0) ∧ GT.dat x0 = r ∧ M = [treeH x0]) := by
  refine Spec.intro Tryz.func58 rfl Tryz.ntmps58 rfl ?_
  unfold s_l18With at hp
  replace hp := dd hp
  refine s2 ?_
  refine L_assign (v := (TL.hdr (TL.nil Int 0))) rfl rfl ?_
  refine s3 ?_
  replace hp := ba hp; obtain ⟨y2, hy2, hp⟩ := hp
  refine L_mk0 Int rfl el41.h (fun X1 hdX1 => ?_)
  obtain rfl : GT.dat X1 = y2 := hdX1.trans (Option.some.inj hy2)
  clear hy2 hdX1
  refine s8 ?_
  refine W_while (σ := (TL Int) × Int) GT.dat (fun ((v3_0, v3_1) : (TL Int) × Int) => [(7, (TL.hdr v3_0)), (8, .int .i64 v3_1)]) (fun ((v3_0, v3_1) : (TL Int) × Int) => [treeH v3_0]) [(0, _), (1, _), (2, _)] [] (X1, 0) hp sb ms ?_
  clear hp
  rintro ⟨v3_0, v3_1⟩ x3 hp hx3
  replace hp := dd hp
  refine kq [0, 1, 2, 7, 8] ?_
  refine s6 ?_
  refine kp [0, 1, 2, 7, 8, 11] ?_
  refine W_cond rfl (fun hc4 => ?_) (fun hc4 => ?_)
  · replace hp := cond_t hc4 hp
    refine s4 ?_
    replace hp := gb_any hp; obtain ⟨y5, hy5, hp⟩ := hp
    refine W_D0 [29] mix (by kernel_rfl) rfl ?_
    refine s13 ?_
    refine D_callX (GC.some rfl rfl) fn51.h (OpVs.cons (OpV.s rfl) (OpVs.cons (OpV.s rfl) (OpVs.nil))) (by exact fun hg w F hF hM => s_l18Has_walk w a0 v3_1 (RdT.nowS (RdT.old h0) hF hM) _ (hy5 (gand (gnot hg.1.2) hg.2))) ?_
    refine s20 ?_
    refine kp [0, 1, 2, 7, 8, 29] ?_
    refine W_cond rfl (fun hc6 => ?_) (fun hc6 => ?_)
    · replace hp := cond_t hc6 hp
      refine s3 ?_
      refine L_buildSlice1 rfl rfl el41.h rfl (by decide) (by decide) rfl (fun bb32 => ?_)
      replace hp := ba hp; obtain ⟨y8, hy8, hp⟩ := hp
      refine L_app1F (X := v3_0) (v3_1 : Int) rfl rfl rfl el41.h rfl rfl pk mm  hy8 (by decide) (fun X7 hdX7 => ?_)
      subst hdX7
      refine s7 ?_
      exact ⟨(X7, IntKind.wrap .i64 (v3_1 + 1)), sb, (.sub ms), some_eq hp⟩
    · replace hp := cond_f hc6 hp
      refine s6 ?_
      exact ⟨(v3_0, IntKind.wrap .i64 (v3_1 + 1)), sb, (.sub ms), some_eq hp⟩
  · replace hp := cond_f hc4 hp
    refine W_exit ?_
    replace hp := map_any hp; obtain ⟨a9, hp, hx_a9⟩ := hp
    obtain rfl := hx3 _ hx_a9
    refine s5 ?_
    obtain rfl := Option.some.inj hp
    refine s1 ?_
    refine res1 rfl (ResOK.tmp rfl) ⟨v3_0, rfl, rfl, rfl⟩ ms
noncomputable def s_l18Copy (a0 : D_Ups) : Option D_Ups :=
  whileP (fun s1 : Int × (List D_Up) => cond (decide (s1.1 < (a0.2.length : Int))) (Option.bind (idx a0.2 s1.1) (fun y3 => Option.bind (some ([] : List Int)) (fun y5 => Option.bind (appP y5 y3.2.1) (fun y7 => Option.bind (appP s1.2 [(y3.1, y7, y3.2.2)]) (fun y9 => some (.inl ((IntKind.wrap .i64 (s1.1 + 1), y9)))))))) (Option.map .inr (some (a0.1, s1.2)))) (0, ([] : List D_Up))
theorem s_l18Copy_walk (w : World) (a0 : T_Ups) (h0 : GT.rd w [] a0) (r : D_Ups) (hp : s_l18Copy (GT.dat a0) = some r) : Spec Tryz.prog 35 [.agg (GT.cells a0).toArray].toArray w [] (fun v M => ∃ (x0 : T_Ups), v = .agg (GT.cells x0).toArray ∧ GT.dat x0 = r ∧ M = [treeH x0]) := by
  obtain ⟨a0_1, a0_2⟩ := a0
  change Spec _ _ ([Value.agg #[.int .i64 a0_1, (TL.hdr a0_2)]] : List Value).toArray w [] _
  refine Spec.intro Tryz.func35 rfl Tryz.ntmps35 rfl ?_
  unfold s_l18Copy at hp
  replace hp := dd hp
  refine s2 ?_
  refine bx fun bk1 => ?_
  refine al fun bk2 => ?_
  refine s5 ?_
  refine L_build (xs := [(0, .tmp 7)]) (cs := [.int .i64 a0_1, (TL.hdr (TL.nil T_Up 0))]) rfl rfl bld29.h rfl ?_
  refine al fun bk3 => ?_
  refine s8 ?_
  refine W_conv (M' := treeH (TL.nil T_Up 0) :: _) (fun w h => addNilT (τ := T_Up) 0 h) ?_
  refine W_while (σ := Int × (TL T_Up)) GT.dat (fun ((v1_0, v1_1) : Int × (TL T_Up)) => [(4, .int .i64 v1_0)]) (fun ((v1_0, v1_1) : Int × (TL T_Up)) => [blk bk3 [.int .i64 a0_1, (TL.hdr v1_1)] 29, treeH v1_1]) [(1, _), (2, _), (3, _)] [blk bk1 _ _, blk bk2 _ _] (0, (TL.nil T_Up 0)) hp sb ms ?_
  clear hp
  rintro ⟨v1_0, v1_1⟩ x1 hp hx1
  replace hp := dd hp
  refine kq [1, 2, 3, 4] ?_
  refine s9 ?_
  refine kp [1, 2, 3, 4, 13] ?_
  refine W_cond rfl (fun hc2 => ?_) (fun hc2 => ?_)
  · replace hp := cond_t hc2 hp
    refine s8 ?_
    replace hp := idx_bind hp; obtain ⟨⟨u3_1, u3_2, u3_3⟩, hy3, hp⟩ := hp
    refine L_idxA (X := a0_2) rfl rfl rfl el27.h (RdT.old h0.2) hy3 ?_
    refine L_loadW rfl rfl (RdT.at (RdT.old h0.2) (hy3).2) (by exact agg43.h) ?_
    refine al fun bk5 => ?_
    refine s4 ?_
    replace hp := ba hp; obtain ⟨y5, hy5, hp⟩ := hp
    refine L_mk0 Int rfl el41.h (fun X4 hdX4 => ?_)
    obtain rfl : GT.dat X4 = y5 := hdX4.trans (Option.some.inj hy5)
    clear hy5 hdX4
    refine s2 ?_
    replace hp := ba hp; obtain ⟨y7, hy7, hp⟩ := hp
    refine L_appT (X := X4) (Y := u3_2) rfl rfl rfl el41.h rfl rfl pk (RdT.fst (RdT.snd (RdT.of (RdT.old h0.2) (hy3).2))) hy7 (by decide) (fun X6 hdX6 => ?_)
    subst hdX6
    refine s7 ?_
    refine L_buildSlice1 rfl rfl el27.h rfl (by decide) (by decide) rfl (fun bb29 => ?_)
    replace hp := ba hp; obtain ⟨y9, hy9, hp⟩ := hp
    refine jL ((u3_1, X6, u3_3) : T_Up) ?_
    refine L_app1 (X := v1_1) ((u3_1, X6, u3_3) : T_Up) rfl rfl rfl el27.h rfl rfl pk mm pk hy9 (by decide) (fun X8 hdX8 => ?_)
    subst hdX8
    refine s8 ?_
    exact ⟨(IntKind.wrap .i64 (v1_0 + 1), X8), sb, (.sub ms), some_eq hp⟩
  · replace hp := cond_f hc2 hp
    refine W_exit ?_
    replace hp := map_any hp; obtain ⟨a10, hp, hx_a10⟩ := hp
    obtain rfl := hx1 _ hx_a10
    refine s5 ?_
    obtain rfl := Option.some.inj hp
    refine jW ((a0_1, v1_1) : T_Ups) ?_
    refine s1 ?_
    refine res1 rfl (ResOK.cell rfl mm (by exact agg29.h)) ⟨(a0_1, v1_1), rfl, rfl, rfl⟩ ms
noncomputable def s_l18Set (a0 : D_Ups) (a1 : D_Up) : Option D_Ups :=
  whileP (fun s1 : Bool × Int × (List D_Up) => cond (decide (s1.2.1 < (a0.2.length : Int))) (jbind (gb (!s1.1) (idx a0.2 s1.2.1) (fun y4 => cond ((!s1.1) && (!sLt y4.1 a1.1)) (Option.bind (appP s1.2.2 [(a1.1, a1.2.1, a1.2.2)]) (fun y7 => some (.inl ((true, y7))))) (some (.inl ((s1.1, s1.2.2)))))) (fun s3 : Bool × (List D_Up) => Option.bind (idx a0.2 s1.2.1) (fun y8 => cond (!decide (y8.1 = a1.1)) (Option.bind (idx a0.2 s1.2.1) (fun y10 => Option.bind (appP s3.2 [(y10.1, y10.2.1, y10.2.2)]) (fun y12 => some (.inl ((s3.1, IntKind.wrap .i64 (s1.2.1 + 1), y12)))))) (some (.inl ((s3.1, IntKind.wrap .i64 (s1.2.1 + 1), s3.2))))))) (Option.map .inr (cond (!s1.1) (Option.bind (appP s1.2.2 [(a1.1, a1.2.1, a1.2.2)]) (fun y16 => some (a0.1, y16))) (some (a0.1, s1.2.2))))) (decide ((a1.2.1.length : Int) = 0), 0, ([] : List D_Up))
theorem s_l18Set_walk (w : World) (a0 : T_Ups) (a1 : T_Up)  (r : D_Ups) (hp : s_l18Set (GT.dat a0) (GT.dat a1) = some r) : Spec Tryz.prog 65 [.agg (GT.cells a0).toArray, .agg (GT.cells a1).toArray].toArray w [treeH a0.2, treeH a1.2.1] (fun v M => ∃ (x0 : T_Ups), v = .agg (GT.cells x0).toArray ∧ GT.dat x0 = r ∧ M = [treeH x0]) := by
  obtain ⟨a0_1, a0_2⟩ := a0
  obtain ⟨a1_1, a1_2, a1_3⟩ := a1
  change Spec _ _ ([Value.agg #[.int .i64 a0_1, (TL.hdr a0_2)], Value.agg #[.string a1_1, (TL.hdr a1_2), .int .i64 a1_3]] : List Value).toArray w _ _
  refine Spec.intro Tryz.func65 rfl Tryz.ntmps65 rfl ?_
  unfold s_l18Set at hp
  replace hp := dd hp
  refine s2 ?_
  refine bx fun bk2 => ?_
  refine bx fun bk3 => ?_
  refine al fun bk4 => ?_
  refine s5 ?_
  refine L_build (xs := [(0, .tmp 9)]) (cs := [.int .i64 a0_1, (TL.hdr (TL.nil T_Up 0))]) rfl rfl bld29.h rfl ?_
  refine al fun bk5 => ?_
  refine s16 ?_
  refine W_conv (M' := rowH a0_2 :: elsT (a0_2.els.drop 0) :: _) (fun w h => els_start pk h) ?_
  refine W_conv (M' := condH (decide (((GT.dat a1_2).length : Int) = 0)) (treeH a1_2) :: _) (fun w h => cond_in pk h) ?_
  refine W_conv (M' := treeH (TL.nil T_Up 0) :: _) (fun w h => addNilT (τ := T_Up) 0 h) ?_
  refine W_while (σ := Bool × Int × (TL T_Up)) GT.dat (fun ((v1_0, v1_1, v1_2) : Bool × Int × (TL T_Up)) => [(6, .bool v1_0), (7, .int .i64 v1_1)]) (fun ((v1_0, v1_1, v1_2) : Bool × Int × (TL T_Up)) => [blk bk5 [.int .i64 a0_1, (TL.hdr v1_2)] 29, treeH v1_2, elsT (a0_2.els.drop (v1_1.toNat)), condH v1_0 (treeH a1_2)]) [(2, _), (3, _), (4, _), (5, _)] [blk bk2 _ _, blk bk3 _ _, blk bk4 _ _, rowH a0_2] (decide (((GT.dat a1_2).length : Int) = 0), 0, (TL.nil T_Up 0)) hp sb ms ?_
  clear hp
  rintro ⟨v1_0, v1_1, v1_2⟩ x1 hp hx1
  replace hp := dd hp
  refine kq [2, 3, 4, 5, 6, 7] ?_
  refine s9 ?_
  refine kp [2, 3, 4, 5, 6, 7, 19] ?_
  refine W_cond rfl (fun hc2 => ?_) (fun hc2 => ?_)
  · replace hp := cond_t hc2 hp
    refine s3 ?_
    refine W_jn (σ := Bool × (TL T_Up)) GT.dat (fun ((v3_0, v3_1) : Bool × (TL T_Up)) => [(6, .bool v3_0)]) (fun ((v3_0, v3_1) : Bool × (TL T_Up)) => [blk bk5 [.int .i64 a0_1, (TL.hdr v3_1)] 29, treeH v3_1, elsT (a0_2.els.drop (v1_1.toNat)), condH v3_0 (treeH a1_2)]) [(2, .pointer (some ⟨bk2, 0, none⟩)), (3, .pointer (some ⟨bk3, 0, none⟩)), (4, .pointer (some ⟨bk4, 0, none⟩)), (5, .pointer (some ⟨bk5, 0, none⟩)), (7, .int .i64 v1_1)] [blk bk2 [.int .i64 a0_1, (TL.hdr a0_2)] 29, blk bk3 [.string a1_1, (TL.hdr a1_2), .int .i64 a1_3] 43, blk bk4 [.int .i64 0, (TL.hdr (TL.nil T_Up 0))] 29, rowH a0_2] hp ?_ ?_
    · clear hp
      intro x3 hp hx3
      refine s1 ?_
      replace hp := idx_gb hp; obtain ⟨⟨u4_1, u4_2, u4_3⟩, hy4, hp⟩ := hp
      refine W_D0 [34] mix (by kernel_rfl) rfl ?_
      refine s6 ?_
      refine D_idxR (X := a0_2) (GC.some rfl rfl) (OpV.s rfl) (OpV.s rfl) el27.h mm (fun hg => hy4 hg.2) ?_
      refine s1 ?_
      refine D_load (GC.some rfl rfl) (OpV.s rfl) (fun hg => RdC.row (X := a0_2) mm (hy4 hg.2).2) one9.h rfl ?_
      refine s19 ?_
      refine kp [2, 3, 4, 5, 6, 7, 34] ?_
      refine W_cond rfl (fun hc5 => ?_) (fun hc5 => ?_)
      · replace hp := cond_t hc5 hp
        refine s5 ?_
        refine L_buildSlice1 rfl rfl el27.h rfl (by decide) (by decide) rfl (fun bb38 => ?_)
        replace hp := ba hp; obtain ⟨y7, hy7, hp⟩ := hp
        refine L_conv (M' := treeH a1_2 :: _) (fun w h => cond_out pk (by first | exact bf1 hc2 | exact bf2 hc2 | exact bf1 hc5 | exact bf2 hc5) h) ?_
        refine jL ((a1_1, a1_2, a1_3) : T_Up) ?_
        refine L_app1 (X := v1_2) ((a1_1, a1_2, a1_3) : T_Up) rfl rfl rfl el27.h rfl rfl pk mm pk hy7 (by decide) (fun X6 hdX6 => ?_)
        subst hdX6
        refine s6 ?_
        exact ⟨(true, X6), sb, ⟨_, fun w h => (condH_true (h := treeH a1_2) h), ms⟩, some_eq hp⟩
      · replace hp := cond_f hc5 hp
        refine s1 ?_
        exact ⟨(v1_0, v1_2), sb, (.sub ms), some_eq hp⟩
    · clear hp
      rintro ⟨v3_0, v3_1⟩ hp
      replace hp := dd hp
      refine kq [2, 3, 4, 5, 6, 7] ?_
      refine s1 ?_
      replace hp := idx_bind hp; obtain ⟨⟨u8_1, u8_2, u8_3⟩, hy8, hp⟩ := hp
      refine W_D0 [49] mix (by kernel_rfl) rfl ?_
      refine s3 ?_
      refine D_idxR (X := a0_2) GC.none (OpV.t rfl) (OpV.t rfl) el27.h mm (fun hg => hy8) ?_
      refine s1 ?_
      refine D_load GC.none (OpV.t rfl) (fun hg => RdC.row (X := a0_2) mm (hy8).2) one9.h rfl ?_
      refine s14 ?_
      refine kp [2, 3, 4, 5, 6, 7, 49] ?_
      refine W_cond rfl (fun hc9 => ?_) (fun hc9 => ?_)
      · replace hp := cond_t hc9 hp
        replace hp := idx_bind hp; obtain ⟨u10, hy10, hp⟩ := hp
        obtain rfl : (u8_1, u8_2, u8_3) = u10 := Option.some.inj (hy8.2.symm.trans hy10.2)
        refine W_conv (M' := treeH (u8_1, u8_2, u8_3) :: elsT (a0_2.els.drop (v1_1.toNat + 1)) :: _) (fun w h => els_next hy8.2 pk h) ?_
        refine xW ((u8_1, u8_2, u8_3) : T_Up) ?_
        refine W_DS (pre := [_, _, _, _, _, _, _, _]) (suf := [_, _, _]) [51, 57] [] _ pc mix (by kernel_rfl) (by kernel_rfl) rfl ?_
        refine s5 ?_
        refine D_idxR (X := a0_2) GC.none (OpV.t rfl) (OpV.t rfl) el27.h mm (fun hg => hy8) ?_
        refine D_loadW GC.none (OpV.t rfl) (fun hg => RdC.row (X := a0_2) mm hy8.2) (by exact agg43.h) ?_
        refine D_bs1 (OpV.t rfl) el27.h rfl (by decide) (by decide) rfl ?_
        refine s1 ?_
        refine Give_R rfl rfl ?_
        rintro _ _ ⟨bb57, rfl, rfl⟩
        simp only [List.cons_append, List.nil_append]
        refine s8 ?_
        replace hp := ba hp; obtain ⟨y12, hy12, hp⟩ := hp
        refine jL ((u8_1, u8_2, u8_3) : T_Up) ?_
        refine L_app1 (X := v3_1) ((u8_1, u8_2, u8_3) : T_Up) rfl rfl rfl el27.h rfl rfl pk mm pk hy12 (by decide) (fun X11 hdX11 => ?_)
        subst hdX11
        refine s8 ?_
        exact ⟨(v3_0, IntKind.wrap .i64 (v1_1 + 1), X11), sb, ⟨_, fun w h => (els_step hy8 mm pk h), ms⟩, some_eq hp⟩
      · replace hp := cond_f hc9 hp
        refine s6 ?_
        exact ⟨(v3_0, IntKind.wrap .i64 (v1_1 + 1), v3_1), sb, ⟨_, fun w h => (els_skip hy8 mm pk h), ms⟩, some_eq hp⟩
  · replace hp := cond_f hc2 hp
    refine W_exit ?_
    replace hp := map_any hp; obtain ⟨a13, hp, hx_a13⟩ := hp
    obtain rfl := hx1 _ hx_a13
    refine s6 ?_
    refine kp [3, 4, 5, 61] ?_
    refine W_cond rfl (fun hc14 => ?_) (fun hc14 => ?_)
    · replace hp := cond_t hc14 hp
      refine s4 ?_
      refine L_buildSlice1 rfl rfl el27.h rfl (by decide) (by decide) rfl (fun bb65 => ?_)
      replace hp := ba hp; obtain ⟨y16, hy16, hp⟩ := hp
      refine L_conv (M' := treeH a1_2 :: _) (fun w h => cond_out pk (by first | exact bf1 hc14 | exact bf2 hc14) h) ?_
      refine jL ((a1_1, a1_2, a1_3) : T_Up) ?_
      refine L_app1 (X := v1_2) ((a1_1, a1_2, a1_3) : T_Up) rfl rfl rfl el27.h rfl rfl pk mm pk hy16 (by decide) (fun X15 hdX15 => ?_)
      subst hdX15
      refine s8 ?_
      obtain rfl := Option.some.inj hp
      refine jW ((a0_1, X15) : T_Ups) ?_
      refine s1 ?_
      refine res1 rfl (ResOK.cell rfl mm (by exact agg29.h)) ⟨(a0_1, X15), rfl, rfl, rfl⟩ ms
    · replace hp := cond_f hc14 hp
      refine s6 ?_
      obtain rfl := Option.some.inj hp
      refine jW ((a0_1, v1_2) : T_Ups) ?_
      refine s1 ?_
      refine res1 rfl (ResOK.cell rfl mm (by exact agg29.h)) ⟨(a0_1, v1_2), rfl, rfl, rfl⟩ ms
noncomputable def sl_Index_intint (a0 : List Int) (a1 : Int) : Option Int :=
  whileP (fun s1 : Int => cond (decide (s1 < (a0.length : Int))) (Option.bind (idx a0 s1) (fun y3 => cond (decide (a1 = y3)) (Option.map .inr (some s1)) (some (.inl (IntKind.wrap .i64 (s1 + 1)))))) (Option.map .inr (some (-1)))) 0
theorem sl_Index_intint_walk (w : World) (a0 : TL Int) (a1 : Int) (h0 : GT.rd w [] a0) (r : Int) (hp : sl_Index_intint (GT.dat a0) a1 = some r) : Spec Tryz.prog 71 [(TL.hdr a0), .int .i64 a1].toArray w [] (IsV (.int .i64 r)) := by
  refine Spec.intro Tryz.func71 rfl Tryz.ntmps71 rfl ?_
  unfold sl_Index_intint at hp
  replace hp := dd hp
  refine s12 ?_
  refine W_while (σ := Int) GT.dat (fun (v1_0 : Int) => [(8, .int .i64 v1_0)]) (fun (v1_0 : Int) => []) [(0, _), (1, _), (7, _)] [] 0 hp sb ms ?_
  clear hp
  rintro v1_0 x1 hp hx1
  replace hp := dd hp
  refine kq [0, 1, 7, 8] ?_
  refine s5 ?_
  refine kp [0, 1, 7, 8, 9] ?_
  refine W_cond rfl (fun hc2 => ?_) (fun hc2 => ?_)
  · replace hp := cond_t hc2 hp
    refine s13 ?_
    replace hp := idx_bind hp; obtain ⟨u3, hy3, hp⟩ := hp
    refine L_idxA (X := a0) rfl rfl rfl el41.h (RdT.old h0) hy3 ?_
    refine L_load0 rfl rfl (RdT.at (RdT.old h0) (hy3).2) one3.h rfl ?_
    refine s2 ?_
    refine kp [0, 1, 5, 7, 8, 16] ?_
    refine W_cond rfl (fun hc4 => ?_) (fun hc4 => ?_)
    · replace hp := cond_t hc4 hp
      refine s5 ?_
      replace hp := map_any hp; obtain ⟨a5, hp, hx_a5⟩ := hp
      obtain rfl := hx1 _ hx_a5
      obtain rfl := Option.some.inj hp
      refine s1 ?_
      refine res1 rfl (ResOK.tmp rfl) ⟨rfl, rfl⟩ ms
    · replace hp := cond_f hc4 hp
      refine s5 ?_
      exact ⟨IntKind.wrap .i64 (v1_0 + 1), sb, (.sub ms), some_eq hp⟩
  · replace hp := cond_f hc2 hp
    refine W_exit ?_
    replace hp := map_any hp; obtain ⟨a6, hp, hx_a6⟩ := hp
    obtain rfl := hx1 _ hx_a6
    refine s4 ?_
    obtain rfl := Option.some.inj hp
    refine s1 ?_
    refine res1 rfl (ResOK.tmp rfl) ⟨rfl, rfl⟩ ms
noncomputable def sl_Contains_intint (a0 : List Int) (a1 : Int) : Option Bool :=
  Option.bind (sl_Index_intint a0 a1) (fun y1 => some (decide (0 ≤ y1)))
theorem sl_Contains_intint_walk (w : World) (a0 : TL Int) (a1 : Int) (h0 : GT.rd w [] a0) (r : Bool) (hp : sl_Contains_intint (GT.dat a0) a1 = some r) : Spec Tryz.prog 49 [(TL.hdr a0), .int .i64 a1].toArray w [] (IsV (.bool r)) := by
  refine Spec.intro Tryz.func49 rfl Tryz.ntmps49 rfl ?_
  unfold sl_Contains_intint at hp
  replace hp := dd hp
  refine s8 ?_
  replace hp := ba hp; obtain ⟨y1, hy1, hp⟩ := hp
  refine L_callX rfl fn71.h rfl (by exact fun w hw => sl_Index_intint_walk w a0 a1 (RdT.now (RdT.old h0) hw) _ hy1) ?_
  refine s3 ?_
  obtain rfl := Option.some.inj hp
  refine s1 ?_
  refine res1 rfl (ResOK.tmp rfl) ⟨rfl, rfl⟩ ms
end Go.Proofs.SL
namespace Go.Proofs.SL
open Go
set_option maxHeartbeats 2000000
instance fn35 : FnF Tryz.prog 35 := ⟨⟨_, Tryz.func35, by kernel_rfl, rfl⟩⟩
instance fn58 : FnF Tryz.prog 58 := ⟨⟨_, Tryz.func58, by kernel_rfl, rfl⟩⟩
instance fn65 : FnF Tryz.prog 65 := ⟨⟨_, Tryz.func65, by kernel_rfl, rfl⟩⟩
noncomputable def s_UpNext (a0 : D_Ups) : Option (D_Ups × Bool) :=
  Option.bind (s_UpsOk (a0.1, a0.2)) (fun y1 => cond (!y1) (some ((0, ([] : List D_Up)), false)) (Option.bind (s_l18Copy (a0.1, a0.2)) (fun y3 => cond (decide (1000 ≤ a0.1)) (some ((y3.1, y3.2), false)) (some ((IntKind.wrap .i64 (y3.1 + 1), y3.2), true)))))
theorem s_UpNext_walk (w : World) (a0 : T_Ups) (h0 : GT.rd w [] a0) (r : D_Ups × Bool) (hp : s_UpNext (GT.dat a0) = some r) : Spec Tryz.prog 62 [.agg (GT.cells a0).toArray].toArray w [] (fun v M => ∃ (x0 : T_Ups) (x1 : Bool), v = .tuple #[.agg (GT.cells x0).toArray, .bool x1] ∧ (GT.dat x0, GT.dat x1) = r ∧ M = [treeH x0]) := by
  obtain ⟨a0_1, a0_2⟩ := a0
  change Spec _ _ ([Value.agg #[.int .i64 a0_1, (TL.hdr a0_2)]] : List Value).toArray w [] _
  refine Spec.intro Tryz.func62 rfl Tryz.ntmps62 rfl ?_
  unfold s_UpNext at hp
  replace hp := dd hp
  refine s2 ?_
  refine bx fun bk1 => ?_
  refine al fun bk2 => ?_
  refine s6 ?_
  replace hp := ba hp; obtain ⟨y1, hy1, hp⟩ := hp
  refine L_callX rfl fn12.h rfl (by exact fun w hw => s_UpsOk_walk w (a0_1, a0_2) (RdT.now (RdT.pair RdT.int (RdT.old h0.2)) hw) _ hy1) ?_
  refine s2 ?_
  refine kp [1, 2, 7] ?_
  refine W_cond rfl (fun hc2 => ?_) (fun hc2 => ?_)
  · replace hp := cond_t hc2 hp
    refine s2 ?_
    refine L_build (xs := []) (cs := [.int .i64 0, (TL.hdr (TL.nil T_Up 0))]) rfl rfl bld29.h rfl ?_
    refine s3 ?_
    obtain rfl := Option.some.inj hp
    refine W_conv (M' := treeH (TL.nil T_Up 0) :: _) (fun w h => addNilT (τ := T_Up) 0 h) ?_
    refine jW ((0, (TL.nil T_Up 0)) : T_Ups) ?_
    refine s1 ?_
    refine res2 rfl (ResOK.cell rfl mm (by exact agg29.h)) (ResOK.tmp rfl) ⟨(0, (TL.nil T_Up 0)), false, rfl, rfl, rfl⟩ ms
  · replace hp := cond_f hc2 hp
    refine s4 ?_
    replace hp := ba hp; obtain ⟨y3, hy3, hp⟩ := hp
    refine L_callR rfl fn35.h rfl (by exact fun w hw => s_l18Copy_walk w (a0_1, a0_2) (RdT.now (RdT.pair RdT.int (RdT.old h0.2)) hw) _ hy3) ?_
    rintro _ _ ⟨⟨y3x0_1, y3x0_2⟩, rfl, rfl, rfl⟩
    refine sc ?_
    replace hp := dd hp
    refine xL ((y3x0_1, y3x0_2) : T_Ups) ?_
    refine al fun bk4 => ?_
    refine s9 ?_
    refine kp [2, 4, 13] ?_
    refine W_cond rfl (fun hc4 => ?_) (fun hc4 => ?_)
    · replace hp := cond_t hc4 hp
      refine s6 ?_
      obtain rfl := Option.some.inj hp
      refine jW ((y3x0_1, y3x0_2) : T_Ups) ?_
      refine s1 ?_
      refine res2 rfl (ResOK.cell rfl mm (by exact agg29.h)) (ResOK.tmp rfl) ⟨(y3x0_1, y3x0_2), false, rfl, rfl, rfl⟩ ms
    · replace hp := cond_f hc4 hp
      refine s15 ?_
      obtain rfl := Option.some.inj hp
      refine jW ((IntKind.wrap .i64 (y3x0_1 + 1), y3x0_2) : T_Ups) ?_
      refine s1 ?_
      refine res2 rfl (ResOK.cell rfl mm (by exact agg29.h)) (ResOK.tmp rfl) ⟨(IntKind.wrap .i64 (y3x0_1 + 1), y3x0_2), true, rfl, rfl, rfl⟩ ms
noncomputable def s_UpLost (a0 : D_Ups) (a1 : ByteArray) (a2 : Int) : Option (D_Ups × Bool) :=
  Option.bind (s_UpsOk (a0.1, a0.2)) (fun y1 => cond (!y1) (some ((0, ([] : List D_Up)), false)) (Option.bind (s_l18At (a0.1, a0.2) a1) (fun y3 => gb (!(decide (y3 < 0))) (idx a0.2 y3) (fun y4 => gb (!(decide (y3 < 0))) (s_l18Has y4.2.1 a2) (fun y5 => cond ((decide (y3 < 0)) || (!y5)) (Option.bind (s_l18Copy (a0.1, a0.2)) (fun y7 => some ((y7.1, y7.2), false))) (Option.bind (idx a0.2 y3) (fun y8 => Option.bind (s_l18With y8.2.1 a2 false) (fun y9 => Option.bind (s_l18Copy (a0.1, a0.2)) (fun y10 => Option.bind (s_l18Set (y10.1, y10.2) (y8.1, y9, y8.2.2)) (fun y11 => some ((y11.1, y11.2), true)))))))))))
theorem s_UpLost_walk (w : World) (a0 : T_Ups) (a1 : ByteArray) (a2 : Int) (h0 : GT.rd w [] a0) (r : D_Ups × Bool) (hp : s_UpLost (GT.dat a0) a1 a2 = some r) : Spec Tryz.prog 63 [.agg (GT.cells a0).toArray, .string a1, .int .i64 a2].toArray w [] (fun v M => ∃ (x0 : T_Ups) (x1 : Bool), v = .tuple #[.agg (GT.cells x0).toArray, .bool x1] ∧ (GT.dat x0, GT.dat x1) = r ∧ M = [treeH x0]) := by
  obtain ⟨a0_1, a0_2⟩ := a0
  change Spec _ _ ([Value.agg #[.int .i64 a0_1, (TL.hdr a0_2)], .string a1, .int .i64 a2] : List Value).toArray w [] _
  refine Spec.intro Tryz.func63 rfl Tryz.ntmps63 rfl ?_
  unfold s_UpLost at hp
  replace hp := dd hp
  refine s2 ?_
  refine bx fun bk3 => ?_
  refine al fun bk6 => ?_
  refine s6 ?_
  replace hp := ba hp; obtain ⟨y1, hy1, hp⟩ := hp
  refine L_callX rfl fn12.h rfl (by exact fun w hw => s_UpsOk_walk w (a0_1, a0_2) (RdT.now (RdT.pair RdT.int (RdT.old h0.2)) hw) _ hy1) ?_
  refine s2 ?_
  refine kp [1, 2, 3, 6, 12] ?_
  refine W_cond rfl (fun hc2 => ?_) (fun hc2 => ?_)
  · replace hp := cond_t hc2 hp
    refine s2 ?_
    refine L_build (xs := []) (cs := [.int .i64 0, (TL.hdr (TL.nil T_Up 0))]) rfl rfl bld29.h rfl ?_
    refine s3 ?_
    obtain rfl := Option.some.inj hp
    refine W_conv (M' := treeH (TL.nil T_Up 0) :: _) (fun w h => addNilT (τ := T_Up) 0 h) ?_
    refine jW ((0, (TL.nil T_Up 0)) : T_Ups) ?_
    refine s1 ?_
    refine res2 rfl (ResOK.cell rfl mm (by exact agg29.h)) (ResOK.tmp rfl) ⟨(0, (TL.nil T_Up 0)), false, rfl, rfl, rfl⟩ ms
  · replace hp := cond_f hc2 hp
    refine s5 ?_
    replace hp := ba hp; obtain ⟨y3, hy3, hp⟩ := hp
    refine L_callX rfl fn57.h rfl (by exact fun w hw => s_l18At_walk w (a0_1, a0_2) a1 (RdT.now (RdT.pair RdT.int (RdT.old h0.2)) hw) _ hy3) ?_
    refine s4 ?_
    replace hp := idx_gb hp; obtain ⟨⟨u4_1, u4_2, u4_3⟩, hy4, hp⟩ := hp
    replace hp := gb_any hp; obtain ⟨y5, hy5, hp⟩ := hp
    refine W_D0 [29] mix (by kernel_rfl) rfl ?_
    refine s6 ?_
    refine D_idxA (X := a0_2) (GC.some rfl rfl) (OpV.s rfl) (OpV.s rfl) el27.h (RdT.old h0.2) (fun hg => hy4 (gnot hg.2)) ?_
    refine s1 ?_
    refine D_load (GC.some rfl rfl) (OpV.s rfl) (fun hg => RdT.at (RdT.old h0.2) (hy4 (gnot hg.2)).2) one41.h rfl ?_
    refine s1 ?_
    refine D_callX (GC.some rfl rfl) fn51.h (OpVs.cons (OpV.s rfl) (OpVs.cons (OpV.s rfl) (OpVs.nil))) (by exact fun hg w F hF hM => s_l18Has_walk w u4_2 a2 (RdT.nowS (RdT.fst (RdT.snd (RdT.of (RdT.old h0.2) (hy4 (gnot hg.2)).2))) hF hM) _ (hy5 (gnot hg.2))) ?_
    refine s17 ?_
    refine kp [2, 3, 6, 8, 29] ?_
    refine W_cond rfl (fun hc6 => ?_) (fun hc6 => ?_)
    · replace hp := cond_t hc6 hp
      refine s3 ?_
      replace hp := ba hp; obtain ⟨y7, hy7, hp⟩ := hp
      refine L_callR rfl fn35.h rfl (by exact fun w hw => s_l18Copy_walk w (a0_1, a0_2) (RdT.now (RdT.pair RdT.int (RdT.old h0.2)) hw) _ hy7) ?_
      rintro _ _ ⟨⟨y7x0_1, y7x0_2⟩, rfl, rfl, rfl⟩
      refine sc ?_
      replace hp := dd hp
      refine xL ((y7x0_1, y7x0_2) : T_Ups) ?_
      refine s3 ?_
      obtain rfl := Option.some.inj hp
      refine jW ((y7x0_1, y7x0_2) : T_Ups) ?_
      refine s1 ?_
      refine res2 rfl (ResOK.cell rfl mm (by exact agg29.h)) (ResOK.tmp rfl) ⟨(y7x0_1, y7x0_2), false, rfl, rfl, rfl⟩ ms
    · replace hp := cond_f hc6 hp
      refine s6 ?_
      replace hp := idx_bind hp; obtain ⟨⟨u8_1, u8_2, u8_3⟩, hy8, hp⟩ := hp
      refine L_idxA (X := a0_2) rfl rfl rfl el27.h (RdT.old h0.2) hy8 ?_
      refine L_loadW rfl rfl (RdT.at (RdT.old h0.2) (hy8).2) (by exact agg43.h) ?_
      refine al fun bk9 => ?_
      refine s7 ?_
      replace hp := ba hp; obtain ⟨y9, hy9, hp⟩ := hp
      refine L_callR rfl fn58.h rfl (by exact fun w hw => s_l18With_walk w u8_2 a2 false (RdT.now (RdT.fst (RdT.snd (RdT.of (RdT.old h0.2) (hy8).2))) hw) _ hy9) ?_
      rintro _ _ ⟨y9x0, rfl, rfl, rfl⟩
      refine sc ?_
      replace hp := dd hp
      refine s4 ?_
      replace hp := ba hp; obtain ⟨y10, hy10, hp⟩ := hp
      refine W_DS (pre := [_, _, _]) (suf := [_, _, _]) [43, 44] [] _ pc mix (by kernel_rfl) (by kernel_rfl) rfl ?_
      refine s1 ?_
      refine D_call1R (fun v M => ∃ (x0 : T_Ups), v = .agg (GT.cells x0).toArray ∧ GT.dat x0 = y10 ∧ M = [treeH x0]) fn35.h (OpVs.cons (OpV.t rfl) (OpVs.nil)) (by exact fun w F hF hM => s_l18Copy_walk w (a0_1, a0_2) (RdT.nowS (RdT.pair RdT.int (RdT.old h0.2)) hF hM) _ hy10) ?_
      refine s3 ?_
      refine Give_R rfl rfl ?_
      rintro _ _ ⟨⟨y10x0_1, y10x0_2⟩, rfl, rfl, rfl⟩
      refine s2 ?_
      refine sc ?_
      replace hp := dd hp
      refine xL ((y10x0_1, y10x0_2) : T_Ups) ?_
      replace hp := ba hp; obtain ⟨y11, hy11, hp⟩ := hp
      refine L_callM [treeH y10x0_2, treeH y9x0] _ rfl fn65.h rfl pc (by exact fun w hw => s_l18Set_walk w (y10x0_1, y10x0_2) (u8_1, y9x0, u8_3)  _ hy11) ?_
      rintro _ _ ⟨⟨y11x0_1, y11x0_2⟩, rfl, rfl, rfl⟩
      refine sc ?_
      replace hp := dd hp
      refine xL ((y11x0_1, y11x0_2) : T_Ups) ?_
      refine s3 ?_
      obtain rfl := Option.some.inj hp
      refine jW ((y11x0_1, y11x0_2) : T_Ups) ?_
      refine s1 ?_
      refine res2 rfl (ResOK.cell rfl mm (by exact agg29.h)) (ResOK.tmp rfl) ⟨(y11x0_1, y11x0_2), true, rfl, rfl, rfl⟩ ms
noncomputable def s_UpAck (a0 : D_Ups) (a1 : ByteArray) (a2 : Int) : Option (D_Ups × Bool) :=
  Option.bind (s_UpsOk (a0.1, a0.2)) (fun y1 => cond (!y1) (some ((0, ([] : List D_Up)), false)) (Option.bind (s_l18At (a0.1, a0.2) a1) (fun y3 => Option.bind (some ([] : List Int)) (fun y5 => cond (decide (0 ≤ y3)) (Option.bind (idx a0.2 y3) (fun y7 => Option.bind (s_l18With y7.2.1 a2 true) (fun y8 => Option.bind (s_l18Copy (a0.1, a0.2)) (fun y9 => Option.bind (s_l18Set (y9.1, y9.2) (a1, y8, a0.1)) (fun y10 => Option.bind (s_l9Node a2) (fun y11 => gb (!(!y11)) (s_UpsOk (y10.1, y10.2)) (fun y12 => cond ((!y11) || (!y12)) (Option.bind (s_l18Copy (a0.1, a0.2)) (fun y14 => some ((y14.1, y14.2), false))) (some ((y10.1, y10.2), true))))))))) (Option.bind (s_l18With y5 a2 true) (fun y15 => Option.bind (s_l18Copy (a0.1, a0.2)) (fun y16 => Option.bind (s_l18Set (y16.1, y16.2) (a1, y15, a0.1)) (fun y17 => Option.bind (s_l9Node a2) (fun y18 => gb (!(!y18)) (s_UpsOk (y17.1, y17.2)) (fun y19 => cond ((!y18) || (!y19)) (Option.bind (s_l18Copy (a0.1, a0.2)) (fun y21 => some ((y21.1, y21.2), false))) (some ((y17.1, y17.2), true))))))))))))
theorem s_UpAck_walk (w : World) (a0 : T_Ups) (a1 : ByteArray) (a2 : Int) (h0 : GT.rd w [] a0) (r : D_Ups × Bool) (hp : s_UpAck (GT.dat a0) a1 a2 = some r) : Spec Tryz.prog 30 [.agg (GT.cells a0).toArray, .string a1, .int .i64 a2].toArray w [] (fun v M => ∃ (x0 : T_Ups) (x1 : Bool), v = .tuple #[.agg (GT.cells x0).toArray, .bool x1] ∧ (GT.dat x0, GT.dat x1) = r ∧ M = [treeH x0]) := by
  obtain ⟨a0_1, a0_2⟩ := a0
  change Spec _ _ ([Value.agg #[.int .i64 a0_1, (TL.hdr a0_2)], .string a1, .int .i64 a2] : List Value).toArray w [] _
  refine Spec.intro Tryz.func30 rfl Tryz.ntmps30 rfl ?_
  unfold s_UpAck at hp
  replace hp := dd hp
  refine s2 ?_
  refine bx fun bk3 => ?_
  refine al fun bk6 => ?_
  refine s6 ?_
  replace hp := ba hp; obtain ⟨y1, hy1, hp⟩ := hp
  refine L_callX rfl fn12.h rfl (by exact fun w hw => s_UpsOk_walk w (a0_1, a0_2) (RdT.now (RdT.pair RdT.int (RdT.old h0.2)) hw) _ hy1) ?_
  refine s2 ?_
  refine kp [1, 2, 3, 6, 14] ?_
  refine W_cond rfl (fun hc2 => ?_) (fun hc2 => ?_)
  · replace hp := cond_t hc2 hp
    refine s2 ?_
    refine L_build (xs := []) (cs := [.int .i64 0, (TL.hdr (TL.nil T_Up 0))]) rfl rfl bld29.h rfl ?_
    refine s3 ?_
    obtain rfl := Option.some.inj hp
    refine W_conv (M' := treeH (TL.nil T_Up 0) :: _) (fun w h => addNilT (τ := T_Up) 0 h) ?_
    refine jW ((0, (TL.nil T_Up 0)) : T_Ups) ?_
    refine s1 ?_
    refine res2 rfl (ResOK.cell rfl mm (by exact agg29.h)) (ResOK.tmp rfl) ⟨(0, (TL.nil T_Up 0)), false, rfl, rfl, rfl⟩ ms
  · replace hp := cond_f hc2 hp
    refine s6 ?_
    refine L_build (xs := [(0, .tmp 16), (2, .tmp 18)]) (cs := [.string a1, (TL.hdr (TL.nil Int 0)), .int .i64 a0_1]) rfl rfl bld43.h rfl ?_
    refine al fun bk8 => ?_
    refine s6 ?_
    replace hp := ba hp; obtain ⟨y3, hy3, hp⟩ := hp
    refine L_callX rfl fn57.h rfl (by exact fun w hw => s_l18At_walk w (a0_1, a0_2) a1 (RdT.now (RdT.pair RdT.int (RdT.old h0.2)) hw) _ hy3) ?_
    refine s4 ?_
    replace hp := ba hp; obtain ⟨y5, hy5, hp⟩ := hp
    refine L_mk0 Int rfl el41.h (fun X4 hdX4 => ?_)
    obtain rfl : GT.dat X4 = y5 := hdX4.trans (Option.some.inj hy5)
    clear hy5 hdX4
    refine s8 ?_
    refine kp [2, 3, 6, 8, 9, 10, 25] ?_
    refine W_cond rfl (fun hc6 => ?_) (fun hc6 => ?_)
    · replace hp := cond_t hc6 hp
      refine s4 ?_
      replace hp := idx_bind hp; obtain ⟨⟨u7_1, u7_2, u7_3⟩, hy7, hp⟩ := hp
      refine L_idxA (X := a0_2) rfl rfl rfl el27.h (RdT.old h0.2) hy7 ?_
      refine s1 ?_
      refine L_load rfl rfl (RdT.at (RdT.old h0.2) (hy7).2) one41.h rfl ?_
      refine s6 ?_
      replace hp := ba hp; obtain ⟨y8, hy8, hp⟩ := hp
      refine L_callR rfl fn58.h rfl (by exact fun w hw => s_l18With_walk w u7_2 a2 true (RdT.now (RdT.fst (RdT.snd (RdT.of (RdT.old h0.2) (hy7).2))) hw) _ hy8) ?_
      rintro _ _ ⟨y8x0, rfl, rfl, rfl⟩
      refine sc ?_
      replace hp := dd hp
      refine s4 ?_
      replace hp := ba hp; obtain ⟨y9, hy9, hp⟩ := hp
      replace hp := ba hp; obtain ⟨y10, hy10, hp⟩ := hp
      refine W_DS (pre := [_, _, _, _, _]) (suf := [_]) [11, 39] [treeH y8x0] _ pc mix (by kernel_rfl) (by kernel_rfl) rfl ?_
      refine s1 ?_
      refine D_call1R (fun v M => ∃ (x0 : T_Ups), v = .agg (GT.cells x0).toArray ∧ GT.dat x0 = y9 ∧ M = [treeH x0]) fn35.h (OpVs.cons (OpV.t rfl) (OpVs.nil)) (by exact fun w F hF hM => s_l18Copy_walk w (a0_1, a0_2) (RdT.nowS (RdT.pair RdT.int (RdT.old h0.2)) hF hM) _ hy9) ?_
      refine s1 ?_
      refine D_callC (t := 37) (fun v M => ∃ (x0 : T_Ups), v = .agg (GT.cells x0).toArray ∧ GT.dat x0 = y9 ∧ M = [treeH x0]) (fun v M => ∃ (x0 : T_Ups), v = .agg (GT.cells x0).toArray ∧ GT.dat x0 = y10 ∧ M = [treeH x0]) [treeH y8x0] (fun u => [u, .agg #[.string a1, (TL.hdr y8x0), .int .i64 a0_1]]) pc rfl fn65.h (fun u => (OpVs.cons (OpV.t rfl) (OpVs.cons (OpV.t rfl) (OpVs.nil)))) (by rintro w F v M ⟨q0, rfl, hd, rfl⟩ hw hM; obtain ⟨q0_1, q0_2⟩ := q0; subst hd; exact Spec.pre (M' := [treeH q0_2, treeH y8x0]) (fun _ _ h => Exp.h (t := ((q0_1, q0_2) : T_Ups)) ex pk h) (s_l18Set_walk w (q0_1, q0_2) (a1, y8x0, a0_1)  _ hy10)) (by kernel_rfl) ?_
      refine D_alloc zero29.h ?_
      refine s1 ?_
      refine Give_R rfl rfl ?_
      rintro _ _ ⟨bk11, rfl, rfl⟩
      simp only [List.cons_append, List.nil_append]
      refine Give_R rfl rfl ?_
      rintro _ _ ⟨⟨y10x0_1, y10x0_2⟩, rfl, rfl, rfl⟩
      refine s4 ?_
      refine sc ?_
      replace hp := dd hp
      refine xL ((y10x0_1, y10x0_2) : T_Ups) ?_
      refine s4 ?_
      replace hp := ba hp; obtain ⟨y11, hy11, hp⟩ := hp
      replace hp := gb_any hp; obtain ⟨y12, hy12, hp⟩ := hp
      refine W_D0 [47] mix (by kernel_rfl) rfl ?_
      refine s1 ?_
      refine D_callX GC.none fn41.h (OpVs.cons (OpV.t rfl) (OpVs.nil)) (by exact fun hg w F hF hM => s_l9Node_walk w a2  _ hy11) ?_
      refine s3 ?_
      refine D_callX (GC.some rfl rfl) fn12.h (OpVs.cons (OpV.s rfl) (OpVs.nil)) (by exact fun hg w F hF hM => s_UpsOk_walk w (y10x0_1, y10x0_2) (RdT.nowS (RdT.pair RdT.int (RdT.tree mm)) hF hM) _ (hy12 (gnot hg.2))) ?_
      refine s12 ?_
      refine kp [3, 6, 11, 47] ?_
      refine W_cond rfl (fun hc13 => ?_) (fun hc13 => ?_)
      · replace hp := cond_t hc13 hp
        refine s3 ?_
        replace hp := ba hp; obtain ⟨y14, hy14, hp⟩ := hp
        refine L_callR rfl fn35.h rfl (by exact fun w hw => s_l18Copy_walk w (a0_1, a0_2) (RdT.now (RdT.pair RdT.int (RdT.old h0.2)) hw) _ hy14) ?_
        rintro _ _ ⟨⟨y14x0_1, y14x0_2⟩, rfl, rfl, rfl⟩
        refine sc ?_
        replace hp := dd hp
        refine xL ((y14x0_1, y14x0_2) : T_Ups) ?_
        refine s3 ?_
        obtain rfl := Option.some.inj hp
        refine jW ((y14x0_1, y14x0_2) : T_Ups) ?_
        refine s1 ?_
        refine res2 rfl (ResOK.cell rfl mm (by exact agg29.h)) (ResOK.tmp rfl) ⟨(y14x0_1, y14x0_2), false, rfl, rfl, rfl⟩ ms
      · replace hp := cond_f hc13 hp
        refine s7 ?_
        obtain rfl := Option.some.inj hp
        refine jW ((y10x0_1, y10x0_2) : T_Ups) ?_
        refine s1 ?_
        refine res2 rfl (ResOK.cell rfl mm (by exact agg29.h)) (ResOK.tmp rfl) ⟨(y10x0_1, y10x0_2), true, rfl, rfl, rfl⟩ ms
    · replace hp := cond_f hc6 hp
      refine s5 ?_
      replace hp := ba hp; obtain ⟨y15, hy15, hp⟩ := hp
      refine L_callR rfl fn58.h rfl (by exact fun w hw => s_l18With_walk w X4 a2 true (RdT.now (RdT.tree mm) hw) _ hy15) ?_
      rintro _ _ ⟨y15x0, rfl, rfl, rfl⟩
      refine sc ?_
      replace hp := dd hp
      refine s4 ?_
      replace hp := ba hp; obtain ⟨y16, hy16, hp⟩ := hp
      replace hp := ba hp; obtain ⟨y17, hy17, hp⟩ := hp
      refine W_DS (pre := [_, _, _, _, _]) (suf := [_]) [11, 39] [treeH y15x0] _ pc mix (by kernel_rfl) (by kernel_rfl) rfl ?_
      refine s1 ?_
      refine D_call1R (fun v M => ∃ (x0 : T_Ups), v = .agg (GT.cells x0).toArray ∧ GT.dat x0 = y16 ∧ M = [treeH x0]) fn35.h (OpVs.cons (OpV.t rfl) (OpVs.nil)) (by exact fun w F hF hM => s_l18Copy_walk w (a0_1, a0_2) (RdT.nowS (RdT.pair RdT.int (RdT.old h0.2)) hF hM) _ hy16) ?_
      refine s1 ?_
      refine D_callC (t := 37) (fun v M => ∃ (x0 : T_Ups), v = .agg (GT.cells x0).toArray ∧ GT.dat x0 = y16 ∧ M = [treeH x0]) (fun v M => ∃ (x0 : T_Ups), v = .agg (GT.cells x0).toArray ∧ GT.dat x0 = y17 ∧ M = [treeH x0]) [treeH y15x0] (fun u => [u, .agg #[.string a1, (TL.hdr y15x0), .int .i64 a0_1]]) pc rfl fn65.h (fun u => (OpVs.cons (OpV.t rfl) (OpVs.cons (OpV.t rfl) (OpVs.nil)))) (by rintro w F v M ⟨q0, rfl, hd, rfl⟩ hw hM; obtain ⟨q0_1, q0_2⟩ := q0; subst hd; exact Spec.pre (M' := [treeH q0_2, treeH y15x0]) (fun _ _ h => Exp.h (t := ((q0_1, q0_2) : T_Ups)) ex pk h) (s_l18Set_walk w (q0_1, q0_2) (a1, y15x0, a0_1)  _ hy17)) (by kernel_rfl) ?_
      refine D_alloc zero29.h ?_
      refine s1 ?_
      refine Give_R rfl rfl ?_
      rintro _ _ ⟨bk11, rfl, rfl⟩
      simp only [List.cons_append, List.nil_append]
      refine Give_R rfl rfl ?_
      rintro _ _ ⟨⟨y17x0_1, y17x0_2⟩, rfl, rfl, rfl⟩
      refine s4 ?_
      refine sc ?_
      replace hp := dd hp
      refine xL ((y17x0_1, y17x0_2) : T_Ups) ?_
      refine s4 ?_
      replace hp := ba hp; obtain ⟨y18, hy18, hp⟩ := hp
      replace hp := gb_any hp; obtain ⟨y19, hy19, hp⟩ := hp
      refine W_D0 [47] mix (by kernel_rfl) rfl ?_
      refine s1 ?_
      refine D_callX GC.none fn41.h (OpVs.cons (OpV.t rfl) (OpVs.nil)) (by exact fun hg w F hF hM => s_l9Node_walk w a2  _ hy18) ?_
      refine s3 ?_
      refine D_callX (GC.some rfl rfl) fn12.h (OpVs.cons (OpV.s rfl) (OpVs.nil)) (by exact fun hg w F hF hM => s_UpsOk_walk w (y17x0_1, y17x0_2) (RdT.nowS (RdT.pair RdT.int (RdT.tree mm)) hF hM) _ (hy19 (gnot hg.2))) ?_
      refine s12 ?_
      refine kp [3, 6, 11, 47] ?_
      refine W_cond rfl (fun hc20 => ?_) (fun hc20 => ?_)
      · replace hp := cond_t hc20 hp
        refine s3 ?_
        replace hp := ba hp; obtain ⟨y21, hy21, hp⟩ := hp
        refine L_callR rfl fn35.h rfl (by exact fun w hw => s_l18Copy_walk w (a0_1, a0_2) (RdT.now (RdT.pair RdT.int (RdT.old h0.2)) hw) _ hy21) ?_
        rintro _ _ ⟨⟨y21x0_1, y21x0_2⟩, rfl, rfl, rfl⟩
        refine sc ?_
        replace hp := dd hp
        refine xL ((y21x0_1, y21x0_2) : T_Ups) ?_
        refine s3 ?_
        obtain rfl := Option.some.inj hp
        refine jW ((y21x0_1, y21x0_2) : T_Ups) ?_
        refine s1 ?_
        refine res2 rfl (ResOK.cell rfl mm (by exact agg29.h)) (ResOK.tmp rfl) ⟨(y21x0_1, y21x0_2), false, rfl, rfl, rfl⟩ ms
      · replace hp := cond_f hc20 hp
        refine s7 ?_
        obtain rfl := Option.some.inj hp
        refine jW ((y17x0_1, y17x0_2) : T_Ups) ?_
        refine s1 ?_
        refine res2 rfl (ResOK.cell rfl mm (by exact agg29.h)) (ResOK.tmp rfl) ⟨(y17x0_1, y17x0_2), true, rfl, rfl, rfl⟩ ms
end Go.Proofs.SL
namespace Go.Proofs.SL
open Go
set_option maxHeartbeats 2000000
abbrev T_Copy := ByteArray × Int × Int
end Go.Proofs.SL
