/- The texts of the proof, part 4: the base, walks of functions, plain Lean. -/
import Derived.Test.YtndhmnoehapdhaaDoorT3
import Derived.Test.YtndhmnoehapdhaaDoorT2
namespace Go.Proofs.SL
open Go
set_option maxHeartbeats 2000000
abbrev T_Cmd := Int × Int × Int × ByteArray × ByteArray × ByteArray × Int × (TL ByteArray)
abbrev D_Cmd := Int × Int × Int × ByteArray × ByteArray × ByteArray × Int × (List ByteArray)
instance zero176 : ZerF Tryd.prog 176 [.int .i64 0, .int .i64 0, .int .i64 0, .string ByteArray.empty, .string ByteArray.empty, .string ByteArray.empty, .int .i64 0, .slice none 0 0] := ⟨by kernel_rfl⟩
instance bld176 : BldF Tryd.prog 176 [(0, 1), (1, 1), (2, 1), (3, 1), (4, 1), (5, 1), (6, 1), (7, 1)] [.int .i64 0, .int .i64 0, .int .i64 0, .string ByteArray.empty, .string ByteArray.empty, .string ByteArray.empty, .int .i64 0, .slice none 0 0] := ⟨by kernel_rfl⟩
instance agg176 : AggF Tryd.prog 176 8 := ⟨by kernel_rfl⟩
instance fld176_0 : FldF Tryd.prog 176 0 0 := ⟨by kernel_rfl⟩
instance fld176_3 : FldF Tryd.prog 176 3 3 := ⟨by kernel_rfl⟩
instance fld176_4 : FldF Tryd.prog 176 4 4 := ⟨by kernel_rfl⟩
instance fld176_5 : FldF Tryd.prog 176 5 5 := ⟨by kernel_rfl⟩
instance fld176_6 : FldF Tryd.prog 176 6 6 := ⟨by kernel_rfl⟩
instance fld176_7 : FldF Tryd.prog 176 7 7 := ⟨by kernel_rfl⟩
instance fn145 : FnF Tryd.prog 145 := ⟨⟨_, Tryd.func145, by kernel_rfl, rfl⟩⟩
instance fld176_1 : FldF Tryd.prog 176 1 1 := ⟨by kernel_rfl⟩
instance fld176_2 : FldF Tryd.prog 176 2 2 := ⟨by kernel_rfl⟩
instance el149 : ElF Tryd.prog 149 176 8 104 [.int .i64 0, .int .i64 0, .int .i64 0, .string ByteArray.empty, .string ByteArray.empty, .string ByteArray.empty, .int .i64 0, .slice none 0 0] := ⟨by kernel_rfl⟩
instance fn146 : FnF Tryd.prog 146 := ⟨⟨_, Tryd.func146, by kernel_rfl, rfl⟩⟩
instance bld53 : BldF Tryd.prog 53 [(0, 1)] [.slice none 0 0] := ⟨by kernel_rfl⟩
instance bld72 : BldF Tryd.prog 72 [(0, 1), (1, 1)] [.string ByteArray.empty, .slice none 0 0] := ⟨by kernel_rfl⟩
instance fn170 : FnF Tryd.prog 170 := ⟨⟨_, Tryd.func170, by kernel_rfl, rfl⟩⟩
instance fn165 : FnF Tryd.prog 165 := ⟨⟨_, Tryd.func165, by kernel_rfl, rfl⟩⟩
instance fn166 : FnF Tryd.prog 166 := ⟨⟨_, Tryd.func166, by kernel_rfl, rfl⟩⟩
instance bld75 : BldF Tryd.prog 75 [(0, 1), (1, 1), (2, 1)] [.string ByteArray.empty, .string ByteArray.empty, .slice none 0 0] := ⟨by kernel_rfl⟩
instance fn167 : FnF Tryd.prog 167 := ⟨⟨_, Tryd.func167, by kernel_rfl, rfl⟩⟩
instance fn168 : FnF Tryd.prog 168 := ⟨⟨_, Tryd.func168, by kernel_rfl, rfl⟩⟩
instance fn169 : FnF Tryd.prog 169 := ⟨⟨_, Tryd.func169, by kernel_rfl, rfl⟩⟩
instance fn157 : FnF Tryd.prog 157 := ⟨⟨_, Tryd.func157, by kernel_rfl, rfl⟩⟩
instance fn158 : FnF Tryd.prog 158 := ⟨⟨_, Tryd.func158, by kernel_rfl, rfl⟩⟩
instance fn159 : FnF Tryd.prog 159 := ⟨⟨_, Tryd.func159, by kernel_rfl, rfl⟩⟩
instance fn160 : FnF Tryd.prog 160 := ⟨⟨_, Tryd.func160, by kernel_rfl, rfl⟩⟩
instance fn144 : FnF Tryd.prog 144 := ⟨⟨_, Tryd.func144, by kernel_rfl, rfl⟩⟩
instance fn123 : FnF Tryd.prog 123 := ⟨⟨_, Tryd.func123, by kernel_rfl, rfl⟩⟩
instance fn122 : FnF Tryd.prog 122 := ⟨⟨_, Tryd.func122, by kernel_rfl, rfl⟩⟩
instance fn90 : FnF Tryd.prog 90 := ⟨⟨_, Tryd.func90, by kernel_rfl, rfl⟩⟩
instance fn91 : FnF Tryd.prog 91 := ⟨⟨_, Tryd.func91, by kernel_rfl, rfl⟩⟩
instance fn93 : FnF Tryd.prog 93 := ⟨⟨_, Tryd.func93, by kernel_rfl, rfl⟩⟩
instance fn43 : FnF Tryd.prog 43 := ⟨⟨_, Tryd.func43, by kernel_rfl, rfl⟩⟩
instance fn32 : FnF Tryd.prog 32 := ⟨⟨_, Tryd.func32, by kernel_rfl, rfl⟩⟩
instance fn44 : FnF Tryd.prog 44 := ⟨⟨_, Tryd.func44, by kernel_rfl, rfl⟩⟩
instance fn45 : FnF Tryd.prog 45 := ⟨⟨_, Tryd.func45, by kernel_rfl, rfl⟩⟩
instance fn37 : FnF Tryd.prog 37 := ⟨⟨_, Tryd.func37, by kernel_rfl, rfl⟩⟩
instance fn36 : FnF Tryd.prog 36 := ⟨⟨_, Tryd.func36, by kernel_rfl, rfl⟩⟩
noncomputable def s_l4Right (a0 : D_l1Cur) : Option (D_Cmd × D_l1Cur) :=
  Option.bind (s_l1Below (a0.1, a0.2.1, a0.2.2) 7) (fun y1 => Option.bind (s_l1Below (y1.2.1, y1.2.2.1, y1.2.2.2) 3) (fun y2 => Option.bind (s_l1Below (y2.2.1, y2.2.2.1, y2.2.2.2) 6) (fun y3 => jbind (Option.bind (s_l1Once (y3.2.1, y3.2.2.1, y3.2.2.2) 4) (fun y5 => cond y5.1 (some (.inl ((y5.2.2.1, y5.2.2.2, 3)))) (some (.inl ((y5.2.2.1, y5.2.2.2, IntKind.wrap .i64 (1 + y1.1))))))) (fun s4 : Int × Int × Int => jbind (cond (!decide (s4.2.2 = 7)) (Option.bind (some ([(ByteArray.mk #[97]), (ByteArray.mk #[98]), (ByteArray.mk #[97, 98])] : List ByteArray)) (fun y9 => Option.bind (s_l1Pick (y3.2.1, s4.1, s4.2.1) y9) (fun y11 => some (.inl ((y11.2.2.1, y11.2.2.2, y11.1)))))) (some (.inl ((s4.1, s4.2.1, ByteArray.empty))))) (fun s7 : Int × Int × ByteArray => jbind (cond ((decide (s4.2.2 = 3)) || (decide (s4.2.2 = 4))) (Option.bind (some ([(ByteArray.mk #[120]), (ByteArray.mk #[121]), (ByteArray.mk #[122])] : List ByteArray)) (fun y14 => Option.bind (s_l1Pick (y3.2.1, s7.1, s7.2.1) y14) (fun y16 => some (.inl ((y16.2.2.1, y16.2.2.2, y16.1)))))) (some (.inl ((s7.1, s7.2.1, ByteArray.empty))))) (fun s12 : Int × Int × ByteArray => jbind (cond (decide (s4.2.2 = 4)) (Option.bind (some ([(ByteArray.mk #[107, 101, 101, 112]), (ByteArray.mk #[116])] : List ByteArray)) (fun y19 => Option.bind (s_l1Pick (y3.2.1, s12.1, s12.2.1) y19) (fun y21 => some (.inl ((y21.2.2.1, y21.2.2.2, y21.1)))))) (some (.inl ((s12.1, s12.2.1, ByteArray.empty))))) (fun s17 : Int × Int × ByteArray => jbind (cond (decide (s4.2.2 = 5)) (Option.bind (s_l1Below (y3.2.1, s17.1, s17.2.1) 4) (fun y24 => some (.inl ((y24.2.2.1, y24.2.2.2, y24.1))))) (some (.inl ((s17.1, s17.2.1, 0))))) (fun s22 : Int × Int × Int => cond (decide (s4.2.2 = 3)) (Option.bind (s_l1Below (y3.2.1, s22.1, s22.2.1) 3) (fun y26 => whileP (fun s27 : Int × Int × Int × (List ByteArray) => cond (decide (0 < s27.1)) (Option.bind (s_l1Below (y26.2.1, s27.2.1, s27.2.2.1) 4) (fun y29 => Option.bind (u8P (IntKind.wrap .u8 y29.1)) (fun y30 => Option.bind (some ([y30] : List UInt8)) (fun y31 => Option.bind (s_Short (strP y31)) (fun y33 => Option.bind (appP s27.2.2.2 [y33]) (fun y35 => some (.inl ((IntKind.wrap .i64 (s27.1 - 1), y29.2.2.1, y29.2.2.2, y35))))))))) (Option.map .inr (some ((s4.2.2, IntKind.wrap .i64 (1 + y2.1), IntKind.wrap .i64 (1 + y3.1), s7.2.2, s12.2.2, s17.2.2, s22.2.2, s27.2.2.2), (y26.2.1, s27.2.1, s27.2.2.1))))) (IntKind.wrap .i64 (1 + y26.1), y26.2.2.1, y26.2.2.2, ([] : List ByteArray)))) (some ((s4.2.2, IntKind.wrap .i64 (1 + y2.1), IntKind.wrap .i64 (1 + y3.1), s7.2.2, s12.2.2, s17.2.2, s22.2.2, ([] : List ByteArray)), (y3.2.1, s22.1, s22.2.1)))))))))))
theorem s_l4Right_walk (w : World) (b0_ : Nat) (a0 : T_l1Cur) (h0_0 : GT.rd w (fps [blk b0_ (GT.cells a0) 141]) a0.1) (r : D_Cmd × D_l1Cur) (hp : s_l4Right (GT.dat a0) = some r) : Spec Tryd.prog 145 [Value.pointer (some ⟨b0_, 0, none⟩)].toArray w [blk b0_ (GT.cells a0) 141] (fun v M => ∃ (x0 : T_Cmd) (y0 : T_l1Cur), v = .agg (GT.cells x0).toArray ∧ (GT.dat x0, GT.dat y0) = r ∧ M = [treeH x0, blk b0_ (GT.cells y0) 141] ∧ y0.1 = a0.1) := by
  obtain ⟨a0_1, a0_2, a0_3⟩ := a0
  change Spec _ _ ([Value.pointer (some ⟨b0_, 0, none⟩)] : List Value).toArray w _ _
  refine Spec.intro Tryd.func145 rfl Tryd.ntmps145 rfl ?_
  unfold s_l4Right at hp
  replace hp := dd hp
  refine s2 ?_
  refine al fun bk2 => ?_
  refine s4 ?_
  replace hp := ba hp; obtain ⟨y1, hy1, hp⟩ := hp
  refine L_callM [blk b0_ _ _] _ rfl fn84.h rfl pc (by exact fun w hw => s_l1Below_walk w b0_ (a0_1, a0_2, a0_3) 7 ((RdX.old h0_0) w hw) _ hy1) ?_
  rintro _ _ ⟨y1x0, ⟨y1y0_1, y1y0_2, y1y0_3⟩, rfl, rfl, rfl, hey1_0⟩
  obtain rfl : a0_1 = y1y0_1 := hey1_0.symm
  refine sc ?_
  replace hp := dd hp
  refine s2 ?_
  replace hp := ba hp; obtain ⟨y2, hy2, hp⟩ := hp
  refine L_callM [blk b0_ _ _] _ rfl fn84.h rfl pc (by exact fun w hw => s_l1Below_walk w b0_ (a0_1, y1y0_2, y1y0_3) 3 ((RdX.old h0_0) w hw) _ hy2) ?_
  rintro _ _ ⟨y2x0, ⟨y2y0_1, y2y0_2, y2y0_3⟩, rfl, rfl, rfl, hey2_0⟩
  obtain rfl : a0_1 = y2y0_1 := hey2_0.symm
  refine sc ?_
  replace hp := dd hp
  refine s2 ?_
  replace hp := ba hp; obtain ⟨y3, hy3, hp⟩ := hp
  refine L_callM [blk b0_ _ _] _ rfl fn84.h rfl pc (by exact fun w hw => s_l1Below_walk w b0_ (a0_1, y2y0_2, y2y0_3) 6 ((RdX.old h0_0) w hw) _ hy3) ?_
  rintro _ _ ⟨y3x0, ⟨y3y0_1, y3y0_2, y3y0_3⟩, rfl, rfl, rfl, hey3_0⟩
  obtain rfl : a0_1 = y3y0_1 := hey3_0.symm
  refine sc ?_
  replace hp := dd hp
  refine s1 ?_
  refine L_build (xs := [(0, .tmp 7), (1, .tmp 10), (2, .tmp 13)]) (cs := [.int .i64 (IntKind.wrap .i64 (1 + y1x0)), .int .i64 (IntKind.wrap .i64 (1 + y2x0)), .int .i64 (IntKind.wrap .i64 (1 + y3x0)), .string ByteArray.empty, .string ByteArray.empty, .string ByteArray.empty, .int .i64 0, (TL.hdr (TL.nil ByteArray 0))]) rfl rfl bld176.h rfl ?_
  refine al fun bk3 => ?_
  refine s2 ?_
  refine W_jn (σ := Int × Int × Int) GT.dat (fun ((v4_0, v4_1, v4_2) : Int × Int × Int) => []) (fun ((v4_0, v4_1, v4_2) : Int × Int × Int) => [blk b0_ [(TL.hdr a0_1), .int .i64 v4_0, .int .i64 v4_1] 141, blk bk3 [.int .i64 v4_2, .int .i64 (IntKind.wrap .i64 (1 + y2x0)), .int .i64 (IntKind.wrap .i64 (1 + y3x0)), .string ByteArray.empty, .string ByteArray.empty, .string ByteArray.empty, .int .i64 0, (TL.hdr (TL.nil ByteArray 0))] 176]) [(0, .pointer (some ⟨b0_, 0, none⟩)), (2, .pointer (some ⟨bk2, 0, none⟩)), (3, .pointer (some ⟨bk3, 0, none⟩))] [blk bk2 [.int .i64 0, .int .i64 0, .int .i64 0, .string ByteArray.empty, .string ByteArray.empty, .string ByteArray.empty, .int .i64 0, (TL.hdr (TL.nil ByteArray 0))] 176] hp ?_ ?_
  · clear hp
    intro x4 hp hx4
    refine s3 ?_
    replace hp := ba hp; obtain ⟨y5, hy5, hp⟩ := hp
    refine L_callM [blk b0_ _ _] _ rfl fn83.h rfl pc (by exact fun w hw => s_l1Once_walk w b0_ (a0_1, y3y0_2, y3y0_3) 4 ((RdX.old h0_0) w hw) _ hy5) ?_
    rintro _ _ ⟨y5x0, ⟨y5y0_1, y5y0_2, y5y0_3⟩, rfl, rfl, rfl, hey5_0⟩
    obtain rfl : a0_1 = y5y0_1 := hey5_0.symm
    refine sc ?_
    replace hp := dd hp
    refine s1 ?_
    refine kp [0, 2, 3, 16] ?_
    refine W_cond rfl (fun hc6 => ?_) (fun hc6 => ?_)
    · replace hp := cond_t hc6 hp
      refine s4 ?_
      exact ⟨(y5y0_2, y5y0_3, 3), sb, (.sub ms), some_eq hp⟩
    · replace hp := cond_f hc6 hp
      refine s1 ?_
      exact ⟨(y5y0_2, y5y0_3, IntKind.wrap .i64 (1 + y1x0)), sb, (.sub ms), some_eq hp⟩
  · clear hp
    rintro ⟨v4_0, v4_1, v4_2⟩ hp
    replace hp := dd hp
    refine kq [0, 2, 3] ?_
    refine W_jn (σ := Int × Int × ByteArray) GT.dat (fun ((v7_0, v7_1, v7_2) : Int × Int × ByteArray) => []) (fun ((v7_0, v7_1, v7_2) : Int × Int × ByteArray) => [blk b0_ [(TL.hdr a0_1), .int .i64 v7_0, .int .i64 v7_1] 141, blk bk3 [.int .i64 v4_2, .int .i64 (IntKind.wrap .i64 (1 + y2x0)), .int .i64 (IntKind.wrap .i64 (1 + y3x0)), .string v7_2, .string ByteArray.empty, .string ByteArray.empty, .int .i64 0, (TL.hdr (TL.nil ByteArray 0))] 176]) [(0, .pointer (some ⟨b0_, 0, none⟩)), (2, .pointer (some ⟨bk2, 0, none⟩)), (3, .pointer (some ⟨bk3, 0, none⟩))] [blk bk2 [.int .i64 0, .int .i64 0, .int .i64 0, .string ByteArray.empty, .string ByteArray.empty, .string ByteArray.empty, .int .i64 0, (TL.hdr (TL.nil ByteArray 0))] 176] hp ?_ ?_
    · clear hp
      intro x7 hp hx7
      refine s6 ?_
      refine kp [0, 2, 3, 20] ?_
      refine W_cond rfl (fun hc8 => ?_) (fun hc8 => ?_)
      · replace hp := cond_t hc8 hp
        refine s2 ?_
        replace hp := ba hp; obtain ⟨y9, hy9, hp⟩ := hp
        refine L_bsN ([(ByteArray.mk #[97]), (ByteArray.mk #[98]), (ByteArray.mk #[97, 98])] : List ByteArray) (xs := [(0, .const (.string (ByteArray.mk #[97]))), (1, .const (.string (ByteArray.mk #[98]))), (2, .const (.string (ByteArray.mk #[97, 98])))]) rfl rfl el73.h rfl rfl rfl rfl rfl rfl rfl hy9 (fun X10 hdX10 => ?_)
        subst hdX10
        replace hp := ba hp; obtain ⟨y11, hy11, hp⟩ := hp
        refine L_callM [blk b0_ _ _] _ rfl fn92.h rfl pc (by exact fun w hw => s_l1Pick_walk w b0_ (a0_1, v4_0, v4_1) X10 ((RdX.tree mm) w hw) ((RdX.old h0_0) w hw) _ hy11) ?_
        rintro _ _ ⟨y11x0, ⟨y11y0_1, y11y0_2, y11y0_3⟩, rfl, rfl, rfl, hey11_0⟩
        obtain rfl : a0_1 = y11y0_1 := hey11_0.symm
        refine sc ?_
        replace hp := dd hp
        refine s3 ?_
        exact ⟨(y11y0_2, y11y0_3, y11x0), sb, (.sub ms), some_eq hp⟩
      · replace hp := cond_f hc8 hp
        refine s1 ?_
        exact ⟨(v4_0, v4_1, ByteArray.empty), sb, (.sub ms), some_eq hp⟩
    · clear hp
      rintro ⟨v7_0, v7_1, v7_2⟩ hp
      replace hp := dd hp
      refine kq [0, 2, 3] ?_
      refine W_jn (σ := Int × Int × ByteArray) GT.dat (fun ((v12_0, v12_1, v12_2) : Int × Int × ByteArray) => []) (fun ((v12_0, v12_1, v12_2) : Int × Int × ByteArray) => [blk b0_ [(TL.hdr a0_1), .int .i64 v12_0, .int .i64 v12_1] 141, blk bk3 [.int .i64 v4_2, .int .i64 (IntKind.wrap .i64 (1 + y2x0)), .int .i64 (IntKind.wrap .i64 (1 + y3x0)), .string v7_2, .string v12_2, .string ByteArray.empty, .int .i64 0, (TL.hdr (TL.nil ByteArray 0))] 176]) [(0, .pointer (some ⟨b0_, 0, none⟩)), (2, .pointer (some ⟨bk2, 0, none⟩)), (3, .pointer (some ⟨bk3, 0, none⟩))] [blk bk2 [.int .i64 0, .int .i64 0, .int .i64 0, .string ByteArray.empty, .string ByteArray.empty, .string ByteArray.empty, .int .i64 0, (TL.hdr (TL.nil ByteArray 0))] 176] hp ?_ ?_
      · clear hp
        intro x12 hp hx12
        refine s1 ?_
        refine W_D0 [32] mix (by kernel_rfl) rfl ?_
        refine s18 ?_
        refine kp [0, 2, 3, 32] ?_
        refine W_cond rfl (fun hc13 => ?_) (fun hc13 => ?_)
        · replace hp := cond_t hc13 hp
          refine s2 ?_
          replace hp := ba hp; obtain ⟨y14, hy14, hp⟩ := hp
          refine L_bsN ([(ByteArray.mk #[120]), (ByteArray.mk #[121]), (ByteArray.mk #[122])] : List ByteArray) (xs := [(0, .const (.string (ByteArray.mk #[120]))), (1, .const (.string (ByteArray.mk #[121]))), (2, .const (.string (ByteArray.mk #[122])))]) rfl rfl el73.h rfl rfl rfl rfl rfl rfl rfl hy14 (fun X15 hdX15 => ?_)
          subst hdX15
          replace hp := ba hp; obtain ⟨y16, hy16, hp⟩ := hp
          refine L_callM [blk b0_ _ _] _ rfl fn92.h rfl pc (by exact fun w hw => s_l1Pick_walk w b0_ (a0_1, v7_0, v7_1) X15 ((RdX.tree mm) w hw) ((RdX.old h0_0) w hw) _ hy16) ?_
          rintro _ _ ⟨y16x0, ⟨y16y0_1, y16y0_2, y16y0_3⟩, rfl, rfl, rfl, hey16_0⟩
          obtain rfl : a0_1 = y16y0_1 := hey16_0.symm
          refine sc ?_
          replace hp := dd hp
          refine s3 ?_
          exact ⟨(y16y0_2, y16y0_3, y16x0), sb, (.sub ms), some_eq hp⟩
        · replace hp := cond_f hc13 hp
          refine s1 ?_
          exact ⟨(v7_0, v7_1, ByteArray.empty), sb, (.sub ms), some_eq hp⟩
      · clear hp
        rintro ⟨v12_0, v12_1, v12_2⟩ hp
        replace hp := dd hp
        refine kq [0, 2, 3] ?_
        refine W_jn (σ := Int × Int × ByteArray) GT.dat (fun ((v17_0, v17_1, v17_2) : Int × Int × ByteArray) => []) (fun ((v17_0, v17_1, v17_2) : Int × Int × ByteArray) => [blk b0_ [(TL.hdr a0_1), .int .i64 v17_0, .int .i64 v17_1] 141, blk bk3 [.int .i64 v4_2, .int .i64 (IntKind.wrap .i64 (1 + y2x0)), .int .i64 (IntKind.wrap .i64 (1 + y3x0)), .string v7_2, .string v12_2, .string v17_2, .int .i64 0, (TL.hdr (TL.nil ByteArray 0))] 176]) [(0, .pointer (some ⟨b0_, 0, none⟩)), (2, .pointer (some ⟨bk2, 0, none⟩)), (3, .pointer (some ⟨bk3, 0, none⟩))] [blk bk2 [.int .i64 0, .int .i64 0, .int .i64 0, .string ByteArray.empty, .string ByteArray.empty, .string ByteArray.empty, .int .i64 0, (TL.hdr (TL.nil ByteArray 0))] 176] hp ?_ ?_
        · clear hp
          intro x17 hp hx17
          refine s6 ?_
          refine kp [0, 2, 3, 39] ?_
          refine W_cond rfl (fun hc18 => ?_) (fun hc18 => ?_)
          · replace hp := cond_t hc18 hp
            refine s2 ?_
            replace hp := ba hp; obtain ⟨y19, hy19, hp⟩ := hp
            refine L_bsN ([(ByteArray.mk #[107, 101, 101, 112]), (ByteArray.mk #[116])] : List ByteArray) (xs := [(0, .const (.string (ByteArray.mk #[107, 101, 101, 112]))), (1, .const (.string (ByteArray.mk #[116])))]) rfl rfl el73.h rfl rfl rfl rfl rfl rfl rfl hy19 (fun X20 hdX20 => ?_)
            subst hdX20
            replace hp := ba hp; obtain ⟨y21, hy21, hp⟩ := hp
            refine L_callM [blk b0_ _ _] _ rfl fn92.h rfl pc (by exact fun w hw => s_l1Pick_walk w b0_ (a0_1, v12_0, v12_1) X20 ((RdX.tree mm) w hw) ((RdX.old h0_0) w hw) _ hy21) ?_
            rintro _ _ ⟨y21x0, ⟨y21y0_1, y21y0_2, y21y0_3⟩, rfl, rfl, rfl, hey21_0⟩
            obtain rfl : a0_1 = y21y0_1 := hey21_0.symm
            refine sc ?_
            replace hp := dd hp
            refine s3 ?_
            exact ⟨(y21y0_2, y21y0_3, y21x0), sb, (.sub ms), some_eq hp⟩
          · replace hp := cond_f hc18 hp
            refine s1 ?_
            exact ⟨(v12_0, v12_1, ByteArray.empty), sb, (.sub ms), some_eq hp⟩
        · clear hp
          rintro ⟨v17_0, v17_1, v17_2⟩ hp
          replace hp := dd hp
          refine kq [0, 2, 3] ?_
          refine W_jn (σ := Int × Int × Int) GT.dat (fun ((v22_0, v22_1, v22_2) : Int × Int × Int) => []) (fun ((v22_0, v22_1, v22_2) : Int × Int × Int) => [blk b0_ [(TL.hdr a0_1), .int .i64 v22_0, .int .i64 v22_1] 141, blk bk3 [.int .i64 v4_2, .int .i64 (IntKind.wrap .i64 (1 + y2x0)), .int .i64 (IntKind.wrap .i64 (1 + y3x0)), .string v7_2, .string v12_2, .string v17_2, .int .i64 v22_2, (TL.hdr (TL.nil ByteArray 0))] 176]) [(0, .pointer (some ⟨b0_, 0, none⟩)), (2, .pointer (some ⟨bk2, 0, none⟩)), (3, .pointer (some ⟨bk3, 0, none⟩))] [blk bk2 [.int .i64 0, .int .i64 0, .int .i64 0, .string ByteArray.empty, .string ByteArray.empty, .string ByteArray.empty, .int .i64 0, (TL.hdr (TL.nil ByteArray 0))] 176] hp ?_ ?_
          · clear hp
            intro x22 hp hx22
            refine s6 ?_
            refine kp [0, 2, 3, 46] ?_
            refine W_cond rfl (fun hc23 => ?_) (fun hc23 => ?_)
            · replace hp := cond_t hc23 hp
              refine s2 ?_
              replace hp := ba hp; obtain ⟨y24, hy24, hp⟩ := hp
              refine L_callM [blk b0_ _ _] _ rfl fn84.h rfl pc (by exact fun w hw => s_l1Below_walk w b0_ (a0_1, v17_0, v17_1) 4 ((RdX.old h0_0) w hw) _ hy24) ?_
              rintro _ _ ⟨y24x0, ⟨y24y0_1, y24y0_2, y24y0_3⟩, rfl, rfl, rfl, hey24_0⟩
              obtain rfl : a0_1 = y24y0_1 := hey24_0.symm
              refine sc ?_
              replace hp := dd hp
              refine s3 ?_
              exact ⟨(y24y0_2, y24y0_3, y24x0), sb, (.sub ms), some_eq hp⟩
            · replace hp := cond_f hc23 hp
              refine s1 ?_
              exact ⟨(v17_0, v17_1, 0), sb, (.sub ms), some_eq hp⟩
          · clear hp
            rintro ⟨v22_0, v22_1, v22_2⟩ hp
            replace hp := dd hp
            refine kq [0, 2, 3] ?_
            refine s7 ?_
            refine kp [0, 2, 3, 52] ?_
            refine W_cond rfl (fun hc25 => ?_) (fun hc25 => ?_)
            · replace hp := cond_t hc25 hp
              refine s3 ?_
              replace hp := ba hp; obtain ⟨y26, hy26, hp⟩ := hp
              refine L_callM [blk b0_ _ _] _ rfl fn84.h rfl pc (by exact fun w hw => s_l1Below_walk w b0_ (a0_1, v22_0, v22_1) 3 ((RdX.old h0_0) w hw) _ hy26) ?_
              rintro _ _ ⟨y26x0, ⟨y26y0_1, y26y0_2, y26y0_3⟩, rfl, rfl, rfl, hey26_0⟩
              obtain rfl : a0_1 = y26y0_1 := hey26_0.symm
              refine sc ?_
              replace hp := dd hp
              refine s4 ?_
              refine W_conv (M' := treeH (TL.nil ByteArray 0) :: _) (fun w h => addNilT (τ := ByteArray) 0 h) ?_
              refine W_while (σ := Int × Int × Int × (TL ByteArray)) GT.dat (fun ((v27_0, v27_1, v27_2, v27_3) : Int × Int × Int × (TL ByteArray)) => [(4, .int .i64 v27_0)]) (fun ((v27_0, v27_1, v27_2, v27_3) : Int × Int × Int × (TL ByteArray)) => [blk b0_ [(TL.hdr a0_1), .int .i64 v27_1, .int .i64 v27_2] 141, blk bk3 [.int .i64 v4_2, .int .i64 (IntKind.wrap .i64 (1 + y2x0)), .int .i64 (IntKind.wrap .i64 (1 + y3x0)), .string v7_2, .string v12_2, .string v17_2, .int .i64 v22_2, (TL.hdr v27_3)] 176, treeH v27_3]) [(0, _), (2, _), (3, _)] [blk bk2 _ _] (IntKind.wrap .i64 (1 + y26x0), y26y0_2, y26y0_3, (TL.nil ByteArray 0)) hp sb ms ?_
              clear hp
              rintro ⟨v27_0, v27_1, v27_2, v27_3⟩ x27 hp hx27
              replace hp := dd hp
              refine kq [0, 2, 3, 4] ?_
              refine s6 ?_
              refine kp [0, 2, 3, 4, 57] ?_
              refine W_cond rfl (fun hc28 => ?_) (fun hc28 => ?_)
              · replace hp := cond_t hc28 hp
                refine s3 ?_
                replace hp := ba hp; obtain ⟨y29, hy29, hp⟩ := hp
                replace hp := ba hp; obtain ⟨y30, hy30, hp⟩ := hp
                have ey30 := u8P_some hy30
                try simp only [ey30]
                replace hp := ba hp; obtain ⟨y31, hy31, hp⟩ := hp
                replace hp := ba hp; obtain ⟨y33, hy33, hp⟩ := hp
                refine W_DS (pre := [_, _, _, _, _, _, _, _, _]) (suf := [_, _, _]) [61, 63, 68] [blk b0_ _ 141] _ pc mix (by kernel_rfl) (by kernel_rfl) rfl ?_
                refine s3 ?_
                refine D_callM (fun v M => ∃ (x0 : Int) (y0 : T_l1Cur), v = .int .i64 x0 ∧ (GT.dat x0, GT.dat y0) = y29 ∧ M = [blk b0_ (GT.cells y0) 141] ∧ y0.1 = a0_1) [blk b0_ _ 141] pc fn84.h (OpVs.cons (OpV.t rfl) (OpVs.cons OpV.c (OpVs.nil))) (by exact fun w F hw hM => s_l1Below_walk w b0_ (a0_1, v27_1, v27_2) 4 ((RdX.old h0_0) w hw) _ hy29) ?_
                refine D_convInt GC.none (show OpV _ _ _ (.int .i64 y29.1) from ⟨_, rfl, fun u M h hc => by obtain ⟨x0, z0, hv, hd, _⟩ := h; subst hd; exact hv⟩) und5.h (by rw [und3.h]; rfl) ?_
                refine D_bsN ([y30] : List UInt8) (xs := [(0, .tmp 64)]) (ps := [(0, .int .u8 (y30.toNat : Int))]) (OpVp.cons (by rw [← ey30]; exact (OpV.t rfl)) (OpVp.nil)) el59.h rfl rfl rfl rfl rfl rfl rfl hy31 ?_
                refine D_toStrO (r := y31) (t := 65) rfl und59.h und5.h und9.h (by kernel_rfl) ?_
                refine D_callX GC.none fn42.h (OpVs.cons (OpV.t rfl) (OpVs.nil)) (by exact fun hg w F hF hM => s_Short_walk w (strP y31)  _ hy33) ?_
                refine D_bs1 (OpV.t rfl) el73.h rfl (by decide) (by decide) rfl ?_
                refine s1 ?_
                refine Give_R rfl rfl ?_
                rintro _ _ ⟨bb68, rfl, rfl⟩
                simp only [List.cons_append, List.nil_append]
                refine s4 ?_
                refine Give_R rfl rfl ?_
                rintro _ _ ⟨y29x0, ⟨y29y0_1, y29y0_2, y29y0_3⟩, rfl, rfl, rfl, hey29_0⟩
                obtain rfl : a0_1 = y29y0_1 := hey29_0.symm
                refine s4 ?_
                refine sc ?_
                replace hp := dd hp
                replace hp := ba hp; obtain ⟨y35, hy35, hp⟩ := hp
                refine L_app1F (X := v27_3) (y33 : ByteArray) rfl rfl rfl el73.h rfl rfl pk mm  hy35 (by decide) (fun X34 hdX34 => ?_)
                subst hdX34
                refine s8 ?_
                exact ⟨(IntKind.wrap .i64 (v27_0 - 1), y29y0_2, y29y0_3, X34), sb, (.sub ms), some_eq hp⟩
              · replace hp := cond_f hc28 hp
                refine W_exit ?_
                replace hp := map_any hp; obtain ⟨a36, hp, hx_a36⟩ := hp
                obtain rfl := hx27 _ hx_a36
                refine s5 ?_
                obtain rfl := Option.some.inj hp
                refine jW ((v4_2, IntKind.wrap .i64 (1 + y2x0), IntKind.wrap .i64 (1 + y3x0), v7_2, v12_2, v17_2, v22_2, v27_3) : T_Cmd) ?_
                refine s1 ?_
                refine res1 rfl (ResOK.cell rfl mm (by exact agg176.h)) ⟨(v4_2, IntKind.wrap .i64 (1 + y2x0), IntKind.wrap .i64 (1 + y3x0), v7_2, v12_2, v17_2, v22_2, v27_3), (a0_1, v27_1, v27_2), rfl, rfl, rfl, rfl⟩ ms
            · replace hp := cond_f hc25 hp
              refine s6 ?_
              obtain rfl := Option.some.inj hp
              refine W_conv (M' := treeH (TL.nil ByteArray 0) :: _) (fun w h => addNilT (τ := ByteArray) 0 h) ?_
              refine jW ((v4_2, IntKind.wrap .i64 (1 + y2x0), IntKind.wrap .i64 (1 + y3x0), v7_2, v12_2, v17_2, v22_2, (TL.nil ByteArray 0)) : T_Cmd) ?_
              refine s1 ?_
              refine res1 rfl (ResOK.cell rfl mm (by exact agg176.h)) ⟨(v4_2, IntKind.wrap .i64 (1 + y2x0), IntKind.wrap .i64 (1 + y3x0), v7_2, v12_2, v17_2, v22_2, (TL.nil ByteArray 0)), (a0_1, v22_0, v22_1), rfl, rfl, rfl, rfl⟩ ms
noncomputable def s_l4Cmd (a0 : D_l1Cur) : Option (D_Cmd × D_l1Cur) :=
  Option.bind (s_l1Once (a0.1, a0.2.1, a0.2.2) 12) (fun y1 => cond y1.1 (some ((0, 0, 0, ByteArray.empty, ByteArray.empty, ByteArray.empty, 0, ([] : List ByteArray)), (y1.2.1, y1.2.2.1, y1.2.2.2))) (Option.bind (s_l4Right (y1.2.1, y1.2.2.1, y1.2.2.2)) (fun y3 => Option.bind (s_l1Once (y3.2.1, y3.2.2.1, y3.2.2.2) 8) (fun y4 => cond y4.1 (Option.bind (s_l1Below (y4.2.1, y4.2.2.1, y4.2.2.2) 6) (fun y6 => cond (decide (y6.1 = 0)) (Option.bind (some ([(-1), 0, 8, 3] : List Int)) (fun y8 => Option.bind (s_l1PickInt (y6.2.1, y6.2.2.1, y6.2.2.2) y8) (fun y10 => some ((y10.1, y3.1.2.1, y3.1.2.2.1, y3.1.2.2.2.1, y3.1.2.2.2.2.1, y3.1.2.2.2.2.2.1, y3.1.2.2.2.2.2.2.1, y3.1.2.2.2.2.2.2.2), (y10.2.1, y10.2.2.1, y10.2.2.2))))) (cond (decide (y6.1 = 1)) (Option.bind (some ([0, 9, 10] : List Int)) (fun y12 => Option.bind (s_l1PickInt (y6.2.1, y6.2.2.1, y6.2.2.2) y12) (fun y14 => some ((y3.1.1, y14.1, y3.1.2.2.1, y3.1.2.2.2.1, y3.1.2.2.2.2.1, y3.1.2.2.2.2.2.1, y3.1.2.2.2.2.2.2.1, y3.1.2.2.2.2.2.2.2), (y14.2.1, y14.2.2.1, y14.2.2.2))))) (cond (decide (y6.1 = 2)) (Option.bind (some ([0, 1000, 1001] : List Int)) (fun y16 => Option.bind (s_l1PickInt (y6.2.1, y6.2.2.1, y6.2.2.2) y16) (fun y18 => some ((y3.1.1, y3.1.2.1, y18.1, y3.1.2.2.2.1, y3.1.2.2.2.2.1, y3.1.2.2.2.2.2.1, y3.1.2.2.2.2.2.2.1, y3.1.2.2.2.2.2.2.2), (y18.2.1, y18.2.2.1, y18.2.2.2))))) (cond (decide (y6.1 = 3)) (Option.bind (some ([ByteArray.empty, (ByteArray.mk #[65]), (ByteArray.mk #[97, 98, 99, 100, 101, 102, 103, 104]), (ByteArray.mk #[97, 98, 99, 100, 101, 102, 103, 104, 105])] : List ByteArray)) (fun y20 => Option.bind (s_l1Pick (y6.2.1, y6.2.2.1, y6.2.2.2) y20) (fun y22 => some ((y3.1.1, y3.1.2.1, y3.1.2.2.1, y22.1, y3.1.2.2.2.2.1, y3.1.2.2.2.2.2.1, y3.1.2.2.2.2.2.2.1, y3.1.2.2.2.2.2.2.2), (y22.2.1, y22.2.2.1, y22.2.2.2))))) (cond (decide (y6.1 = 4)) (Option.bind (some ([(-1), 9, 10] : List Int)) (fun y24 => Option.bind (s_l1PickInt (y6.2.1, y6.2.2.1, y6.2.2.2) y24) (fun y26 => some ((y3.1.1, y3.1.2.1, y3.1.2.2.1, y3.1.2.2.2.1, y3.1.2.2.2.2.1, y3.1.2.2.2.2.2.1, y26.1, y3.1.2.2.2.2.2.2.2), (y26.2.1, y26.2.2.1, y26.2.2.2))))) (Option.bind (s_l1Text (y6.2.1, y6.2.2.1, y6.2.2.2) 9) (fun y27 => Option.bind (appP y3.1.2.2.2.2.2.2.2 [y27.1]) (fun y29 => some ((y3.1.1, y3.1.2.1, y3.1.2.2.1, y3.1.2.2.2.1, y3.1.2.2.2.2.1, y3.1.2.2.2.2.2.1, y3.1.2.2.2.2.2.2.1, y29), (y27.2.1, y27.2.2.1, y27.2.2.2))))))))))) (some ((y3.1.1, y3.1.2.1, y3.1.2.2.1, y3.1.2.2.2.1, y3.1.2.2.2.2.1, y3.1.2.2.2.2.2.1, y3.1.2.2.2.2.2.2.1, y3.1.2.2.2.2.2.2.2), (y4.2.1, y4.2.2.1, y4.2.2.2)))))))
theorem s_l4Cmd_walk (w : World) (b0_ : Nat) (a0 : T_l1Cur) (h0_0 : GT.rd w (fps [blk b0_ (GT.cells a0) 141]) a0.1) (r : D_Cmd × D_l1Cur) (hp : s_l4Cmd (GT.dat a0) = some r) : Spec Tryd.prog 146 [Value.pointer (some ⟨b0_, 0, none⟩)].toArray w [blk b0_ (GT.cells a0) 141] (fun v M => ∃ (x0 : T_Cmd) (y0 : T_l1Cur), v = .agg (GT.cells x0).toArray ∧ (GT.dat x0, GT.dat y0) = r ∧ M = [treeH x0, blk b0_ (GT.cells y0) 141] ∧ y0.1 = a0.1) := by
  obtain ⟨a0_1, a0_2, a0_3⟩ := a0
  change Spec _ _ ([Value.pointer (some ⟨b0_, 0, none⟩)] : List Value).toArray w _ _
  refine Spec.intro Tryd.func146 rfl Tryd.ntmps146 rfl ?_
  unfold s_l4Cmd at hp
  replace hp := dd hp
  refine s2 ?_
  refine al fun bk2 => ?_
  refine s5 ?_
  replace hp := ba hp; obtain ⟨y1, hy1, hp⟩ := hp
  refine L_callM [blk b0_ _ _] _ rfl fn83.h rfl pc (by exact fun w hw => s_l1Once_walk w b0_ (a0_1, a0_2, a0_3) 12 ((RdX.old h0_0) w hw) _ hy1) ?_
  rintro _ _ ⟨y1x0, ⟨y1y0_1, y1y0_2, y1y0_3⟩, rfl, rfl, rfl, hey1_0⟩
  obtain rfl : a0_1 = y1y0_1 := hey1_0.symm
  refine sc ?_
  replace hp := dd hp
  refine s1 ?_
  refine kp [0, 2, 5] ?_
  refine W_cond rfl (fun hc2 => ?_) (fun hc2 => ?_)
  · replace hp := cond_t hc2 hp
    refine s2 ?_
    refine L_build (xs := []) (cs := [.int .i64 0, .int .i64 0, .int .i64 0, .string ByteArray.empty, .string ByteArray.empty, .string ByteArray.empty, .int .i64 0, (TL.hdr (TL.nil ByteArray 0))]) rfl rfl bld176.h rfl ?_
    refine s2 ?_
    obtain rfl := Option.some.inj hp
    refine W_conv (M' := treeH (TL.nil ByteArray 0) :: _) (fun w h => addNilT (τ := ByteArray) 0 h) ?_
    refine jW ((0, 0, 0, ByteArray.empty, ByteArray.empty, ByteArray.empty, 0, (TL.nil ByteArray 0)) : T_Cmd) ?_
    refine s1 ?_
    refine res1 rfl (ResOK.cell rfl mm (by exact agg176.h)) ⟨(0, 0, 0, ByteArray.empty, ByteArray.empty, ByteArray.empty, 0, (TL.nil ByteArray 0)), (a0_1, y1y0_2, y1y0_3), rfl, rfl, rfl, rfl⟩ ms
  · replace hp := cond_f hc2 hp
    refine s4 ?_
    replace hp := ba hp; obtain ⟨y3, hy3, hp⟩ := hp
    refine L_callM [blk b0_ _ _] _ rfl fn145.h rfl pc (by exact fun w hw => s_l4Right_walk w b0_ (a0_1, y1y0_2, y1y0_3) ((RdX.old h0_0) w hw) _ hy3) ?_
    rintro _ _ ⟨⟨y3x0_1, y3x0_2, y3x0_3, y3x0_4, y3x0_5, y3x0_6, y3x0_7, y3x0_8⟩, ⟨y3y0_1, y3y0_2, y3y0_3⟩, rfl, rfl, rfl, hey3_0⟩
    obtain rfl : a0_1 = y3y0_1 := hey3_0.symm
    refine sc ?_
    replace hp := dd hp
    refine xL ((y3x0_1, y3x0_2, y3x0_3, y3x0_4, y3x0_5, y3x0_6, y3x0_7, y3x0_8) : T_Cmd) ?_
    refine al fun bk3 => ?_
    refine s6 ?_
    replace hp := ba hp; obtain ⟨y4, hy4, hp⟩ := hp
    refine L_callM [blk b0_ _ _] _ rfl fn83.h rfl pc (by exact fun w hw => s_l1Once_walk w b0_ (a0_1, y3y0_2, y3y0_3) 8 ((RdX.old h0_0) w hw) _ hy4) ?_
    rintro _ _ ⟨y4x0, ⟨y4y0_1, y4y0_2, y4y0_3⟩, rfl, rfl, rfl, hey4_0⟩
    obtain rfl : a0_1 = y4y0_1 := hey4_0.symm
    refine sc ?_
    replace hp := dd hp
    refine s1 ?_
    refine kp [0, 2, 3, 10] ?_
    refine W_cond rfl (fun hc5 => ?_) (fun hc5 => ?_)
    · replace hp := cond_t hc5 hp
      refine s3 ?_
      replace hp := ba hp; obtain ⟨y6, hy6, hp⟩ := hp
      refine L_callM [blk b0_ _ _] _ rfl fn84.h rfl pc (by exact fun w hw => s_l1Below_walk w b0_ (a0_1, y4y0_2, y4y0_3) 6 ((RdX.old h0_0) w hw) _ hy6) ?_
      rintro _ _ ⟨y6x0, ⟨y6y0_1, y6y0_2, y6y0_3⟩, rfl, rfl, rfl, hey6_0⟩
      obtain rfl : a0_1 = y6y0_1 := hey6_0.symm
      refine sc ?_
      replace hp := dd hp
      refine s7 ?_
      refine kp [0, 2, 3, 12, 20] ?_
      refine W_cond rfl (fun hc7 => ?_) (fun hc7 => ?_)
      · replace hp := cond_t hc7 hp
        refine s2 ?_
        replace hp := ba hp; obtain ⟨y8, hy8, hp⟩ := hp
        refine L_bsN ([(-1), 0, 8, 3] : List Int) (xs := [(0, .const (.int .i64 (-1))), (1, .const (.int .i64 0)), (2, .const (.int .i64 8)), (3, .const (.int .i64 3))]) rfl rfl el143.h rfl rfl rfl rfl rfl rfl rfl hy8 (fun X9 hdX9 => ?_)
        subst hdX9
        replace hp := ba hp; obtain ⟨y10, hy10, hp⟩ := hp
        refine L_callM [blk b0_ _ _] _ rfl fn118.h rfl pc (by exact fun w hw => s_l1PickInt_walk w b0_ (a0_1, y6y0_2, y6y0_3) X9 ((RdX.tree mm) w hw) ((RdX.old h0_0) w hw) _ hy10) ?_
        rintro _ _ ⟨y10x0, ⟨y10y0_1, y10y0_2, y10y0_3⟩, rfl, rfl, rfl, hey10_0⟩
        obtain rfl : a0_1 = y10y0_1 := hey10_0.symm
        refine sc ?_
        replace hp := dd hp
        refine s8 ?_
        obtain rfl := Option.some.inj hp
        refine jW ((y10x0, y3x0_2, y3x0_3, y3x0_4, y3x0_5, y3x0_6, y3x0_7, y3x0_8) : T_Cmd) ?_
        refine s1 ?_
        refine res1 rfl (ResOK.cell rfl mm (by exact agg176.h)) ⟨(y10x0, y3x0_2, y3x0_3, y3x0_4, y3x0_5, y3x0_6, y3x0_7, y3x0_8), (a0_1, y10y0_2, y10y0_3), rfl, rfl, rfl, rfl⟩ ms
      · replace hp := cond_f hc7 hp
        refine s5 ?_
        refine kp [0, 2, 3, 12, 26] ?_
        refine W_cond rfl (fun hc11 => ?_) (fun hc11 => ?_)
        · replace hp := cond_t hc11 hp
          refine s2 ?_
          replace hp := ba hp; obtain ⟨y12, hy12, hp⟩ := hp
          refine L_bsN ([0, 9, 10] : List Int) (xs := [(0, .const (.int .i64 0)), (1, .const (.int .i64 9)), (2, .const (.int .i64 10))]) rfl rfl el143.h rfl rfl rfl rfl rfl rfl rfl hy12 (fun X13 hdX13 => ?_)
          subst hdX13
          replace hp := ba hp; obtain ⟨y14, hy14, hp⟩ := hp
          refine L_callM [blk b0_ _ _] _ rfl fn118.h rfl pc (by exact fun w hw => s_l1PickInt_walk w b0_ (a0_1, y6y0_2, y6y0_3) X13 ((RdX.tree mm) w hw) ((RdX.old h0_0) w hw) _ hy14) ?_
          rintro _ _ ⟨y14x0, ⟨y14y0_1, y14y0_2, y14y0_3⟩, rfl, rfl, rfl, hey14_0⟩
          obtain rfl : a0_1 = y14y0_1 := hey14_0.symm
          refine sc ?_
          replace hp := dd hp
          refine s8 ?_
          obtain rfl := Option.some.inj hp
          refine jW ((y3x0_1, y14x0, y3x0_3, y3x0_4, y3x0_5, y3x0_6, y3x0_7, y3x0_8) : T_Cmd) ?_
          refine s1 ?_
          refine res1 rfl (ResOK.cell rfl mm (by exact agg176.h)) ⟨(y3x0_1, y14x0, y3x0_3, y3x0_4, y3x0_5, y3x0_6, y3x0_7, y3x0_8), (a0_1, y14y0_2, y14y0_3), rfl, rfl, rfl, rfl⟩ ms
        · replace hp := cond_f hc11 hp
          refine s5 ?_
          refine kp [0, 2, 3, 12, 32] ?_
          refine W_cond rfl (fun hc15 => ?_) (fun hc15 => ?_)
          · replace hp := cond_t hc15 hp
            refine s2 ?_
            replace hp := ba hp; obtain ⟨y16, hy16, hp⟩ := hp
            refine L_bsN ([0, 1000, 1001] : List Int) (xs := [(0, .const (.int .i64 0)), (1, .const (.int .i64 1000)), (2, .const (.int .i64 1001))]) rfl rfl el143.h rfl rfl rfl rfl rfl rfl rfl hy16 (fun X17 hdX17 => ?_)
            subst hdX17
            replace hp := ba hp; obtain ⟨y18, hy18, hp⟩ := hp
            refine L_callM [blk b0_ _ _] _ rfl fn118.h rfl pc (by exact fun w hw => s_l1PickInt_walk w b0_ (a0_1, y6y0_2, y6y0_3) X17 ((RdX.tree mm) w hw) ((RdX.old h0_0) w hw) _ hy18) ?_
            rintro _ _ ⟨y18x0, ⟨y18y0_1, y18y0_2, y18y0_3⟩, rfl, rfl, rfl, hey18_0⟩
            obtain rfl : a0_1 = y18y0_1 := hey18_0.symm
            refine sc ?_
            replace hp := dd hp
            refine s8 ?_
            obtain rfl := Option.some.inj hp
            refine jW ((y3x0_1, y3x0_2, y18x0, y3x0_4, y3x0_5, y3x0_6, y3x0_7, y3x0_8) : T_Cmd) ?_
            refine s1 ?_
            refine res1 rfl (ResOK.cell rfl mm (by exact agg176.h)) ⟨(y3x0_1, y3x0_2, y18x0, y3x0_4, y3x0_5, y3x0_6, y3x0_7, y3x0_8), (a0_1, y18y0_2, y18y0_3), rfl, rfl, rfl, rfl⟩ ms
          · replace hp := cond_f hc15 hp
            refine s5 ?_
            refine kp [0, 2, 3, 12, 38] ?_
            refine W_cond rfl (fun hc19 => ?_) (fun hc19 => ?_)
            · replace hp := cond_t hc19 hp
              refine s2 ?_
              replace hp := ba hp; obtain ⟨y20, hy20, hp⟩ := hp
              refine L_bsN ([ByteArray.empty, (ByteArray.mk #[65]), (ByteArray.mk #[97, 98, 99, 100, 101, 102, 103, 104]), (ByteArray.mk #[97, 98, 99, 100, 101, 102, 103, 104, 105])] : List ByteArray) (xs := [(0, .const (.string ByteArray.empty)), (1, .const (.string (ByteArray.mk #[65]))), (2, .const (.string (ByteArray.mk #[97, 98, 99, 100, 101, 102, 103, 104]))), (3, .const (.string (ByteArray.mk #[97, 98, 99, 100, 101, 102, 103, 104, 105])))]) rfl rfl el73.h rfl rfl rfl rfl rfl rfl rfl hy20 (fun X21 hdX21 => ?_)
              subst hdX21
              replace hp := ba hp; obtain ⟨y22, hy22, hp⟩ := hp
              refine L_callM [blk b0_ _ _] _ rfl fn92.h rfl pc (by exact fun w hw => s_l1Pick_walk w b0_ (a0_1, y6y0_2, y6y0_3) X21 ((RdX.tree mm) w hw) ((RdX.old h0_0) w hw) _ hy22) ?_
              rintro _ _ ⟨y22x0, ⟨y22y0_1, y22y0_2, y22y0_3⟩, rfl, rfl, rfl, hey22_0⟩
              obtain rfl : a0_1 = y22y0_1 := hey22_0.symm
              refine sc ?_
              replace hp := dd hp
              refine s8 ?_
              obtain rfl := Option.some.inj hp
              refine jW ((y3x0_1, y3x0_2, y3x0_3, y22x0, y3x0_5, y3x0_6, y3x0_7, y3x0_8) : T_Cmd) ?_
              refine s1 ?_
              refine res1 rfl (ResOK.cell rfl mm (by exact agg176.h)) ⟨(y3x0_1, y3x0_2, y3x0_3, y22x0, y3x0_5, y3x0_6, y3x0_7, y3x0_8), (a0_1, y22y0_2, y22y0_3), rfl, rfl, rfl, rfl⟩ ms
            · replace hp := cond_f hc19 hp
              refine s5 ?_
              refine kp [0, 2, 3, 44] ?_
              refine W_cond rfl (fun hc23 => ?_) (fun hc23 => ?_)
              · replace hp := cond_t hc23 hp
                refine s2 ?_
                replace hp := ba hp; obtain ⟨y24, hy24, hp⟩ := hp
                refine L_bsN ([(-1), 9, 10] : List Int) (xs := [(0, .const (.int .i64 (-1))), (1, .const (.int .i64 9)), (2, .const (.int .i64 10))]) rfl rfl el143.h rfl rfl rfl rfl rfl rfl rfl hy24 (fun X25 hdX25 => ?_)
                subst hdX25
                replace hp := ba hp; obtain ⟨y26, hy26, hp⟩ := hp
                refine L_callM [blk b0_ _ _] _ rfl fn118.h rfl pc (by exact fun w hw => s_l1PickInt_walk w b0_ (a0_1, y6y0_2, y6y0_3) X25 ((RdX.tree mm) w hw) ((RdX.old h0_0) w hw) _ hy26) ?_
                rintro _ _ ⟨y26x0, ⟨y26y0_1, y26y0_2, y26y0_3⟩, rfl, rfl, rfl, hey26_0⟩
                obtain rfl : a0_1 = y26y0_1 := hey26_0.symm
                refine sc ?_
                replace hp := dd hp
                refine s8 ?_
                obtain rfl := Option.some.inj hp
                refine jW ((y3x0_1, y3x0_2, y3x0_3, y3x0_4, y3x0_5, y3x0_6, y26x0, y3x0_8) : T_Cmd) ?_
                refine s1 ?_
                refine res1 rfl (ResOK.cell rfl mm (by exact agg176.h)) ⟨(y3x0_1, y3x0_2, y3x0_3, y3x0_4, y3x0_5, y3x0_6, y26x0, y3x0_8), (a0_1, y26y0_2, y26y0_3), rfl, rfl, rfl, rfl⟩ ms
              · replace hp := cond_f hc23 hp
                replace hp := ba hp; obtain ⟨y27, hy27, hp⟩ := hp
                refine W_DS (pre := [_, _, _, _, _]) (suf := [_, _, _]) [14, 16, 17] [blk b0_ _ 141] _ pc mix (by kernel_rfl) (by kernel_rfl) rfl ?_
                refine s3 ?_
                refine D_callM (fun v M => ∃ (x0 : ByteArray) (y0 : T_l1Cur), v = .string x0 ∧ (GT.dat x0, GT.dat y0) = y27 ∧ M = [blk b0_ (GT.cells y0) 141] ∧ y0.1 = a0_1) [blk b0_ _ 141] pc fn94.h (OpVs.cons (OpV.t rfl) (OpVs.cons OpV.c (OpVs.nil))) (by exact fun w F hw hM => s_l1Text_walk w b0_ (a0_1, y6y0_2, y6y0_3) 9 ((RdX.old h0_0) w hw) _ hy27) ?_
                refine D_bs1 (show OpV _ _ _ (.string y27.1) from ⟨_, rfl, fun u M h hc => by obtain ⟨x0, z0, hv, hd, _⟩ := h; subst hd; exact hv⟩) el73.h rfl (by decide) (by decide) rfl ?_
                refine s1 ?_
                refine Give_R rfl rfl ?_
                rintro _ _ ⟨bb17, rfl, rfl⟩
                simp only [List.cons_append, List.nil_append]
                refine Give_R rfl rfl ?_
                rintro _ _ ⟨y27x0, ⟨y27y0_1, y27y0_2, y27y0_3⟩, rfl, rfl, rfl, hey27_0⟩
                obtain rfl : a0_1 = y27y0_1 := hey27_0.symm
                refine s4 ?_
                refine sc ?_
                replace hp := dd hp
                replace hp := ba hp; obtain ⟨y29, hy29, hp⟩ := hp
                refine L_app1F (X := y3x0_8) (y27x0 : ByteArray) rfl rfl rfl el73.h rfl rfl pk mm  hy29 (by decide) (fun X28 hdX28 => ?_)
                subst hdX28
                refine s8 ?_
                obtain rfl := Option.some.inj hp
                refine jW ((y3x0_1, y3x0_2, y3x0_3, y3x0_4, y3x0_5, y3x0_6, y3x0_7, X28) : T_Cmd) ?_
                refine s1 ?_
                refine res1 rfl (ResOK.cell rfl mm (by exact agg176.h)) ⟨(y3x0_1, y3x0_2, y3x0_3, y3x0_4, y3x0_5, y3x0_6, y3x0_7, X28), (a0_1, y27y0_2, y27y0_3), rfl, rfl, rfl, rfl⟩ ms
    · replace hp := cond_f hc5 hp
      refine s6 ?_
      obtain rfl := Option.some.inj hp
      refine jW ((y3x0_1, y3x0_2, y3x0_3, y3x0_4, y3x0_5, y3x0_6, y3x0_7, y3x0_8) : T_Cmd) ?_
      refine s1 ?_
      refine res1 rfl (ResOK.cell rfl mm (by exact agg176.h)) ⟨(y3x0_1, y3x0_2, y3x0_3, y3x0_4, y3x0_5, y3x0_6, y3x0_7, y3x0_8), (a0_1, y4y0_2, y4y0_3), rfl, rfl, rfl, rfl⟩ ms
noncomputable def s_l15Cmds (a0 : D_l1Cur) (a1 : Int) : Option ((List D_Cmd) × D_l1Cur) :=
  Option.bind (some ([] : List D_Cmd)) (fun y2 => Option.bind (s_l1Below (a0.1, a0.2.1, a0.2.2) a1) (fun y3 => whileP (fun s4 : (List D_Cmd) × Int × Int × Int => cond (decide (0 < s4.2.1)) (Option.bind (s_l4Right (y3.2.1, s4.2.2.1, s4.2.2.2)) (fun y6 => Option.bind (s_l1Once (y6.2.1, y6.2.2.1, y6.2.2.2) 4) (fun y7 => cond y7.1 (Option.bind (some ([(ByteArray.mk #[97]), (ByteArray.mk #[98]), (ByteArray.mk #[97, 98]), (ByteArray.mk #[99]), (ByteArray.mk #[100]), (ByteArray.mk #[101]), (ByteArray.mk #[102])] : List ByteArray)) (fun y9 => Option.bind (s_l1Pick (y7.2.1, y7.2.2.1, y7.2.2.2) y9) (fun y11 => Option.bind (s_l1Once (y11.2.1, y11.2.2.1, y11.2.2.2) 15) (fun y12 => cond y12.1 (Option.bind (s_l4Cmd (y12.2.1, y12.2.2.1, y12.2.2.2)) (fun y14 => Option.bind (appP s4.1 [(y14.1.1, y14.1.2.1, y14.1.2.2.1, y14.1.2.2.2.1, y14.1.2.2.2.2.1, y14.1.2.2.2.2.2.1, y14.1.2.2.2.2.2.2.1, y14.1.2.2.2.2.2.2.2)]) (fun y16 => some (.inl ((y16, IntKind.wrap .i64 (s4.2.1 - 1), y14.2.2.1, y14.2.2.2)))))) (Option.bind (appP s4.1 [(1, y6.1.2.1, y6.1.2.2.1, y11.1, ByteArray.empty, ByteArray.empty, 0, ([] : List ByteArray))]) (fun y18 => some (.inl ((y18, IntKind.wrap .i64 (s4.2.1 - 1), y12.2.2.1, y12.2.2.2))))))))) (Option.bind (s_l1Once (y7.2.1, y7.2.2.1, y7.2.2.2) 15) (fun y19 => cond y19.1 (Option.bind (s_l4Cmd (y19.2.1, y19.2.2.1, y19.2.2.2)) (fun y21 => Option.bind (appP s4.1 [(y21.1.1, y21.1.2.1, y21.1.2.2.1, y21.1.2.2.2.1, y21.1.2.2.2.2.1, y21.1.2.2.2.2.2.1, y21.1.2.2.2.2.2.2.1, y21.1.2.2.2.2.2.2.2)]) (fun y23 => some (.inl ((y23, IntKind.wrap .i64 (s4.2.1 - 1), y21.2.2.1, y21.2.2.2)))))) (Option.bind (appP s4.1 [(y6.1.1, y6.1.2.1, y6.1.2.2.1, y6.1.2.2.2.1, y6.1.2.2.2.2.1, y6.1.2.2.2.2.2.1, y6.1.2.2.2.2.2.2.1, y6.1.2.2.2.2.2.2.2)]) (fun y25 => some (.inl ((y25, IntKind.wrap .i64 (s4.2.1 - 1), y19.2.2.1, y19.2.2.2)))))))))) (Option.map .inr (some (s4.1, (y3.2.1, s4.2.2.1, s4.2.2.2))))) (y2, y3.1, y3.2.2.1, y3.2.2.2)))
theorem s_l15Cmds_walk (w : World) (b0_ : Nat) (a0 : T_l1Cur) (a1 : Int) (h0_0 : GT.rd w (fps [blk b0_ (GT.cells a0) 141]) a0.1) (r : (List D_Cmd) × D_l1Cur) (hp : s_l15Cmds (GT.dat a0) a1 = some r) : Spec Tryd.prog 123 [Value.pointer (some ⟨b0_, 0, none⟩), .int .i64 a1].toArray w [blk b0_ (GT.cells a0) 141] (fun v M => ∃ (x0 : TL T_Cmd) (y0 : T_l1Cur), v = (TL.hdr x0) ∧ (GT.dat x0, GT.dat y0) = r ∧ M = [treeH x0, blk b0_ (GT.cells y0) 141] ∧ y0.1 = a0.1) := by
  obtain ⟨a0_1, a0_2, a0_3⟩ := a0
  change Spec _ _ ([Value.pointer (some ⟨b0_, 0, none⟩), .int .i64 a1] : List Value).toArray w _ _
  refine Spec.intro Tryd.func123 rfl Tryd.ntmps123 rfl ?_
  unfold s_l15Cmds at hp
  replace hp := dd hp
  refine s2 ?_
  refine L_assign (v := (TL.hdr (TL.nil T_Cmd 0))) rfl rfl ?_
  refine s3 ?_
  replace hp := ba hp; obtain ⟨y2, hy2, hp⟩ := hp
  refine L_mk0 T_Cmd rfl el149.h (fun X1 hdX1 => ?_)
  obtain rfl : GT.dat X1 = y2 := hdX1.trans (Option.some.inj hy2)
  clear hy2 hdX1
  refine s7 ?_
  replace hp := ba hp; obtain ⟨y3, hy3, hp⟩ := hp
  refine L_callM [blk b0_ _ _] _ rfl fn84.h rfl pc (by exact fun w hw => s_l1Below_walk w b0_ (a0_1, a0_2, a0_3) a1 ((RdX.old h0_0) w hw) _ hy3) ?_
  rintro _ _ ⟨y3x0, ⟨y3y0_1, y3y0_2, y3y0_3⟩, rfl, rfl, rfl, hey3_0⟩
  obtain rfl : a0_1 = y3y0_1 := hey3_0.symm
  refine sc ?_
  replace hp := dd hp
  refine s3 ?_
  refine W_while (σ := (TL T_Cmd) × Int × Int × Int) GT.dat (fun ((v4_0, v4_1, v4_2, v4_3) : (TL T_Cmd) × Int × Int × Int) => [(5, (TL.hdr v4_0)), (6, .int .i64 v4_1)]) (fun ((v4_0, v4_1, v4_2, v4_3) : (TL T_Cmd) × Int × Int × Int) => [blk b0_ [(TL.hdr a0_1), .int .i64 v4_2, .int .i64 v4_3] 141, treeH v4_0]) [(0, _)] [] (X1, y3x0, y3y0_2, y3y0_3) hp sb ms ?_
  clear hp
  rintro ⟨v4_0, v4_1, v4_2, v4_3⟩ x4 hp hx4
  replace hp := dd hp
  refine kq [0, 5, 6] ?_
  refine s6 ?_
  refine kp [0, 5, 6, 13] ?_
  refine W_cond rfl (fun hc5 => ?_) (fun hc5 => ?_)
  · replace hp := cond_t hc5 hp
    refine s6 ?_
    replace hp := ba hp; obtain ⟨y6, hy6, hp⟩ := hp
    refine L_callM [blk b0_ _ _] _ rfl fn145.h rfl pc (by exact fun w hw => s_l4Right_walk w b0_ (a0_1, v4_2, v4_3) ((RdX.old h0_0) w hw) _ hy6) ?_
    rintro _ _ ⟨⟨y6x0_1, y6x0_2, y6x0_3, y6x0_4, y6x0_5, y6x0_6, y6x0_7, y6x0_8⟩, ⟨y6y0_1, y6y0_2, y6y0_3⟩, rfl, rfl, rfl, hey6_0⟩
    obtain rfl : a0_1 = y6y0_1 := hey6_0.symm
    refine sc ?_
    replace hp := dd hp
    refine xL ((y6x0_1, y6x0_2, y6x0_3, y6x0_4, y6x0_5, y6x0_6, y6x0_7, y6x0_8) : T_Cmd) ?_
    refine al fun bk7 => ?_
    refine s6 ?_
    replace hp := ba hp; obtain ⟨y7, hy7, hp⟩ := hp
    refine L_callM [blk b0_ _ _] _ rfl fn83.h rfl pc (by exact fun w hw => s_l1Once_walk w b0_ (a0_1, y6y0_2, y6y0_3) 4 ((RdX.old h0_0) w hw) _ hy7) ?_
    rintro _ _ ⟨y7x0, ⟨y7y0_1, y7y0_2, y7y0_3⟩, rfl, rfl, rfl, hey7_0⟩
    obtain rfl : a0_1 = y7y0_1 := hey7_0.symm
    refine sc ?_
    replace hp := dd hp
    refine s1 ?_
    refine kp [0, 5, 6, 7, 19] ?_
    refine W_cond rfl (fun hc8 => ?_) (fun hc8 => ?_)
    · replace hp := cond_t hc8 hp
      replace hp := ba hp; obtain ⟨y9, hy9, hp⟩ := hp
      replace hp := ba hp; obtain ⟨y11, hy11, hp⟩ := hp
      refine W_DS (pre := [_, _, _, _, _, _, _]) (suf := [_, _]) [21, 23, 26] [blk b0_ _ 141] _ pc mix (by kernel_rfl) (by kernel_rfl) rfl ?_
      refine s5 ?_
      refine D_bsN ([(ByteArray.mk #[97]), (ByteArray.mk #[98]), (ByteArray.mk #[97, 98]), (ByteArray.mk #[99]), (ByteArray.mk #[100]), (ByteArray.mk #[101]), (ByteArray.mk #[102])] : List ByteArray) (xs := [(0, .const (.string (ByteArray.mk #[97]))), (1, .const (.string (ByteArray.mk #[98]))), (2, .const (.string (ByteArray.mk #[97, 98]))), (3, .const (.string (ByteArray.mk #[99]))), (4, .const (.string (ByteArray.mk #[100]))), (5, .const (.string (ByteArray.mk #[101]))), (6, .const (.string (ByteArray.mk #[102])))]) (ps := [(0, .string (ByteArray.mk #[97])), (1, .string (ByteArray.mk #[98])), (2, .string (ByteArray.mk #[97, 98])), (3, .string (ByteArray.mk #[99])), (4, .string (ByteArray.mk #[100])), (5, .string (ByteArray.mk #[101])), (6, .string (ByteArray.mk #[102]))]) (OpVp.cons OpV.c (OpVp.cons OpV.c (OpVp.cons OpV.c (OpVp.cons OpV.c (OpVp.cons OpV.c (OpVp.cons OpV.c (OpVp.cons OpV.c (OpVp.nil)))))))) el73.h rfl rfl rfl rfl rfl rfl rfl hy9 ?_
      refine D_callMR [_, _] (fun v M => ∃ (x0 : ByteArray) (y0 : T_l1Cur), v = .string x0 ∧ (GT.dat x0, GT.dat y0) = y11 ∧ M = [blk b0_ (GT.cells y0) 141] ∧ y0.1 = a0_1) [blk b0_ _ 141] pc fn92.h ⟨⟨_, rfl, fun _ _ h => h⟩, ⟨⟨_, rfl, fun _ _ h => h⟩, trivial⟩⟩ (by rintro w F vs hw hM ⟨v0, u0, M0, rfl, g0, hin0, ⟨v1, u1, M1, rfl, g1, hin1, rfl⟩⟩; obtain rfl := g0.2.1 trivial; obtain ⟨m1, rfl, hd1, rfl⟩ := g1; subst hd1; exact s_l1Pick_walk w b0_ (a0_1, y7y0_2, y7y0_3) m1 ((RdX.tree (hin1 _ (List.mem_singleton.2 rfl))) w hw) ((RdX.old h0_0) w hw) _ hy11) ?_
      refine s1 ?_
      refine Give_R rfl rfl ?_
      rintro _ _ ⟨y11x0, ⟨y11y0_1, y11y0_2, y11y0_3⟩, rfl, rfl, rfl, hey11_0⟩
      obtain rfl : a0_1 = y11y0_1 := hey11_0.symm
      refine s7 ?_
      refine sc ?_
      replace hp := dd hp
      refine L_build (xs := [(0, .const (.int .i64 1)), (1, .tmp 21), (2, .tmp 23), (3, .tmp 26)]) (cs := [.int .i64 1, .int .i64 y6x0_2, .int .i64 y6x0_3, .string y11x0, .string ByteArray.empty, .string ByteArray.empty, .int .i64 0, (TL.hdr (TL.nil ByteArray 0))]) rfl rfl bld176.h rfl ?_
      refine s6 ?_
      replace hp := ba hp; obtain ⟨y12, hy12, hp⟩ := hp
      refine L_callM [blk b0_ _ _] _ rfl fn83.h rfl pc (by exact fun w hw => s_l1Once_walk w b0_ (a0_1, y11y0_2, y11y0_3) 15 ((RdX.old h0_0) w hw) _ hy12) ?_
      rintro _ _ ⟨y12x0, ⟨y12y0_1, y12y0_2, y12y0_3⟩, rfl, rfl, rfl, hey12_0⟩
      obtain rfl : a0_1 = y12y0_1 := hey12_0.symm
      refine sc ?_
      replace hp := dd hp
      refine s1 ?_
      refine kp [0, 5, 6, 7, 29] ?_
      refine W_cond rfl (fun hc13 => ?_) (fun hc13 => ?_)
      · replace hp := cond_t hc13 hp
        refine s2 ?_
        replace hp := ba hp; obtain ⟨y14, hy14, hp⟩ := hp
        refine L_callM [blk b0_ _ _] _ rfl fn146.h rfl pc (by exact fun w hw => s_l4Cmd_walk w b0_ (a0_1, y12y0_2, y12y0_3) ((RdX.old h0_0) w hw) _ hy14) ?_
        rintro _ _ ⟨⟨y14x0_1, y14x0_2, y14x0_3, y14x0_4, y14x0_5, y14x0_6, y14x0_7, y14x0_8⟩, ⟨y14y0_1, y14y0_2, y14y0_3⟩, rfl, rfl, rfl, hey14_0⟩
        obtain rfl : a0_1 = y14y0_1 := hey14_0.symm
        refine sc ?_
        replace hp := dd hp
        refine xL ((y14x0_1, y14x0_2, y14x0_3, y14x0_4, y14x0_5, y14x0_6, y14x0_7, y14x0_8) : T_Cmd) ?_
        refine s5 ?_
        refine L_buildSlice1 rfl rfl el149.h rfl (by decide) (by decide) rfl (fun bb34 => ?_)
        replace hp := ba hp; obtain ⟨y16, hy16, hp⟩ := hp
        refine jL ((y14x0_1, y14x0_2, y14x0_3, y14x0_4, y14x0_5, y14x0_6, y14x0_7, y14x0_8) : T_Cmd) ?_
        refine L_app1 (X := v4_0) ((y14x0_1, y14x0_2, y14x0_3, y14x0_4, y14x0_5, y14x0_6, y14x0_7, y14x0_8) : T_Cmd) rfl rfl rfl el149.h rfl rfl pk mm pk hy16 (by decide) (fun X15 hdX15 => ?_)
        subst hdX15
        refine s7 ?_
        exact ⟨(X15, IntKind.wrap .i64 (v4_1 - 1), y14y0_2, y14y0_3), sb, (.sub ms), some_eq hp⟩
      · replace hp := cond_f hc13 hp
        refine s4 ?_
        refine L_buildSlice1 rfl rfl el149.h rfl (by decide) (by decide) rfl (fun bb34 => ?_)
        replace hp := ba hp; obtain ⟨y18, hy18, hp⟩ := hp
        refine L_conv (M' := treeH (TL.nil ByteArray 0) :: _) (fun w h => addNilT (τ := ByteArray) 0 h) ?_
        refine jL ((1, y6x0_2, y6x0_3, y11x0, ByteArray.empty, ByteArray.empty, 0, (TL.nil ByteArray 0)) : T_Cmd) ?_
        refine L_app1 (X := v4_0) ((1, y6x0_2, y6x0_3, y11x0, ByteArray.empty, ByteArray.empty, 0, (TL.nil ByteArray 0)) : T_Cmd) rfl rfl rfl el149.h rfl rfl pk mm pk hy18 (by decide) (fun X17 hdX17 => ?_)
        subst hdX17
        refine s7 ?_
        exact ⟨(X17, IntKind.wrap .i64 (v4_1 - 1), y12y0_2, y12y0_3), sb, (.sub ms), some_eq hp⟩
    · replace hp := cond_f hc8 hp
      refine s5 ?_
      replace hp := ba hp; obtain ⟨y19, hy19, hp⟩ := hp
      refine L_callM [blk b0_ _ _] _ rfl fn83.h rfl pc (by exact fun w hw => s_l1Once_walk w b0_ (a0_1, y7y0_2, y7y0_3) 15 ((RdX.old h0_0) w hw) _ hy19) ?_
      rintro _ _ ⟨y19x0, ⟨y19y0_1, y19y0_2, y19y0_3⟩, rfl, rfl, rfl, hey19_0⟩
      obtain rfl : a0_1 = y19y0_1 := hey19_0.symm
      refine sc ?_
      replace hp := dd hp
      refine s1 ?_
      refine kp [0, 5, 6, 7, 29] ?_
      refine W_cond rfl (fun hc20 => ?_) (fun hc20 => ?_)
      · replace hp := cond_t hc20 hp
        refine s2 ?_
        replace hp := ba hp; obtain ⟨y21, hy21, hp⟩ := hp
        refine L_callM [blk b0_ _ _] _ rfl fn146.h rfl pc (by exact fun w hw => s_l4Cmd_walk w b0_ (a0_1, y19y0_2, y19y0_3) ((RdX.old h0_0) w hw) _ hy21) ?_
        rintro _ _ ⟨⟨y21x0_1, y21x0_2, y21x0_3, y21x0_4, y21x0_5, y21x0_6, y21x0_7, y21x0_8⟩, ⟨y21y0_1, y21y0_2, y21y0_3⟩, rfl, rfl, rfl, hey21_0⟩
        obtain rfl : a0_1 = y21y0_1 := hey21_0.symm
        refine sc ?_
        replace hp := dd hp
        refine xL ((y21x0_1, y21x0_2, y21x0_3, y21x0_4, y21x0_5, y21x0_6, y21x0_7, y21x0_8) : T_Cmd) ?_
        refine s5 ?_
        refine L_buildSlice1 rfl rfl el149.h rfl (by decide) (by decide) rfl (fun bb34 => ?_)
        replace hp := ba hp; obtain ⟨y23, hy23, hp⟩ := hp
        refine jL ((y21x0_1, y21x0_2, y21x0_3, y21x0_4, y21x0_5, y21x0_6, y21x0_7, y21x0_8) : T_Cmd) ?_
        refine L_app1 (X := v4_0) ((y21x0_1, y21x0_2, y21x0_3, y21x0_4, y21x0_5, y21x0_6, y21x0_7, y21x0_8) : T_Cmd) rfl rfl rfl el149.h rfl rfl pk mm pk hy23 (by decide) (fun X22 hdX22 => ?_)
        subst hdX22
        refine s7 ?_
        exact ⟨(X22, IntKind.wrap .i64 (v4_1 - 1), y21y0_2, y21y0_3), sb, (.sub ms), some_eq hp⟩
      · replace hp := cond_f hc20 hp
        refine s4 ?_
        refine L_buildSlice1 rfl rfl el149.h rfl (by decide) (by decide) rfl (fun bb34 => ?_)
        replace hp := ba hp; obtain ⟨y25, hy25, hp⟩ := hp
        refine jL ((y6x0_1, y6x0_2, y6x0_3, y6x0_4, y6x0_5, y6x0_6, y6x0_7, y6x0_8) : T_Cmd) ?_
        refine L_app1 (X := v4_0) ((y6x0_1, y6x0_2, y6x0_3, y6x0_4, y6x0_5, y6x0_6, y6x0_7, y6x0_8) : T_Cmd) rfl rfl rfl el149.h rfl rfl pk mm pk hy25 (by decide) (fun X24 hdX24 => ?_)
        subst hdX24
        refine s7 ?_
        exact ⟨(X24, IntKind.wrap .i64 (v4_1 - 1), y19y0_2, y19y0_3), sb, (.sub ms), some_eq hp⟩
  · replace hp := cond_f hc5 hp
    refine W_exit ?_
    replace hp := map_any hp; obtain ⟨a26, hp, hx_a26⟩ := hp
    obtain rfl := hx4 _ hx_a26
    refine s5 ?_
    obtain rfl := Option.some.inj hp
    refine s1 ?_
    refine res1 rfl (ResOK.tmp rfl) ⟨v4_0, (a0_1, v4_2, v4_3), rfl, rfl, rfl, rfl⟩ ms
noncomputable def s_l15Copy (a0 : D_Catalog) : Option D_Catalog :=
  whileP (fun s1 : Int × (List D_CSet) => cond (decide (s1.1 < (a0.length : Int))) (Option.bind (idx a0 s1.1) (fun y3 => whileP (fun s4 : Int × (List D_CSnap) => Option.bind (idx a0 s1.1) (fun y5 => cond (decide (s4.1 < (y5.2.length : Int))) (Option.bind (idx a0 s1.1) (fun y7 => Option.bind (idx y7.2 s4.1) (fun y8 => Option.bind (some ([] : List ByteArray)) (fun y10 => Option.bind (appP y10 y8.2.2) (fun y12 => Option.bind (appP s4.2 [(y8.1, y8.2.1, y12)]) (fun y14 => some (.inl ((IntKind.wrap .i64 (s4.1 + 1), y14))))))))) (Option.map .inr (Option.bind (appP s1.2 [(y3.1, s4.2)]) (fun y17 => some (.inl ((IntKind.wrap .i64 (s1.1 + 1), y17)))))))) (0, ([] : List D_CSnap)))) (Option.map .inr (some s1.2))) (0, ([] : List D_CSet))
theorem s_l15Copy_walk (w : World) (a0 : T_Catalog) (h0 : GT.rd w [] a0) (r : D_Catalog) (hp : s_l15Copy (GT.dat a0) = some r) : Spec Tryd.prog 157 [.agg (GT.cells a0).toArray].toArray w [] (fun v M => ∃ (x0 : T_Catalog), v = .agg (GT.cells x0).toArray ∧ GT.dat x0 = r ∧ M = [treeH x0]) := by
  change Spec _ _ ([Value.agg #[(TL.hdr a0)]] : List Value).toArray w [] _
  refine Spec.intro Tryd.func157 rfl Tryd.ntmps157 rfl ?_
  unfold s_l15Copy at hp
  replace hp := dd hp
  refine s2 ?_
  refine bx fun bk1 => ?_
  refine al fun bk2 => ?_
  refine s3 ?_
  refine L_build (xs := []) (cs := [(TL.hdr (TL.nil T_CSet 0))]) rfl rfl bld53.h rfl ?_
  refine al fun bk3 => ?_
  refine s8 ?_
  refine W_conv (M' := treeH (TL.nil T_CSet 0) :: _) (fun w h => addNilT (τ := T_CSet) 0 h) ?_
  refine W_while (σ := Int × (TL T_CSet)) GT.dat (fun ((v1_0, v1_1) : Int × (TL T_CSet)) => [(4, .int .i64 v1_0)]) (fun ((v1_0, v1_1) : Int × (TL T_CSet)) => [blk bk3 [(TL.hdr v1_1)] 53, treeH v1_1]) [(1, _), (2, _), (3, _)] [blk bk1 _ _, blk bk2 _ _] (0, (TL.nil T_CSet 0)) hp sb ms ?_
  clear hp
  rintro ⟨v1_0, v1_1⟩ x1 hp hx1
  replace hp := dd hp
  refine kq [1, 2, 3, 4] ?_
  refine s9 ?_
  refine kp [1, 2, 3, 4, 13] ?_
  refine W_cond rfl (fun hc2 => ?_) (fun hc2 => ?_)
  · replace hp := cond_t hc2 hp
    refine s8 ?_
    replace hp := idx_bind hp; obtain ⟨⟨u3_1, u3_2⟩, hy3, hp⟩ := hp
    refine L_idxA (X := a0) rfl rfl rfl el51.h (RdT.old h0) hy3 ?_
    refine s1 ?_
    refine L_load rfl rfl (RdT.at (RdT.old h0) (hy3).2) one9.h rfl ?_
    refine L_build (xs := [(0, .tmp 21)]) (cs := [.string u3_1, (TL.hdr (TL.nil T_CSnap 0))]) rfl rfl bld72.h rfl ?_
    refine al fun bk5 => ?_
    refine s8 ?_
    refine W_conv (M' := treeH (TL.nil T_CSnap 0) :: _) (fun w h => addNilT (τ := T_CSnap) 0 h) ?_
    refine W_while (σ := Int × (TL T_CSnap)) GT.dat (fun ((v4_0, v4_1) : Int × (TL T_CSnap)) => [(6, .int .i64 v4_0)]) (fun ((v4_0, v4_1) : Int × (TL T_CSnap)) => [blk bk5 [.string u3_1, (TL.hdr v4_1)] 72, treeH v4_1]) [(1, _), (2, _), (3, _), (4, _), (5, _)] [blk bk1 _ _, blk bk2 _ _, blk bk3 _ _, treeH v1_1] (0, (TL.nil T_CSnap 0)) hp sb ms ?_
    clear hp
    rintro ⟨v4_0, v4_1⟩ x4 hp hx4
    replace hp := dd hp
    refine kq [1, 2, 3, 4, 5, 6] ?_
    refine s7 ?_
    replace hp := idx_bind hp; obtain ⟨u5, hy5, hp⟩ := hp
    obtain rfl : (u3_1, u3_2) = u5 := Option.some.inj (hy3.2.symm.trans hy5.2)
    refine L_idxA (X := a0) rfl rfl rfl el51.h (RdT.old h0) hy3 ?_
    refine s1 ?_
    refine L_load rfl rfl (RdT.at (RdT.old h0) (hy3).2) one70.h rfl ?_
    refine s3 ?_
    refine kp [1, 2, 3, 4, 5, 6, 31] ?_
    refine W_cond rfl (fun hc6 => ?_) (fun hc6 => ?_)
    · replace hp := cond_t hc6 hp
      refine s8 ?_
      replace hp := idx_bind hp; obtain ⟨u7, hy7, hp⟩ := hp
      obtain rfl : (u3_1, u3_2) = u7 := Option.some.inj (hy3.2.symm.trans hy7.2)
      refine L_idxA (X := a0) rfl rfl rfl el51.h (RdT.old h0) hy3 ?_
      refine s1 ?_
      refine L_load rfl rfl (RdT.at (RdT.old h0) (hy3).2) one70.h rfl ?_
      refine s1 ?_
      replace hp := idx_bind hp; obtain ⟨⟨u8_1, u8_2, u8_3⟩, hy8, hp⟩ := hp
      refine L_idxA (X := u3_2) rfl rfl rfl el70.h (RdT.snd (RdT.of (RdT.old h0) (hy3).2)) hy8 ?_
      refine L_loadW rfl rfl (RdT.at (RdT.snd (RdT.of (RdT.old h0) (hy3).2)) (hy8).2) (by exact agg75.h) ?_
      refine al fun bk7 => ?_
      refine s4 ?_
      replace hp := ba hp; obtain ⟨y10, hy10, hp⟩ := hp
      refine L_mk0 ByteArray rfl el73.h (fun X9 hdX9 => ?_)
      obtain rfl : GT.dat X9 = y10 := hdX9.trans (Option.some.inj hy10)
      clear hy10 hdX9
      refine s2 ?_
      replace hp := ba hp; obtain ⟨y12, hy12, hp⟩ := hp
      refine L_appT (X := X9) (Y := u8_3) rfl rfl rfl el73.h rfl rfl pk (RdT.snd (RdT.snd (RdT.of (RdT.snd (RdT.of (RdT.old h0) (hy3).2)) (hy8).2))) hy12 (by decide) (fun X11 hdX11 => ?_)
      subst hdX11
      refine s7 ?_
      refine L_buildSlice1 rfl rfl el70.h rfl (by decide) (by decide) rfl (fun bb51 => ?_)
      replace hp := ba hp; obtain ⟨y14, hy14, hp⟩ := hp
      refine jL ((u8_1, u8_2, X11) : T_CSnap) ?_
      refine L_app1 (X := v4_1) ((u8_1, u8_2, X11) : T_CSnap) rfl rfl rfl el70.h rfl rfl pk mm pk hy14 (by decide) (fun X13 hdX13 => ?_)
      subst hdX13
      refine s8 ?_
      exact ⟨(IntKind.wrap .i64 (v4_0 + 1), X13), sb, (.sub ms), some_eq hp⟩
    · replace hp := cond_f hc6 hp
      refine W_exit ?_
      replace hp := map_any hp; obtain ⟨a15, hp, hx_a15⟩ := hp
      obtain rfl := hx4 _ hx_a15
      refine s4 ?_
      refine L_buildSlice1 rfl rfl el51.h rfl (by decide) (by decide) rfl (fun bb57 => ?_)
      replace hp := ba hp; obtain ⟨y17, hy17, hp⟩ := hp
      refine jL ((u3_1, v4_1) : T_CSet) ?_
      refine L_app1 (X := v1_1) ((u3_1, v4_1) : T_CSet) rfl rfl rfl el51.h rfl rfl pk mm pk hy17 (by decide) (fun X16 hdX16 => ?_)
      subst hdX16
      refine s8 ?_
      exact ⟨(IntKind.wrap .i64 (v1_0 + 1), X16), sb, (.sub ms), some_eq hp⟩
  · replace hp := cond_f hc2 hp
    refine W_exit ?_
    replace hp := map_any hp; obtain ⟨a18, hp, hx_a18⟩ := hp
    obtain rfl := hx1 _ hx_a18
    refine s5 ?_
    obtain rfl := Option.some.inj hp
    refine s1 ?_
    refine res1 rfl (ResOK.cell rfl mm (by exact agg53.h)) ⟨v1_1, rfl, rfl, rfl⟩ ms
noncomputable def s_l4Texts (a0 : List ByteArray) (a1 : List ByteArray) : Option Bool :=
  cond (!decide ((a0.length : Int) = (a1.length : Int))) (some false) (whileP (fun s2 : Int => cond (decide (s2 < (a0.length : Int))) (Option.bind (idx a0 s2) (fun y4 => Option.bind (idx a1 s2) (fun y5 => cond (!decide (y4 = y5)) (Option.map .inr (some false)) (some (.inl (IntKind.wrap .i64 (s2 + 1))))))) (Option.map .inr (some true))) 0)
theorem s_l4Texts_walk (w : World) (a0 : TL ByteArray) (a1 : TL ByteArray) (h0 : GT.rd w [] a0) (h1 : GT.rd w [] a1) (r : Bool) (hp : s_l4Texts (GT.dat a0) (GT.dat a1) = some r) : Spec Tryd.prog 170 [(TL.hdr a0), (TL.hdr a1)].toArray w [] (IsV (.bool r)) := by
  refine Spec.intro Tryd.func170 rfl Tryd.ntmps170 rfl ?_
  unfold s_l4Texts at hp
  replace hp := dd hp
  refine s13 ?_
  refine kp [0, 1, 10] ?_
  refine W_cond rfl (fun hc1 => ?_) (fun hc1 => ?_)
  · replace hp := cond_t hc1 hp
    refine s4 ?_
    obtain rfl := Option.some.inj hp
    refine s1 ?_
    refine res1 rfl (ResOK.tmp rfl) ⟨rfl, rfl⟩ ms
  · replace hp := cond_f hc1 hp
    refine s7 ?_
    refine W_while (σ := Int) GT.dat (fun (v2_0 : Int) => [(5, .int .i64 v2_0)]) (fun (v2_0 : Int) => []) [(0, _), (1, _)] [] 0 hp sb ms ?_
    clear hp
    rintro v2_0 x2 hp hx2
    replace hp := dd hp
    refine kq [0, 1, 5] ?_
    refine s8 ?_
    refine kp [0, 1, 5, 14] ?_
    refine W_cond rfl (fun hc3 => ?_) (fun hc3 => ?_)
    · replace hp := cond_t hc3 hp
      refine s4 ?_
      replace hp := idx_bind hp; obtain ⟨u4, hy4, hp⟩ := hp
      replace hp := idx_bind hp; obtain ⟨u5, hy5, hp⟩ := hp
      refine W_D0 [25] mix (by kernel_rfl) rfl ?_
      refine s2 ?_
      refine D_idxA (X := a0) GC.none (OpV.t rfl) (OpV.t rfl) el73.h (RdT.old h0) (fun _ => hy4) ?_
      refine D_load0 GC.none (OpV.t rfl) (fun hg => RdT.at (RdT.old h0) (hy4).2) one9.h rfl ?_
      refine s2 ?_
      refine D_idxA (X := a1) GC.none (OpV.t rfl) (OpV.t rfl) el73.h (RdT.old h1) (fun _ => hy5) ?_
      refine D_load0 GC.none (OpV.t rfl) (fun hg => RdT.at (RdT.old h1) (hy5).2) one9.h rfl ?_
      refine s12 ?_
      refine kp [0, 1, 5, 25] ?_
      refine W_cond rfl (fun hc6 => ?_) (fun hc6 => ?_)
      · replace hp := cond_t hc6 hp
        refine s4 ?_
        replace hp := map_any hp; obtain ⟨a7, hp, hx_a7⟩ := hp
        obtain rfl := hx2 _ hx_a7
        obtain rfl := Option.some.inj hp
        refine s1 ?_
        refine res1 rfl (ResOK.tmp rfl) ⟨rfl, rfl⟩ ms
      · replace hp := cond_f hc6 hp
        refine s6 ?_
        exact ⟨IntKind.wrap .i64 (v2_0 + 1), sb, (.sub ms), some_eq hp⟩
    · replace hp := cond_f hc3 hp
      refine W_exit ?_
      replace hp := map_any hp; obtain ⟨a8, hp, hx_a8⟩ := hp
      obtain rfl := hx2 _ hx_a8
      refine s4 ?_
      obtain rfl := Option.some.inj hp
      refine s1 ?_
      refine res1 rfl (ResOK.tmp rfl) ⟨rfl, rfl⟩ ms
noncomputable def s_SameCmd (a0 : D_Cmd) (a1 : D_Cmd) : Option Bool :=
  gb (((((((decide (a0.1 = a1.1)) && (decide (a0.2.1 = a1.2.1))) && (decide (a0.2.2.1 = a1.2.2.1))) && (decide (a0.2.2.2.1 = a1.2.2.2.1))) && (decide (a0.2.2.2.2.1 = a1.2.2.2.2.1))) && (decide (a0.2.2.2.2.2.1 = a1.2.2.2.2.2.1))) && (decide (a0.2.2.2.2.2.2.1 = a1.2.2.2.2.2.2.1))) (s_l4Texts a0.2.2.2.2.2.2.2 a1.2.2.2.2.2.2.2) (fun y1 => some ((((((((decide (a0.1 = a1.1)) && (decide (a0.2.1 = a1.2.1))) && (decide (a0.2.2.1 = a1.2.2.1))) && (decide (a0.2.2.2.1 = a1.2.2.2.1))) && (decide (a0.2.2.2.2.1 = a1.2.2.2.2.1))) && (decide (a0.2.2.2.2.2.1 = a1.2.2.2.2.2.1))) && (decide (a0.2.2.2.2.2.2.1 = a1.2.2.2.2.2.2.1))) && y1))
theorem s_SameCmd_walk (w : World) (a0 : T_Cmd) (a1 : T_Cmd) (h0 : GT.rd w [] a0) (h1 : GT.rd w [] a1) (r : Bool) (hp : s_SameCmd (GT.dat a0) (GT.dat a1) = some r) : Spec Tryd.prog 165 [.agg (GT.cells a0).toArray, .agg (GT.cells a1).toArray].toArray w [] (IsV (.bool r)) := by
  obtain ⟨a0_1, a0_2, a0_3, a0_4, a0_5, a0_6, a0_7, a0_8⟩ := a0
  obtain ⟨a1_1, a1_2, a1_3, a1_4, a1_5, a1_6, a1_7, a1_8⟩ := a1
  change Spec _ _ ([Value.agg #[.int .i64 a0_1, .int .i64 a0_2, .int .i64 a0_3, .string a0_4, .string a0_5, .string a0_6, .int .i64 a0_7, (TL.hdr a0_8)], Value.agg #[.int .i64 a1_1, .int .i64 a1_2, .int .i64 a1_3, .string a1_4, .string a1_5, .string a1_6, .int .i64 a1_7, (TL.hdr a1_8)]] : List Value).toArray w [] _
  refine Spec.intro Tryd.func165 rfl Tryd.ntmps165 rfl ?_
  unfold s_SameCmd at hp
  replace hp := dd hp
  refine s2 ?_
  refine bx fun bk2 => ?_
  refine bx fun bk3 => ?_
  refine s3 ?_
  replace hp := gb_any hp; obtain ⟨y1, hy1, hp⟩ := hp
  refine W_D0 [4] mix (by kernel_rfl) rfl ?_
  refine s20 ?_
  refine s20 ?_
  refine s12 ?_
  refine D_callX (GC.some rfl rfl) fn170.h (OpVs.cons (OpV.s rfl) (OpVs.cons (OpV.s rfl) (OpVs.nil))) (by exact fun hg w F hF hM => s_l4Texts_walk w a0_8 a1_8 (RdT.nowS (RdT.old h0.2.2.2.2.2.2.2) hF hM) (RdT.nowS (RdT.old h1.2.2.2.2.2.2.2) hF hM) _ (hy1 hg.2)) ?_
  refine s20 ?_
  refine s20 ?_
  refine s19 ?_
  obtain rfl := Option.some.inj hp
  refine s1 ?_
  refine res1 rfl (ResOK.tmp rfl) ⟨rfl, rfl⟩ ms
noncomputable def s_l4May (a0 : ByteArray) (a1 : Bool) : Option Bool :=
  cond a1 (Option.bind (s_l4Word a0) (fun y2 => some y2)) (some (decide (a0 = ByteArray.empty)))
theorem s_l4May_walk (w : World) (a0 : ByteArray) (a1 : Bool)  (r : Bool) (hp : s_l4May a0 a1 = some r) : Spec Tryd.prog 166 [.string a0, .bool a1].toArray w [] (IsV (.bool r)) := by
  refine Spec.intro Tryd.func166 rfl Tryd.ntmps166 rfl ?_
  unfold s_l4May at hp
  replace hp := dd hp
  refine s9 ?_
  refine kp [0, 5] ?_
  refine W_cond rfl (fun hc1 => ?_) (fun hc1 => ?_)
  · replace hp := cond_t hc1 hp
    refine s3 ?_
    replace hp := ba hp; obtain ⟨y2, hy2, hp⟩ := hp
    refine L_callX rfl fn109.h rfl (by exact fun w hw => s_l4Word_walk w a0  _ hy2) ?_
    refine s2 ?_
    obtain rfl := Option.some.inj hp
    refine s1 ?_
    refine res1 rfl (ResOK.tmp rfl) ⟨rfl, rfl⟩ ms
  · replace hp := cond_f hc1 hp
    refine s7 ?_
    obtain rfl := Option.some.inj hp
    refine s1 ?_
    refine res1 rfl (ResOK.tmp rfl) ⟨rfl, rfl⟩ ms
noncomputable def s_CmdOk (a0 : D_Cmd) : Option Bool :=
  Option.bind (s_l1In a0.1 0 7) (fun y1 => cond (!y1) (some false) (cond (decide (a0.1 = 0)) (Option.bind (s_SameCmd (a0.1, a0.2.1, a0.2.2.1, a0.2.2.2.1, a0.2.2.2.2.1, a0.2.2.2.2.2.1, a0.2.2.2.2.2.2.1, a0.2.2.2.2.2.2.2) (0, 0, 0, ByteArray.empty, ByteArray.empty, ByteArray.empty, 0, ([] : List ByteArray))) (fun y4 => some y4)) (Option.bind (s_l1In a0.2.1 1 9) (fun y5 => gb (!(!y5)) (s_l1In a0.2.2.1 1 1000) (fun y6 => gb (!((!y5) || (!y6))) (s_l4May a0.2.2.2.1 (!decide (a0.1 = 7))) (fun y7 => gb (!(((!y5) || (!y6)) || (!y7))) (s_l4May a0.2.2.2.2.1 ((decide (a0.1 = 3)) || (decide (a0.1 = 4)))) (fun y8 => gb (!((((!y5) || (!y6)) || (!y7)) || (!y8))) (s_l4May a0.2.2.2.2.2.1 (decide (a0.1 = 4))) (fun y9 => gb (((!(((((!y5) || (!y6)) || (!y7)) || (!y8)) || (!y9))) && (!decide (a0.2.2.2.2.2.2.1 = 0))) && (!(!decide (a0.1 = 5)))) (s_l1In a0.2.2.2.2.2.2.1 0 9) (fun y10 => cond ((((((!y5) || (!y6)) || (!y7)) || (!y8)) || (!y9)) || ((!decide (a0.2.2.2.2.2.2.1 = 0)) && ((!decide (a0.1 = 5)) || (!y10)))) (some false) (cond (!decide (a0.1 = 3)) (some (decide ((a0.2.2.2.2.2.2.2.length : Int) = 0))) (Option.bind (s_l1In (a0.2.2.2.2.2.2.2.length : Int) 1 4) (fun y13 => cond (!y13) (some false) (whileP (fun s15 : Int => cond (decide (s15 < (a0.2.2.2.2.2.2.2.length : Int))) (Option.bind (idx a0.2.2.2.2.2.2.2 s15) (fun y17 => cond (!decide ((y17.size : Int) = 8)) (Option.map .inr (some false)) (some (.inl (IntKind.wrap .i64 (s15 + 1)))))) (Option.map .inr (some true))) 0)))))))))))))
theorem s_CmdOk_walk (w : World) (a0 : T_Cmd) (h0 : GT.rd w [] a0) (r : Bool) (hp : s_CmdOk (GT.dat a0) = some r) : Spec Tryd.prog 158 [.agg (GT.cells a0).toArray].toArray w [] (IsV (.bool r)) := by
  obtain ⟨a0_1, a0_2, a0_3, a0_4, a0_5, a0_6, a0_7, a0_8⟩ := a0
  change Spec _ _ ([Value.agg #[.int .i64 a0_1, .int .i64 a0_2, .int .i64 a0_3, .string a0_4, .string a0_5, .string a0_6, .int .i64 a0_7, (TL.hdr a0_8)]] : List Value).toArray w [] _
  refine Spec.intro Tryd.func158 rfl Tryd.ntmps158 rfl ?_
  unfold s_CmdOk at hp
  replace hp := dd hp
  refine s2 ?_
  refine bx fun bk1 => ?_
  refine s7 ?_
  replace hp := ba hp; obtain ⟨y1, hy1, hp⟩ := hp
  refine L_callX rfl fn86.h rfl (by exact fun w hw => s_l1In_walk w a0_1 0 7  _ hy1) ?_
  refine s2 ?_
  refine kp [1, 8] ?_
  refine W_cond rfl (fun hc2 => ?_) (fun hc2 => ?_)
  · replace hp := cond_t hc2 hp
    refine s4 ?_
    obtain rfl := Option.some.inj hp
    refine s1 ?_
    refine res1 rfl (ResOK.tmp rfl) ⟨rfl, rfl⟩ ms
  · replace hp := cond_f hc2 hp
    refine s8 ?_
    refine kp [1, 11] ?_
    refine W_cond rfl (fun hc3 => ?_) (fun hc3 => ?_)
    · replace hp := cond_t hc3 hp
      refine s3 ?_
      refine L_build (xs := []) (cs := [.int .i64 0, .int .i64 0, .int .i64 0, .string ByteArray.empty, .string ByteArray.empty, .string ByteArray.empty, .int .i64 0, (TL.hdr (TL.nil ByteArray 0))]) rfl rfl bld176.h rfl ?_
      replace hp := ba hp; obtain ⟨y4, hy4, hp⟩ := hp
      refine L_callX rfl fn165.h rfl (by exact fun w hw => s_SameCmd_walk w (a0_1, a0_2, a0_3, a0_4, a0_5, a0_6, a0_7, a0_8) (0, 0, 0, ByteArray.empty, ByteArray.empty, ByteArray.empty, 0, (TL.nil ByteArray 0)) (RdT.now (RdT.pair RdT.int (RdT.pair RdT.int (RdT.pair RdT.int (RdT.pair RdT.str (RdT.pair RdT.str (RdT.pair RdT.str (RdT.pair RdT.int (RdT.old h0.2.2.2.2.2.2.2)))))))) hw) (RdT.now (RdT.pair RdT.int (RdT.pair RdT.int (RdT.pair RdT.int (RdT.pair RdT.str (RdT.pair RdT.str (RdT.pair RdT.str (RdT.pair RdT.int (RdT.nil 0)))))))) hw) _ hy4) ?_
      refine s2 ?_
      obtain rfl := Option.some.inj hp
      refine s1 ?_
      refine res1 rfl (ResOK.tmp rfl) ⟨rfl, rfl⟩ ms
    · replace hp := cond_f hc3 hp
      refine s9 ?_
      replace hp := ba hp; obtain ⟨y5, hy5, hp⟩ := hp
      replace hp := gb_any hp; obtain ⟨y6, hy6, hp⟩ := hp
      replace hp := gb_any hp; obtain ⟨y7, hy7, hp⟩ := hp
      replace hp := gb_any hp; obtain ⟨y8, hy8, hp⟩ := hp
      replace hp := gb_any hp; obtain ⟨y9, hy9, hp⟩ := hp
      replace hp := gb_any hp; obtain ⟨y10, hy10, hp⟩ := hp
      refine W_D0 [69] mix (by kernel_rfl) rfl ?_
      refine s2 ?_
      refine D_callX GC.none fn86.h (OpVs.cons (OpV.t rfl) (OpVs.cons OpV.c (OpVs.cons OpV.c (OpVs.nil)))) (by exact fun hg w F hF hM => s_l1In_walk w a0_2 1 9  _ hy5) ?_
      refine s4 ?_
      refine D_callX (GC.some rfl rfl) fn86.h (OpVs.cons (OpV.s rfl) (OpVs.cons OpV.c (OpVs.cons OpV.c (OpVs.nil)))) (by exact fun hg w F hF hM => s_l1In_walk w a0_3 1 1000  _ (hy6 (gnot hg.2))) ?_
      refine s7 ?_
      refine D_callX (GC.some rfl rfl) fn166.h (OpVs.cons (OpV.s rfl) (OpVs.cons (OpV.s rfl) (OpVs.nil))) (by exact fun hg w F hF hM => s_l4May_walk w a0_4 (!decide (a0_1 = 7))  _ (hy7 (gnot hg.2))) ?_
      refine s11 ?_
      refine D_callX (GC.some rfl rfl) fn166.h (OpVs.cons (OpV.s rfl) (OpVs.cons (OpV.s rfl) (OpVs.nil))) (by exact fun hg w F hF hM => s_l4May_walk w a0_5 ((decide (a0_1 = 3)) || (decide (a0_1 = 4)))  _ (hy8 (gnot hg.2))) ?_
      refine s7 ?_
      refine D_callX (GC.some rfl rfl) fn166.h (OpVs.cons (OpV.s rfl) (OpVs.cons (OpV.s rfl) (OpVs.nil))) (by exact fun hg w F hF hM => s_l4May_walk w a0_6 (decide (a0_1 = 4))  _ (hy9 (gnot hg.2))) ?_
      refine s12 ?_
      refine D_callX (GC.some rfl rfl) fn86.h (OpVs.cons (OpV.s rfl) (OpVs.cons OpV.c (OpVs.cons OpV.c (OpVs.nil)))) (by exact fun hg w F hF hM => s_l1In_walk w a0_7 0 9  _ (hy10 (gand (gand (gnot hg.1.1.2) hg.1.2) (gnot hg.2)))) ?_
      refine s20 ?_
      refine s20 ?_
      refine s19 ?_
      refine kp [1, 3, 69] ?_
      refine W_cond rfl (fun hc11 => ?_) (fun hc11 => ?_)
      · replace hp := cond_t hc11 hp
        refine s4 ?_
        obtain rfl := Option.some.inj hp
        refine s1 ?_
        refine res1 rfl (ResOK.tmp rfl) ⟨rfl, rfl⟩ ms
      · replace hp := cond_f hc11 hp
        refine s7 ?_
        refine kp [1, 71] ?_
        refine W_cond rfl (fun hc12 => ?_) (fun hc12 => ?_)
        · replace hp := cond_t hc12 hp
          refine s8 ?_
          obtain rfl := Option.some.inj hp
          refine s1 ?_
          refine res1 rfl (ResOK.tmp rfl) ⟨rfl, rfl⟩ ms
        · replace hp := cond_f hc12 hp
          refine s7 ?_
          replace hp := ba hp; obtain ⟨y13, hy13, hp⟩ := hp
          refine L_callX rfl fn86.h rfl (by exact fun w hw => s_l1In_walk w ((GT.dat a0_8).length : Int) 1 4  _ hy13) ?_
          refine s2 ?_
          refine kp [1, 80] ?_
          refine W_cond rfl (fun hc14 => ?_) (fun hc14 => ?_)
          · replace hp := cond_t hc14 hp
            refine s4 ?_
            obtain rfl := Option.some.inj hp
            refine s1 ?_
            refine res1 rfl (ResOK.tmp rfl) ⟨rfl, rfl⟩ ms
          · replace hp := cond_f hc14 hp
            refine s7 ?_
            refine W_while (σ := Int) GT.dat (fun (v15_0 : Int) => [(4, .int .i64 v15_0)]) (fun (v15_0 : Int) => []) [(1, _)] [blk bk1 _ _] 0 hp sb ms ?_
            clear hp
            rintro v15_0 x15 hp hx15
            replace hp := dd hp
            refine kq [1, 4] ?_
            refine s9 ?_
            refine kp [1, 4, 85] ?_
            refine W_cond rfl (fun hc16 => ?_) (fun hc16 => ?_)
            · replace hp := cond_t hc16 hp
              refine s8 ?_
              replace hp := idx_bind hp; obtain ⟨u17, hy17, hp⟩ := hp
              refine L_idxA (X := a0_8) rfl rfl rfl el73.h (RdT.old h0.2.2.2.2.2.2.2) hy17 ?_
              refine L_load0 rfl rfl (RdT.at (RdT.old h0.2.2.2.2.2.2.2) (hy17).2) one9.h rfl ?_
              refine s3 ?_
              refine kp [1, 4, 94] ?_
              refine W_cond rfl (fun hc18 => ?_) (fun hc18 => ?_)
              · replace hp := cond_t hc18 hp
                refine s4 ?_
                replace hp := map_any hp; obtain ⟨a19, hp, hx_a19⟩ := hp
                obtain rfl := hx15 _ hx_a19
                obtain rfl := Option.some.inj hp
                refine s1 ?_
                refine res1 rfl (ResOK.tmp rfl) ⟨rfl, rfl⟩ ms
              · replace hp := cond_f hc18 hp
                refine s6 ?_
                exact ⟨IntKind.wrap .i64 (v15_0 + 1), sb, (.sub ms), some_eq hp⟩
            · replace hp := cond_f hc16 hp
              refine W_exit ?_
              replace hp := map_any hp; obtain ⟨a20, hp, hx_a20⟩ := hp
              obtain rfl := hx15 _ hx_a20
              refine s4 ?_
              obtain rfl := Option.some.inj hp
              refine s1 ?_
              refine res1 rfl (ResOK.tmp rfl) ⟨rfl, rfl⟩ ms
noncomputable def s_l15Create (a0 : D_Catalog) (a1 : ByteArray) : Option (D_Catalog × ByteArray) :=
  Option.bind (s_l15At a0 a1) (fun y1 => cond (decide (0 ≤ y1)) (some (a0, (ByteArray.mk #[101, 120, 105, 115, 116, 115]))) (cond (decide (5 ≤ (a0.length : Int))) (some (a0, (ByteArray.mk #[102, 117, 108, 108]))) (Option.bind (some ([] : List D_CSet)) (fun y5 => whileP (fun s6 : (List D_CSet) × Bool × Int => cond (decide (s6.2.2 < (a0.length : Int))) (gb (!s6.2.1) (idx a0 s6.2.2) (fun y8 => cond ((!s6.2.1) && (!sLt y8.1 a1 && !decide (y8.1 = a1))) (Option.bind (appP s6.1 [(a1, ([] : List D_CSnap))]) (fun y11 => Option.bind (idx a0 s6.2.2) (fun y12 => Option.bind (appP y11 [(y12.1, y12.2)]) (fun y14 => some (.inl ((y14, true, IntKind.wrap .i64 (s6.2.2 + 1)))))))) (Option.bind (idx a0 s6.2.2) (fun y15 => Option.bind (appP s6.1 [(y15.1, y15.2)]) (fun y17 => some (.inl ((y17, s6.2.1, IntKind.wrap .i64 (s6.2.2 + 1))))))))) (Option.map .inr (cond (!s6.2.1) (Option.bind (appP s6.1 [(a1, ([] : List D_CSnap))]) (fun y21 => some (y21, (ByteArray.mk #[111, 107])))) (some (s6.1, (ByteArray.mk #[111, 107])))))) (y5, false, 0)))))
theorem s_l15Create_walk (w : World) (a0 : T_Catalog) (a1 : ByteArray)  (r : D_Catalog × ByteArray) (hp : s_l15Create (GT.dat a0) a1 = some r) : Spec Tryd.prog 159 [.agg (GT.cells a0).toArray, .string a1].toArray w [treeH a0] (fun v M => ∃ (x0 : T_Catalog) (x1 : ByteArray), v = .tuple #[.agg (GT.cells x0).toArray, .string x1] ∧ (GT.dat x0, GT.dat x1) = r ∧ M = [treeH x0]) := by
  change Spec _ _ ([Value.agg #[(TL.hdr a0)], .string a1] : List Value).toArray w _ _
  refine Spec.intro Tryd.func159 rfl Tryd.ntmps159 rfl ?_
  unfold s_l15Create at hp
  replace hp := dd hp
  refine s2 ?_
  refine bx fun bk2 => ?_
  refine al fun bk4 => ?_
  refine s7 ?_
  replace hp := ba hp; obtain ⟨y1, hy1, hp⟩ := hp
  refine L_callX rfl fn72.h rfl (by exact fun w hw => s_l15At_walk w a0 a1 (RdT.now (RdT.tree mm) hw) _ hy1) ?_
  refine s2 ?_
  refine kp [1, 2, 4, 12] ?_
  refine W_cond rfl (fun hc2 => ?_) (fun hc2 => ?_)
  · replace hp := cond_t hc2 hp
    refine s6 ?_
    obtain rfl := Option.some.inj hp
    refine s1 ?_
    refine res2 rfl (ResOK.cell rfl mm (by exact agg53.h)) (ResOK.tmp rfl) ⟨a0, (ByteArray.mk #[101, 120, 105, 115, 116, 115]), rfl, rfl, rfl⟩ ms
  · replace hp := cond_f hc2 hp
    refine s9 ?_
    refine kp [1, 2, 4, 17] ?_
    refine W_cond rfl (fun hc3 => ?_) (fun hc3 => ?_)
    · replace hp := cond_t hc3 hp
      refine s6 ?_
      obtain rfl := Option.some.inj hp
      refine s1 ?_
      refine res2 rfl (ResOK.cell rfl mm (by exact agg53.h)) (ResOK.tmp rfl) ⟨a0, (ByteArray.mk #[102, 117, 108, 108]), rfl, rfl, rfl⟩ ms
    · replace hp := cond_f hc3 hp
      refine s3 ?_
      replace hp := ba hp; obtain ⟨y5, hy5, hp⟩ := hp
      refine L_mk0 T_CSet rfl el51.h (fun X4 hdX4 => ?_)
      obtain rfl : GT.dat X4 = y5 := hdX4.trans (Option.some.inj hy5)
      clear hy5 hdX4
      refine s12 ?_
      refine W_conv (M' := rowH a0 :: elsT (a0.els.drop 0) :: _) (fun w h => els_start pk h) ?_
      refine W_while (σ := (TL T_CSet) × Bool × Int) GT.dat (fun ((v6_0, v6_1, v6_2) : (TL T_CSet) × Bool × Int) => [(6, (TL.hdr v6_0)), (7, .bool v6_1), (8, .int .i64 v6_2)]) (fun ((v6_0, v6_1, v6_2) : (TL T_CSet) × Bool × Int) => [treeH v6_0, elsT (a0.els.drop (v6_2.toNat))]) [(1, _), (2, _), (4, _)] [blk bk2 _ _, blk bk4 _ _, rowH a0] (X4, false, 0) hp sb ms ?_
      clear hp
      rintro ⟨v6_0, v6_1, v6_2⟩ x6 hp hx6
      replace hp := dd hp
      refine kq [1, 2, 4, 6, 7, 8] ?_
      refine s9 ?_
      refine kp [1, 2, 4, 6, 7, 8, 24] ?_
      refine W_cond rfl (fun hc7 => ?_) (fun hc7 => ?_)
      · replace hp := cond_t hc7 hp
        refine s5 ?_
        replace hp := idx_gb hp; obtain ⟨⟨u8_1, u8_2⟩, hy8, hp⟩ := hp
        refine W_D0 [38] mix (by kernel_rfl) rfl ?_
        refine s6 ?_
        refine D_idxR (X := a0) (GC.some rfl rfl) (OpV.s rfl) (OpV.s rfl) el51.h mm (fun hg => hy8 hg.2) ?_
        refine s1 ?_
        refine D_load (GC.some rfl rfl) (OpV.s rfl) (fun hg => RdC.row (X := a0) mm (hy8 hg.2).2) one9.h rfl ?_
        refine s17 ?_
        refine kp [1, 2, 4, 6, 7, 8, 38] ?_
        refine W_cond rfl (fun hc9 => ?_) (fun hc9 => ?_)
        · replace hp := cond_t hc9 hp
          refine s4 ?_
          refine L_build (xs := [(0, .tmp 40)]) (cs := [.string a1, (TL.hdr (TL.nil T_CSnap 0))]) rfl rfl bld72.h rfl ?_
          refine L_buildSlice1 rfl rfl el51.h rfl (by decide) (by decide) rfl (fun bb42 => ?_)
          replace hp := ba hp; obtain ⟨y11, hy11, hp⟩ := hp
          refine L_conv (M' := treeH (TL.nil T_CSnap 0) :: _) (fun w h => addNilT (τ := T_CSnap) 0 h) ?_
          refine jL ((a1, (TL.nil T_CSnap 0)) : T_CSet) ?_
          refine L_app1 (X := v6_0) ((a1, (TL.nil T_CSnap 0)) : T_CSet) rfl rfl rfl el51.h rfl rfl pk mm pk hy11 (by decide) (fun X10 hdX10 => ?_)
          subst hdX10
          refine s10 ?_
          replace hp := idx_bind hp; obtain ⟨⟨u12_1, u12_2⟩, hy12, hp⟩ := hp
          refine L_idxR (X := a0) rfl rfl rfl el51.h mm hy12 ?_
          refine L_conv (M' := treeH (u12_1, u12_2) :: elsT (a0.els.drop (v6_2.toNat + 1)) :: _) (fun w h => els_next hy12.2 pk h) ?_
          refine xL ((u12_1, u12_2) : T_CSet) ?_
          refine L_loadW rfl rfl (RdC.row (X := a0) mm hy12.2) (by exact agg72.h) ?_
          refine L_buildSlice1 rfl rfl el51.h rfl (by decide) (by decide) rfl (fun bb50 => ?_)
          replace hp := ba hp; obtain ⟨y14, hy14, hp⟩ := hp
          refine jL ((u12_1, u12_2) : T_CSet) ?_
          refine L_app1 (X := X10) ((u12_1, u12_2) : T_CSet) rfl rfl rfl el51.h rfl rfl pk mm pk hy14 (by decide) (fun X13 hdX13 => ?_)
          subst hdX13
          refine s7 ?_
          exact ⟨(X13, true, IntKind.wrap .i64 (v6_2 + 1)), sb, ⟨_, fun w h => (els_step hy12 mm pk h), ms⟩, some_eq hp⟩
        · replace hp := cond_f hc9 hp
          refine s6 ?_
          replace hp := idx_bind hp; obtain ⟨⟨u15_1, u15_2⟩, hy15, hp⟩ := hp
          refine L_idxR (X := a0) rfl rfl rfl el51.h mm hy15 ?_
          refine L_conv (M' := treeH (u15_1, u15_2) :: elsT (a0.els.drop (v6_2.toNat + 1)) :: _) (fun w h => els_next hy15.2 pk h) ?_
          refine xL ((u15_1, u15_2) : T_CSet) ?_
          refine L_loadW rfl rfl (RdC.row (X := a0) mm hy15.2) (by exact agg72.h) ?_
          refine L_buildSlice1 rfl rfl el51.h rfl (by decide) (by decide) rfl (fun bb50 => ?_)
          replace hp := ba hp; obtain ⟨y17, hy17, hp⟩ := hp
          refine jL ((u15_1, u15_2) : T_CSet) ?_
          refine L_app1 (X := v6_0) ((u15_1, u15_2) : T_CSet) rfl rfl rfl el51.h rfl rfl pk mm pk hy17 (by decide) (fun X16 hdX16 => ?_)
          subst hdX16
          refine s7 ?_
          exact ⟨(X16, v6_1, IntKind.wrap .i64 (v6_2 + 1)), sb, ⟨_, fun w h => (els_step hy15 mm pk h), ms⟩, some_eq hp⟩
      · replace hp := cond_f hc7 hp
        refine W_exit ?_
        replace hp := map_any hp; obtain ⟨a18, hp, hx_a18⟩ := hp
        obtain rfl := hx6 _ hx_a18
        refine s6 ?_
        refine kp [1, 2, 4, 6, 53] ?_
        refine W_cond rfl (fun hc19 => ?_) (fun hc19 => ?_)
        · replace hp := cond_t hc19 hp
          refine s3 ?_
          refine L_build (xs := [(0, .tmp 55)]) (cs := [.string a1, (TL.hdr (TL.nil T_CSnap 0))]) rfl rfl bld72.h rfl ?_
          refine L_buildSlice1 rfl rfl el51.h rfl (by decide) (by decide) rfl (fun bb57 => ?_)
          replace hp := ba hp; obtain ⟨y21, hy21, hp⟩ := hp
          refine L_conv (M' := treeH (TL.nil T_CSnap 0) :: _) (fun w h => addNilT (τ := T_CSnap) 0 h) ?_
          refine jL ((a1, (TL.nil T_CSnap 0)) : T_CSet) ?_
          refine L_app1 (X := v6_0) ((a1, (TL.nil T_CSnap 0)) : T_CSet) rfl rfl rfl el51.h rfl rfl pk mm pk hy21 (by decide) (fun X20 hdX20 => ?_)
          subst hdX20
          refine s14 ?_
          obtain rfl := Option.some.inj hp
          refine s1 ?_
          refine res2 rfl (ResOK.cell rfl mm (by exact agg53.h)) (ResOK.tmp rfl) ⟨X20, (ByteArray.mk #[111, 107]), rfl, rfl, rfl⟩ ms
        · replace hp := cond_f hc19 hp
          refine s13 ?_
          obtain rfl := Option.some.inj hp
          refine s1 ?_
          refine res2 rfl (ResOK.cell rfl mm (by exact agg53.h)) (ResOK.tmp rfl) ⟨v6_0, (ByteArray.mk #[111, 107]), rfl, rfl, rfl⟩ ms
noncomputable def s_l15Prune (a0 : List D_CSnap) (a1 : Int) : Option ((List D_CSnap) × Int) :=
  whileP (fun s1 : Int × Int => cond (decide (s1.2 < (a0.length : Int))) (Option.bind (idx a0 s1.2) (fun y3 => cond (decide (y3.2.1 = ByteArray.empty)) (some (.inl ((IntKind.wrap .i64 (s1.1 + 1), IntKind.wrap .i64 (s1.2 + 1))))) (some (.inl ((s1.1, IntKind.wrap .i64 (s1.2 + 1))))))) (Option.map .inr (Option.bind (some ([] : List D_CSnap)) (fun y7 => whileP (fun s8 : Int × (List D_CSnap) × Int => cond (decide (s8.2.2 < (a0.length : Int))) (Option.bind (idx a0 s8.2.2) (fun y10 => cond (decide (y10.2.1 = ByteArray.empty)) (cond (decide (a1 ≤ IntKind.wrap .i64 (s8.1 - 1))) (some (.inl ((IntKind.wrap .i64 (s8.1 - 1), s8.2.1, IntKind.wrap .i64 (s8.2.2 + 1))))) (Option.bind (idx a0 s8.2.2) (fun y13 => Option.bind (appP s8.2.1 [(y13.1, y13.2.1, y13.2.2)]) (fun y15 => some (.inl ((IntKind.wrap .i64 (s8.1 - 1), y15, IntKind.wrap .i64 (s8.2.2 + 1)))))))) (Option.bind (idx a0 s8.2.2) (fun y16 => Option.bind (appP s8.2.1 [(y16.1, y16.2.1, y16.2.2)]) (fun y18 => some (.inl ((s8.1, y18, IntKind.wrap .i64 (s8.2.2 + 1))))))))) (Option.map .inr (some (s8.2.1, IntKind.wrap .i64 ((a0.length : Int) - (s8.2.1.length : Int)))))) (s1.1, y7, 0))))) (0, 0)
theorem s_l15Prune_walk (w : World) (a0 : TL T_CSnap) (a1 : Int)  (r : (List D_CSnap) × Int) (hp : s_l15Prune (GT.dat a0) a1 = some r) : Spec Tryd.prog 167 [(TL.hdr a0), .int .i64 a1].toArray w [treeH a0] (fun v M => ∃ (x0 : TL T_CSnap) (x1 : Int), v = .tuple #[(TL.hdr x0), .int .i64 x1] ∧ (GT.dat x0, GT.dat x1) = r ∧ M = [treeH x0]) := by
  refine Spec.intro Tryd.func167 rfl Tryd.ntmps167 rfl ?_
  unfold s_l15Prune at hp
  replace hp := dd hp
  refine s2 ?_
  refine L_assign (v := (TL.hdr (TL.nil T_CSnap 0))) rfl rfl ?_
  refine s12 ?_
  refine W_while (σ := Int × Int) GT.dat (fun ((v1_0, v1_1) : Int × Int) => [(6, .int .i64 v1_0), (7, .int .i64 v1_1)]) (fun ((v1_0, v1_1) : Int × Int) => []) [(0, _), (1, _)] [treeH a0] (0, 0) hp sb ms ?_
  clear hp
  rintro ⟨v1_0, v1_1⟩ x1 hp hx1
  replace hp := dd hp
  refine kq [0, 1, 6, 7] ?_
  refine s8 ?_
  refine kp [0, 1, 6, 7, 13] ?_
  refine W_cond rfl (fun hc2 => ?_) (fun hc2 => ?_)
  · replace hp := cond_t hc2 hp
    refine s7 ?_
    replace hp := idx_bind hp; obtain ⟨⟨u3_1, u3_2, u3_3⟩, hy3, hp⟩ := hp
    refine L_idxA (X := a0) rfl rfl rfl el70.h (RdT.tree mm) hy3 ?_
    refine s1 ?_
    refine L_load rfl rfl (RdT.at (RdT.tree mm) (hy3).2) one9.h rfl ?_
    refine s2 ?_
    refine kp [0, 1, 6, 7, 21] ?_
    refine W_cond rfl (fun hc4 => ?_) (fun hc4 => ?_)
    · replace hp := cond_t hc4 hp
      refine s10 ?_
      exact ⟨(IntKind.wrap .i64 (v1_0 + 1), IntKind.wrap .i64 (v1_1 + 1)), sb, (.sub ms), some_eq hp⟩
    · replace hp := cond_f hc4 hp
      refine s6 ?_
      exact ⟨(v1_0, IntKind.wrap .i64 (v1_1 + 1)), sb, (.sub ms), some_eq hp⟩
  · replace hp := cond_f hc2 hp
    refine W_exit ?_
    replace hp := map_any hp; obtain ⟨a5, hp, hx_a5⟩ := hp
    obtain rfl := hx1 _ hx_a5
    refine s2 ?_
    replace hp := ba hp; obtain ⟨y7, hy7, hp⟩ := hp
    refine L_mk0 T_CSnap rfl el70.h (fun X6 hdX6 => ?_)
    obtain rfl : GT.dat X6 = y7 := hdX6.trans (Option.some.inj hy7)
    clear hy7 hdX6
    refine s8 ?_
    refine W_conv (M' := rowH a0 :: elsT (a0.els.drop 0) :: _) (fun w h => els_start pk h) ?_
    refine W_while (σ := Int × (TL T_CSnap) × Int) GT.dat (fun ((v8_0, v8_1, v8_2) : Int × (TL T_CSnap) × Int) => [(6, .int .i64 v8_0), (8, (TL.hdr v8_1)), (9, .int .i64 v8_2)]) (fun ((v8_0, v8_1, v8_2) : Int × (TL T_CSnap) × Int) => [treeH v8_1, elsT (a0.els.drop (v8_2.toNat))]) [(0, _), (1, _)] [rowH a0] (v1_0, X6, 0) hp sb ms ?_
    clear hp
    rintro ⟨v8_0, v8_1, v8_2⟩ x8 hp hx8
    replace hp := dd hp
    refine kq [0, 1, 6, 8, 9] ?_
    refine s8 ?_
    refine kp [0, 1, 6, 8, 9, 28] ?_
    refine W_cond rfl (fun hc9 => ?_) (fun hc9 => ?_)
    · replace hp := cond_t hc9 hp
      refine s8 ?_
      replace hp := idx_bind hp; obtain ⟨⟨u10_1, u10_2, u10_3⟩, hy10, hp⟩ := hp
      refine L_idxR (X := a0) rfl rfl rfl el70.h mm hy10 ?_
      refine s1 ?_
      refine L_load rfl rfl (RdC.row (X := a0) mm (hy10).2) one9.h rfl ?_
      refine s2 ?_
      refine kp [0, 1, 6, 8, 9, 36] ?_
      refine W_cond rfl (fun hc11 => ?_) (fun hc11 => ?_)
      · replace hp := cond_t hc11 hp
        refine s12 ?_
        refine kp [0, 1, 6, 8, 9, 41] ?_
        refine W_cond rfl (fun hc12 => ?_) (fun hc12 => ?_)
        · replace hp := cond_t hc12 hp
          refine W_exit ?_
          refine s5 ?_
          exact ⟨(IntKind.wrap .i64 (v8_0 - 1), v8_1, IntKind.wrap .i64 (v8_2 + 1)), sb, ⟨_, fun w h => (els_skip hy10 mm pk h), ms⟩, some_eq hp⟩
        · replace hp := cond_f hc12 hp
          refine s5 ?_
          replace hp := idx_bind hp; obtain ⟨u13, hy13, hp⟩ := hp
          obtain rfl : (u10_1, u10_2, u10_3) = u13 := Option.some.inj (hy10.2.symm.trans hy13.2)
          refine L_idxR (X := a0) rfl rfl rfl el70.h mm hy10 ?_
          refine L_conv (M' := treeH (u10_1, u10_2, u10_3) :: elsT (a0.els.drop (v8_2.toNat + 1)) :: _) (fun w h => els_next hy10.2 pk h) ?_
          refine xL ((u10_1, u10_2, u10_3) : T_CSnap) ?_
          refine L_loadW rfl rfl (RdC.row (X := a0) mm hy10.2) (by exact agg75.h) ?_
          refine L_buildSlice1 rfl rfl el70.h rfl (by decide) (by decide) rfl (fun bb47 => ?_)
          replace hp := ba hp; obtain ⟨y15, hy15, hp⟩ := hp
          refine jL ((u10_1, u10_2, u10_3) : T_CSnap) ?_
          refine L_app1 (X := v8_1) ((u10_1, u10_2, u10_3) : T_CSnap) rfl rfl rfl el70.h rfl rfl pk mm pk hy15 (by decide) (fun X14 hdX14 => ?_)
          subst hdX14
          refine s7 ?_
          exact ⟨(IntKind.wrap .i64 (v8_0 - 1), X14, IntKind.wrap .i64 (v8_2 + 1)), sb, ⟨_, fun w h => (els_step hy10 mm pk h), ms⟩, some_eq hp⟩
      · replace hp := cond_f hc11 hp
        refine s5 ?_
        replace hp := idx_bind hp; obtain ⟨u16, hy16, hp⟩ := hp
        obtain rfl : (u10_1, u10_2, u10_3) = u16 := Option.some.inj (hy10.2.symm.trans hy16.2)
        refine L_idxR (X := a0) rfl rfl rfl el70.h mm hy10 ?_
        refine L_conv (M' := treeH (u10_1, u10_2, u10_3) :: elsT (a0.els.drop (v8_2.toNat + 1)) :: _) (fun w h => els_next hy10.2 pk h) ?_
        refine xL ((u10_1, u10_2, u10_3) : T_CSnap) ?_
        refine L_loadW rfl rfl (RdC.row (X := a0) mm hy10.2) (by exact agg75.h) ?_
        refine L_buildSlice1 rfl rfl el70.h rfl (by decide) (by decide) rfl (fun bb47 => ?_)
        replace hp := ba hp; obtain ⟨y18, hy18, hp⟩ := hp
        refine jL ((u10_1, u10_2, u10_3) : T_CSnap) ?_
        refine L_app1 (X := v8_1) ((u10_1, u10_2, u10_3) : T_CSnap) rfl rfl rfl el70.h rfl rfl pk mm pk hy18 (by decide) (fun X17 hdX17 => ?_)
        subst hdX17
        refine s7 ?_
        exact ⟨(v8_0, X17, IntKind.wrap .i64 (v8_2 + 1)), sb, ⟨_, fun w h => (els_step hy10 mm pk h), ms⟩, some_eq hp⟩
    · replace hp := cond_f hc9 hp
      refine W_exit ?_
      replace hp := map_any hp; obtain ⟨a19, hp, hx_a19⟩ := hp
      obtain rfl := hx8 _ hx_a19
      refine s11 ?_
      obtain rfl := Option.some.inj hp
      refine s1 ?_
      refine res2 rfl (ResOK.tmp rfl) (ResOK.tmp rfl) ⟨v8_1, IntKind.wrap .i64 (((GT.dat a0).length : Int) - ((GT.dat v8_1).length : Int)), rfl, rfl, rfl⟩ ms
noncomputable def s_Dec (a0 : Int) : Option ByteArray :=
  cond (decide (a0 = 0)) (some (ByteArray.mk #[48])) (whileP (fun s2 : Int × ByteArray => cond (!decide (s2.1 = 0)) (cond (decide ((s2.1).tmod 10 < 0)) (Option.bind (u8P (IntKind.wrap .u8 (IntKind.wrap .i64 (48 + IntKind.wrap .i64 (-((s2.1).tmod 10)))))) (fun y5 => Option.bind (some ([y5] : List UInt8)) (fun y6 => Option.bind (catP (strP y6) s2.2) (fun y8 => some (.inl ((IntKind.wrap .i64 ((s2.1).tdiv 10), y8))))))) (Option.bind (u8P (IntKind.wrap .u8 (IntKind.wrap .i64 (48 + (s2.1).tmod 10)))) (fun y9 => Option.bind (some ([y9] : List UInt8)) (fun y10 => Option.bind (catP (strP y10) s2.2) (fun y12 => some (.inl ((IntKind.wrap .i64 ((s2.1).tdiv 10), y12)))))))) (Option.map .inr (cond (decide (a0 < 0)) (Option.bind (catP (ByteArray.mk #[45]) s2.2) (fun y15 => some y15)) (some s2.2)))) (a0, ByteArray.empty))
theorem s_Dec_walk (w : World) (a0 : Int)  (r : ByteArray) (hp : s_Dec a0 = some r) : Spec Tryd.prog 168 [.int .i64 a0].toArray w [] (IsV (.string r)) := by
  refine Spec.intro Tryd.func168 rfl Tryd.ntmps168 rfl ?_
  unfold s_Dec at hp
  replace hp := dd hp
  refine s10 ?_
  refine kp [0, 7] ?_
  refine W_cond rfl (fun hc1 => ?_) (fun hc1 => ?_)
  · replace hp := cond_t hc1 hp
    refine s4 ?_
    obtain rfl := Option.some.inj hp
    refine s1 ?_
    refine res1 rfl (ResOK.tmp rfl) ⟨rfl, rfl⟩ ms
  · replace hp := cond_f hc1 hp
    refine s13 ?_
    refine W_while (σ := Int × ByteArray) GT.dat (fun ((v2_0, v2_1) : Int × ByteArray) => [(0, .int .i64 v2_0), (3, .string v2_1)]) (fun ((v2_0, v2_1) : Int × ByteArray) => []) [(4, _)] [] (a0, ByteArray.empty) hp sb ms ?_
    clear hp
    rintro ⟨v2_0, v2_1⟩ x2 hp hx2
    replace hp := dd hp
    refine kq [0, 3, 4] ?_
    refine s6 ?_
    refine kp [0, 3, 4, 11] ?_
    refine W_cond rfl (fun hc3 => ?_) (fun hc3 => ?_)
    · replace hp := cond_t hc3 hp
      refine s14 ?_
      refine kp [0, 3, 4, 5, 15] ?_
      refine W_cond rfl (fun hc4 => ?_) (fun hc4 => ?_)
      · replace hp := cond_t hc4 hp
        refine s2 ?_
        refine L_negW rfl rfl ?_
        refine s6 ?_
        refine L_convInt rfl rfl und5.h (by rw [und3.h]; rfl) ?_
        replace hp := ba hp; obtain ⟨y5, hy5, hp⟩ := hp
        have ey5 := u8P_some hy5
        try simp only [ey5]
        replace hp := ba hp; obtain ⟨y6, hy6, hp⟩ := hp
        refine L_bsN ([y5] : List UInt8) (xs := [(0, .tmp 20)]) rfl rfl el59.h rfl rfl rfl rfl rfl rfl rfl hy6 (fun X7 hdX7 => ?_)
        subst hdX7
        refine L_toStr (X := X7) rfl rfl und59.h und5.h und9.h (RdT.tree mm) ?_
        refine s1 ?_
        replace hp := ba hp; obtain ⟨y8, hy8, hp⟩ := hp
        refine L_binV rfl rfl rfl (bv_saddP hy8) ?_
        refine s7 ?_
        exact ⟨(IntKind.wrap .i64 ((v2_0).tdiv 10), y8), sb, (.sub ms), some_eq hp⟩
      · replace hp := cond_f hc4 hp
        refine s5 ?_
        refine L_convInt rfl rfl und5.h (by rw [und3.h]; rfl) ?_
        replace hp := ba hp; obtain ⟨y9, hy9, hp⟩ := hp
        have ey9 := u8P_some hy9
        try simp only [ey9]
        replace hp := ba hp; obtain ⟨y10, hy10, hp⟩ := hp
        refine L_bsN ([y9] : List UInt8) (xs := [(0, .tmp 20)]) rfl rfl el59.h rfl rfl rfl rfl rfl rfl rfl hy10 (fun X11 hdX11 => ?_)
        subst hdX11
        refine L_toStr (X := X11) rfl rfl und59.h und5.h und9.h (RdT.tree mm) ?_
        refine s1 ?_
        replace hp := ba hp; obtain ⟨y12, hy12, hp⟩ := hp
        refine L_binV rfl rfl rfl (bv_saddP hy12) ?_
        refine s7 ?_
        exact ⟨(IntKind.wrap .i64 ((v2_0).tdiv 10), y12), sb, (.sub ms), some_eq hp⟩
    · replace hp := cond_f hc3 hp
      refine W_exit ?_
      replace hp := map_any hp; obtain ⟨a13, hp, hx_a13⟩ := hp
      obtain rfl := hx2 _ hx_a13
      refine s5 ?_
      refine kp [3, 27] ?_
      refine W_cond rfl (fun hc14 => ?_) (fun hc14 => ?_)
      · replace hp := cond_t hc14 hp
        refine s3 ?_
        replace hp := ba hp; obtain ⟨y15, hy15, hp⟩ := hp
        refine L_binV rfl rfl rfl (bv_saddP hy15) ?_
        refine s2 ?_
        obtain rfl := Option.some.inj hp
        refine s1 ?_
        refine res1 rfl (ResOK.tmp rfl) ⟨rfl, rfl⟩ ms
      · replace hp := cond_f hc14 hp
        refine s6 ?_
        obtain rfl := Option.some.inj hp
        refine s1 ?_
        refine res1 rfl (ResOK.tmp rfl) ⟨rfl, rfl⟩ ms
noncomputable def s_l15Read (a0 : D_CSet) : Option ByteArray :=
  whileP (fun s1 : ByteArray × Int => cond (decide (s1.2 < (a0.2.length : Int))) (jbind (cond (decide (0 < s1.2)) (Option.bind (catP s1.1 (ByteArray.mk #[32])) (fun y5 => some (.inl (y5)))) (some (.inl (s1.1)))) (fun s3 : ByteArray => Option.bind (idx a0.2 s1.2) (fun y6 => Option.bind (catP s3 y6.1) (fun y7 => Option.bind (catP y7 (ByteArray.mk #[58])) (fun y8 => Option.bind (idx a0.2 s1.2) (fun y9 => Option.bind (catP y8 y9.2.1) (fun y10 => some (.inl ((y10, IntKind.wrap .i64 (s1.2 + 1))))))))))) (Option.map .inr (some s1.1))) (ByteArray.empty, 0)
theorem s_l15Read_walk (w : World) (a0 : T_CSet) (h0 : GT.rd w [] a0) (r : ByteArray) (hp : s_l15Read (GT.dat a0) = some r) : Spec Tryd.prog 169 [.agg (GT.cells a0).toArray].toArray w [] (IsV (.string r)) := by
  obtain ⟨a0_1, a0_2⟩ := a0
  change Spec _ _ ([Value.agg #[.string a0_1, (TL.hdr a0_2)]] : List Value).toArray w [] _
  refine Spec.intro Tryd.func169 rfl Tryd.ntmps169 rfl ?_
  unfold s_l15Read at hp
  replace hp := dd hp
  refine s2 ?_
  refine bx fun bk1 => ?_
  refine s12 ?_
  refine W_while (σ := ByteArray × Int) GT.dat (fun ((v1_0, v1_1) : ByteArray × Int) => [(3, .string v1_0), (4, .int .i64 v1_1)]) (fun ((v1_0, v1_1) : ByteArray × Int) => []) [(1, _)] [blk bk1 _ _] (ByteArray.empty, 0) hp sb ms ?_
  clear hp
  rintro ⟨v1_0, v1_1⟩ x1 hp hx1
  replace hp := dd hp
  refine kq [1, 3, 4] ?_
  refine s9 ?_
  refine kp [1, 3, 4, 9] ?_
  refine W_cond rfl (fun hc2 => ?_) (fun hc2 => ?_)
  · replace hp := cond_t hc2 hp
    refine s3 ?_
    refine W_jn (σ := ByteArray) GT.dat (fun (v3_0 : ByteArray) => [(3, .string v3_0)]) (fun (v3_0 : ByteArray) => []) [(1, .pointer (some ⟨bk1, 0, none⟩)), (4, .int .i64 v1_1)] [blk bk1 [.string a0_1, (TL.hdr a0_2)] 72] hp ?_ ?_
    · clear hp
      intro x3 hp hx3
      refine s5 ?_
      refine kp [1, 3, 4, 13] ?_
      refine W_cond rfl (fun hc4 => ?_) (fun hc4 => ?_)
      · replace hp := cond_t hc4 hp
        refine s2 ?_
        replace hp := ba hp; obtain ⟨y5, hy5, hp⟩ := hp
        refine L_binV rfl rfl rfl (bv_saddP hy5) ?_
        refine s2 ?_
        exact ⟨y5, sb, (.sub ms), some_eq hp⟩
      · replace hp := cond_f hc4 hp
        refine s1 ?_
        exact ⟨v1_0, sb, (.sub ms), some_eq hp⟩
    · clear hp
      rintro v3_0 hp
      replace hp := dd hp
      refine kq [1, 3, 4] ?_
      replace hp := idx_bind hp; obtain ⟨⟨u6_1, u6_2, u6_3⟩, hy6, hp⟩ := hp
      replace hp := ba hp; obtain ⟨y7, hy7, hp⟩ := hp
      replace hp := ba hp; obtain ⟨y8, hy8, hp⟩ := hp
      replace hp := idx_bind hp; obtain ⟨u9, hy9, hp⟩ := hp
      obtain rfl : (u6_1, u6_2, u6_3) = u9 := Option.some.inj (hy6.2.symm.trans hy9.2)
      replace hp := ba hp; obtain ⟨y10, hy10, hp⟩ := hp
      refine W_D0 [3] mix (by kernel_rfl) rfl ?_
      refine s4 ?_
      refine D_idxA (X := a0_2) GC.none (OpV.t rfl) (OpV.t rfl) el70.h (RdT.old h0.2) (fun _ => hy6) ?_
      refine s1 ?_
      refine D_load GC.none (OpV.t rfl) (fun hg => RdT.at (RdT.old h0.2) (hy6).2) one9.h rfl ?_
      refine D_bin GC.none (OpV.t rfl) (OpV.t rfl) (fun hg => (bv_saddP hy7)) ?_
      refine D_bin GC.none (OpV.t rfl) OpV.c (fun hg => (bv_saddP hy8)) ?_
      refine s3 ?_
      refine D_idxA (X := a0_2) GC.none (OpV.t rfl) (OpV.t rfl) el70.h (RdT.old h0.2) (fun _ => hy6) ?_
      refine s1 ?_
      refine D_load GC.none (OpV.t rfl) (fun hg => RdT.at (RdT.old h0.2) (hy6).2) one9.h rfl ?_
      refine D_bin GC.none (OpV.t rfl) (OpV.t rfl) (fun hg => (bv_saddP hy10)) ?_
      refine s20 ?_
      refine s5 ?_
      exact ⟨(y10, IntKind.wrap .i64 (v1_1 + 1)), sb, (.sub ms), some_eq hp⟩
  · replace hp := cond_f hc2 hp
    refine W_exit ?_
    replace hp := map_any hp; obtain ⟨a11, hp, hx_a11⟩ := hp
    obtain rfl := hx1 _ hx_a11
    refine s5 ?_
    obtain rfl := Option.some.inj hp
    refine s1 ?_
    refine res1 rfl (ResOK.tmp rfl) ⟨rfl, rfl⟩ ms
noncomputable def s_l15Set (a0 : D_Catalog) (a1 : Int) (a2 : D_Cmd) : Option (D_Catalog × ByteArray) :=
  Option.bind (idx a0 a1) (fun y1 => Option.bind (s_l15Find (y1.1, y1.2) a2.2.2.2.2.1) (fun y2 => cond (decide (a2.1 = 2)) (Option.bind (some ([] : List D_CSet)) (fun y5 => Option.bind (slcP a0 (0 : Int) a1) (fun y6 => Option.bind (chkP (decide (0 ≤ ((0 : Int)).toNat))) (fun y9 => Option.bind (appP y5 y6) (fun y10 => Option.bind (slcP a0 (IntKind.wrap .i64 (a1 + 1)) (a0.length : Int)) (fun y11 => Option.bind (chkP (decide ((a1).toNat ≤ (IntKind.wrap .i64 (a1 + 1)).toNat))) (fun y14 => Option.bind (appP y10 y11) (fun y15 => some (y15, (ByteArray.mk #[111, 107])))))))))) (cond (decide (a2.1 = 3)) (cond (decide (0 ≤ y2)) (some (a0, (ByteArray.mk #[101, 120, 105, 115, 116, 115]))) (cond (decide (5 ≤ (y1.2.length : Int))) (some (a0, (ByteArray.mk #[102, 117, 108, 108]))) (Option.bind (some ([] : List D_CSnap)) (fun y20 => Option.bind (appP y20 y1.2) (fun y22 => Option.bind (some ([] : List ByteArray)) (fun y23 => Option.bind (appP ([] : List ByteArray) a2.2.2.2.2.2.2.2) (fun y25 => Option.bind (appP y22 [(a2.2.2.2.2.1, ByteArray.empty, y25)]) (fun y27 => Option.bind (idx a0 a1) (fun y29 => Option.bind (some (a0.set (a1.toNat) (y1.1, y27))) (fun y30 => some (y30, (ByteArray.mk #[111, 107])))))))))))) (cond (decide (a2.1 = 4)) (cond (decide (y2 < 0)) (some (a0, (ByteArray.mk #[110, 111, 110, 101]))) (Option.bind (idx a0 a1) (fun y34 => Option.bind (idx y34.2 y2) (fun y35 => Option.bind (some (y34.2.set (y2.toNat) (y35.1, a2.2.2.2.2.2.1, y35.2.2))) (fun y36 => Option.bind (some (a0.set (a1.toNat) (y34.1, y36))) (fun y38 => some (y38, (ByteArray.mk #[111, 107])))))))) (cond (decide (a2.1 = 5)) (Option.bind (s_l15Prune y1.2 a2.2.2.2.2.2.2.1) (fun y41 => Option.bind (idx a0 a1) (fun y42 => Option.bind (some (a0.set (a1.toNat) (y1.1, y41.1))) (fun y43 => Option.bind (s_Dec y41.2) (fun y45 => some (y43, y45)))))) (Option.bind (s_l15Read (y1.1, y1.2)) (fun y46 => some (a0, y46))))))))
theorem s_l15Set_walk (w : World) (a0 : T_Catalog) (a1 : Int) (a2 : T_Cmd) (h2 : GT.rd w (fps [treeH a0]) a2) (r : D_Catalog × ByteArray) (hp : s_l15Set (GT.dat a0) a1 (GT.dat a2) = some r) : Spec Tryd.prog 160 [.agg (GT.cells a0).toArray, .int .i64 a1, .agg (GT.cells a2).toArray].toArray w [treeH a0] (fun v M => ∃ (x0 : T_Catalog) (x1 : ByteArray), v = .tuple #[.agg (GT.cells x0).toArray, .string x1] ∧ (GT.dat x0, GT.dat x1) = r ∧ M = [treeH x0]) := by
  obtain ⟨a2_1, a2_2, a2_3, a2_4, a2_5, a2_6, a2_7, a2_8⟩ := a2
  change Spec _ _ ([Value.agg #[(TL.hdr a0)], .int .i64 a1, Value.agg #[.int .i64 a2_1, .int .i64 a2_2, .int .i64 a2_3, .string a2_4, .string a2_5, .string a2_6, .int .i64 a2_7, (TL.hdr a2_8)]] : List Value).toArray w _ _
  refine Spec.intro Tryd.func160 rfl Tryd.ntmps160 rfl ?_
  unfold s_l15Set at hp
  replace hp := dd hp
  refine s2 ?_
  refine bx fun bk3 => ?_
  refine bx fun bk5 => ?_
  refine al fun bk6 => ?_
  refine s7 ?_
  replace hp := idx_bind hp; obtain ⟨⟨u1_1, u1_2⟩, hy1, hp⟩ := hp
  refine L_idxA (X := a0) rfl rfl rfl el51.h (RdT.tree mm) hy1 ?_
  refine L_loadW rfl rfl (RdT.at (RdT.tree mm) (hy1).2) (by exact agg72.h) ?_
  refine al fun bk8 => ?_
  refine s7 ?_
  replace hp := ba hp; obtain ⟨y2, hy2, hp⟩ := hp
  refine L_callX rfl fn74.h rfl (by exact fun w hw => s_l15Find_walk w (u1_1, u1_2) a2_5 (RdT.now (RdT.pair RdT.str (RdT.snd (RdT.of (RdT.tree mm) (hy1).2))) hw) _ hy2) ?_
  refine s14 ?_
  refine kp [1, 3, 5, 6, 8, 9, 24, 25] ?_
  refine W_cond rfl (fun hc3 => ?_) (fun hc3 => ?_)
  · replace hp := cond_t hc3 hp
    refine s2 ?_
    replace hp := ba hp; obtain ⟨y5, hy5, hp⟩ := hp
    refine L_mk0 T_CSet rfl el51.h (fun X4 hdX4 => ?_)
    obtain rfl : GT.dat X4 = y5 := hdX4.trans (Option.some.inj hy5)
    clear hy5 hdX4
    refine s3 ?_
    refine L_conv (M' := rowH a0 :: elsT (a0.els.drop 0) :: _) (fun w h => els_start pk h) ?_
    replace hp := ba hp; obtain ⟨y6, hy6, hp⟩ := hp
    refine L_slM (X := a0) rfl rfl rfl rfl el51.h rfl mm hy6 (fun X7 hdX7 heX7 => ?_)
    have hsX7 := hy6
    subst hdX7
    replace hp := ba hp; obtain ⟨y9, hy9, hp⟩ := hp
    replace hp := ba hp; obtain ⟨y10, hy10, hp⟩ := hp
    refine L_appM (X := X4) (V := a0) (Y := X7) rfl rfl rfl el51.h rfl rfl pk heX7 hsX7 mm pk hy9 hy10 (by decide) (fun X8 hdX8 => ?_)
    subst hdX8
    refine s9 ?_
    replace hp := ba hp; obtain ⟨y11, hy11, hp⟩ := hp
    refine L_slM (X := a0) rfl rfl rfl rfl el51.h rfl mm hy11 (fun X12 hdX12 heX12 => ?_)
    have hsX12 := hy11
    subst hdX12
    replace hp := ba hp; obtain ⟨y14, hy14, hp⟩ := hp
    replace hp := ba hp; obtain ⟨y15, hy15, hp⟩ := hp
    refine L_appM (X := X8) (V := a0) (Y := X12) rfl rfl rfl el51.h rfl rfl pk heX12 hsX12 mm pk hy14 hy15 (by decide) (fun X13 hdX13 => ?_)
    subst hdX13
    refine s9 ?_
    obtain rfl := Option.some.inj hp
    refine s1 ?_
    refine res2 rfl (ResOK.cell rfl mm (by exact agg53.h)) (ResOK.tmp rfl) ⟨X13, (ByteArray.mk #[111, 107]), rfl, rfl, rfl⟩ ms
  · replace hp := cond_f hc3 hp
    refine s5 ?_
    refine kp [1, 3, 5, 6, 8, 9, 24, 42] ?_
    refine W_cond rfl (fun hc16 => ?_) (fun hc16 => ?_)
    · replace hp := cond_t hc16 hp
      refine s6 ?_
      refine kp [1, 3, 5, 6, 8, 45] ?_
      refine W_cond rfl (fun hc17 => ?_) (fun hc17 => ?_)
      · replace hp := cond_t hc17 hp
        refine s6 ?_
        obtain rfl := Option.some.inj hp
        refine s1 ?_
        refine res2 rfl (ResOK.cell rfl mm (by exact agg53.h)) (ResOK.tmp rfl) ⟨a0, (ByteArray.mk #[101, 120, 105, 115, 116, 115]), rfl, rfl, rfl⟩ ms
      · replace hp := cond_f hc17 hp
        refine s9 ?_
        refine kp [1, 3, 5, 6, 8, 50] ?_
        refine W_cond rfl (fun hc18 => ?_) (fun hc18 => ?_)
        · replace hp := cond_t hc18 hp
          refine s6 ?_
          obtain rfl := Option.some.inj hp
          refine s1 ?_
          refine res2 rfl (ResOK.cell rfl mm (by exact agg53.h)) (ResOK.tmp rfl) ⟨a0, (ByteArray.mk #[102, 117, 108, 108]), rfl, rfl, rfl⟩ ms
        · replace hp := cond_f hc18 hp
          refine s3 ?_
          replace hp := ba hp; obtain ⟨y20, hy20, hp⟩ := hp
          refine L_mk0 T_CSnap rfl el70.h (fun X19 hdX19 => ?_)
          obtain rfl : GT.dat X19 = y20 := hdX19.trans (Option.some.inj hy20)
          clear hy20 hdX19
          refine s2 ?_
          refine L_conv (M' := treeH (u1_1, u1_2) :: holeH a0 (a1.toNat) (GT.cells (u1_1, u1_2)) :: _) (fun w h => hole_open hy1.2 pk h) ?_
          refine xL ((u1_1, u1_2) : T_CSet) ?_
          replace hp := ba hp; obtain ⟨y22, hy22, hp⟩ := hp
          refine L_appAll (X := X19) (Y := u1_2) rfl rfl rfl el70.h rfl rfl pk pk hy22 (by decide) (fun X21 hdX21 => ?_)
          subst hdX21
          refine s3 ?_
          replace hp := ba hp; obtain ⟨y23, hy23, hp⟩ := hp
          obtain rfl := Option.some.inj hy23
          replace hp := ba hp; obtain ⟨y25, hy25, hp⟩ := hp
          replace hp := ba hp; obtain ⟨y27, hy27, hp⟩ := hp
          refine W_DS (pre := [_, _, _, _, _, _, _, _, _, _, _, _, _]) (suf := [_, _, _]) [57, 58, 68] [treeH X21] _ pc mix (by kernel_rfl) (by kernel_rfl) rfl ?_
          refine s6 ?_
          refine D_mk0 ByteArray el73.h ?_
          refine s2 ?_
          refine D_appTO (Y := a2_8) (t := 62) rfl (OpV.t rfl) el73.h rfl rfl (RdT.old h2.2.2.2.2.2.2.2) hy25 (by decide) (by kernel_rfl) ?_
          refine D_buildO (τ := ByteArray) (t := 65) (xs := [(0, .tmp 61), (2, .tmp 65)]) (ps := fun u => [(0, .string a2_5), (2, u)]) (cs := fun u => [.string a2_5, .string ByteArray.empty, u]) rfl (fun u => (OpVp.cons (OpV.t rfl) (OpVp.cons (OpV.t rfl) (OpVp.nil)))) bld75.h (fun X => rfl) (by kernel_rfl) ?_
          refine D_bs1O (t := 66) rfl el70.h rfl (by decide) (by decide) (fun X => rfl) (by kernel_rfl) ?_
          refine D_app1O (X := X21) (t := 67) (fun Y => ((a2_5, ByteArray.empty, Y) : T_CSnap)) _ (OpV.t rfl) rfl el70.h rfl rfl (fun Y => rfl) (fun Y => by first | rfl | exact List.append_nil _) (fun w Y h => by repeat (first | exact h | exact trivial | exact (flat_nil _).ow _ | constructor)) (fun Y h => by subst h; rfl) pk hy27 (by decide) (by kernel_rfl) ?_
          refine s1 ?_
          refine Give_R rfl rfl ?_
          rintro _ _ ⟨X28, rfl, rfl, rfl⟩
          simp only [List.cons_append, List.nil_append]
          refine s13 ?_
          replace hp := idx_bind hp; obtain ⟨u29, hy29, hp⟩ := hp
          obtain rfl : (u1_1, u1_2) = u29 := Option.some.inj (hy1.2.symm.trans hy29.2)
          refine L_idxH (X := a0) (cs := _) rfl rfl rfl el51.h mm hy1 ?_
          refine s1 ?_
          refine L_stH (X := a0) (i := a1.toNat) (sz := 2) (fo := 1) (n := 1) rfl rfl pk rfl (.inr ⟨one70.h, rfl⟩) rfl (allOne rfl) (Nat.le_of_ble_eq_true rfl) ?_
          refine jL ((u1_1, X28) : T_CSet) ?_
          replace hp := ba hp; obtain ⟨y30, hy30, hp⟩ := hp
          refine L_close (X := a0) ((u1_1, X28) : T_CSet) rfl pk pk hy30 (fun X31 hdX31 hhX31 => ?_)
          subst hdX31
          try rw [← hhX31]
          refine s7 ?_
          obtain rfl := Option.some.inj hp
          refine s1 ?_
          refine res2 rfl (ResOK.cell rfl mm (by exact agg53.h)) (ResOK.tmp rfl) ⟨X31, (ByteArray.mk #[111, 107]), rfl, rfl, rfl⟩ ms
    · replace hp := cond_f hc16 hp
      refine s5 ?_
      refine kp [1, 3, 5, 6, 8, 9, 24, 72] ?_
      refine W_cond rfl (fun hc32 => ?_) (fun hc32 => ?_)
      · replace hp := cond_t hc32 hp
        refine s6 ?_
        refine kp [1, 3, 5, 6, 9, 75] ?_
        refine W_cond rfl (fun hc33 => ?_) (fun hc33 => ?_)
        · replace hp := cond_t hc33 hp
          refine s6 ?_
          obtain rfl := Option.some.inj hp
          refine s1 ?_
          refine res2 rfl (ResOK.cell rfl mm (by exact agg53.h)) (ResOK.tmp rfl) ⟨a0, (ByteArray.mk #[110, 111, 110, 101]), rfl, rfl, rfl⟩ ms
        · replace hp := cond_f hc33 hp
          refine s2 ?_
          replace hp := idx_bind hp; obtain ⟨u34, hy34, hp⟩ := hp
          obtain rfl : (u1_1, u1_2) = u34 := Option.some.inj (hy1.2.symm.trans hy34.2)
          refine W_DS (pre := [_, _, _, _, _, _, _, _, _]) (suf := [_, _, _]) [82, 83, 85] [] _ pc mix (by kernel_rfl) (by kernel_rfl) rfl ?_
          refine s3 ?_
          refine D_idxA (X := a0) GC.none (OpV.t rfl) (OpV.t rfl) el51.h (RdT.tree mm) (fun _ => hy1) ?_
          refine s1 ?_
          refine D_load GC.none (OpV.t rfl) (fun hg => RdT.at (RdT.tree mm) (hy1).2) one70.h rfl ?_
          refine s14 ?_
          replace hp := idx_bind hp; obtain ⟨⟨u35_1, u35_2, u35_3⟩, hy35, hp⟩ := hp
          refine L_idxA (X := u1_2) rfl rfl rfl el70.h (RdT.snd (RdT.of (RdT.tree mm) (hy1).2)) hy35 ?_
          refine s1 ?_
          refine L_conv (M' := treeH (u1_1, u1_2) :: holeH a0 (a1.toNat) (GT.cells (u1_1, u1_2)) :: _) (fun w h => hole_open hy1.2 pk h) ?_
          refine xL ((u1_1, u1_2) : T_CSet) ?_
          refine L_conv (M' := treeH (u35_1, u35_2, u35_3) :: holeH u1_2 (y2.toNat) (GT.cells (u35_1, u35_2, u35_3)) :: _) (fun w h => hole_open hy35.2 pk h) ?_
          refine xL ((u35_1, u35_2, u35_3) : T_CSnap) ?_
          refine L_stH (X := u1_2) (i := y2.toNat) (sz := 3) (fo := 1) (n := 1) rfl rfl pk rfl (.inr ⟨one9.h, rfl⟩) rfl (allOne rfl) (Nat.le_of_ble_eq_true rfl) ?_
          refine jL ((u35_1, a2_6, u35_3) : T_CSnap) ?_
          replace hp := ba hp; obtain ⟨y36, hy36, hp⟩ := hp
          refine L_close (X := u1_2) ((u35_1, a2_6, u35_3) : T_CSnap) rfl pk pk hy36 (fun X37 hdX37 hhX37 => ?_)
          subst hdX37
          try simp only [cells_pair, cells_int, cells_bool, cells_str, cells_TL, List.cons_append, List.nil_append]
          try rw [← hhX37]
          refine jL ((u1_1, X37) : T_CSet) ?_
          replace hp := ba hp; obtain ⟨y38, hy38, hp⟩ := hp
          refine L_close (X := a0) ((u1_1, X37) : T_CSet) rfl pk pk hy38 (fun X39 hdX39 hhX39 => ?_)
          subst hdX39
          try rw [← hhX39]
          refine s7 ?_
          obtain rfl := Option.some.inj hp
          refine s1 ?_
          refine res2 rfl (ResOK.cell rfl mm (by exact agg53.h)) (ResOK.tmp rfl) ⟨X39, (ByteArray.mk #[111, 107]), rfl, rfl, rfl⟩ ms
      · replace hp := cond_f hc32 hp
        refine s5 ?_
        refine kp [1, 3, 5, 6, 8, 89] ?_
        refine W_cond rfl (fun hc40 => ?_) (fun hc40 => ?_)
        · replace hp := cond_t hc40 hp
          refine s6 ?_
          replace hp := ba hp; obtain ⟨y41, hy41, hp⟩ := hp
          refine L_conv (M' := treeH (u1_1, u1_2) :: holeH a0 (a1.toNat) (GT.cells (u1_1, u1_2)) :: _) (fun w h => hole_open hy1.2 pk h) ?_
          refine xL ((u1_1, u1_2) : T_CSet) ?_
          refine L_callM [treeH u1_2] _ rfl fn167.h rfl pc (by exact fun w hw => s_l15Prune_walk w u1_2 a2_7  _ hy41) ?_
          rintro _ _ ⟨y41x0, y41x1, rfl, rfl, rfl⟩
          refine sc ?_
          replace hp := dd hp
          refine s12 ?_
          replace hp := idx_bind hp; obtain ⟨u42, hy42, hp⟩ := hp
          obtain rfl : (u1_1, u1_2) = u42 := Option.some.inj (hy1.2.symm.trans hy42.2)
          refine L_idxH (X := a0) (cs := _) rfl rfl rfl el51.h mm hy1 ?_
          refine s1 ?_
          refine L_stH (X := a0) (i := a1.toNat) (sz := 2) (fo := 1) (n := 1) rfl rfl pk rfl (.inr ⟨one70.h, rfl⟩) rfl (allOne rfl) (Nat.le_of_ble_eq_true rfl) ?_
          refine jL ((u1_1, y41x0) : T_CSet) ?_
          replace hp := ba hp; obtain ⟨y43, hy43, hp⟩ := hp
          refine L_close (X := a0) ((u1_1, y41x0) : T_CSet) rfl pk pk hy43 (fun X44 hdX44 hhX44 => ?_)
          subst hdX44
          try rw [← hhX44]
          refine s2 ?_
          replace hp := ba hp; obtain ⟨y45, hy45, hp⟩ := hp
          refine W_DS (pre := [_, _, _]) (suf := [_, _]) [105, 107] [] _ pc mix (by kernel_rfl) (by kernel_rfl) rfl ?_
          refine s2 ?_
          refine D_callX GC.none fn168.h (OpVs.cons (OpV.t rfl) (OpVs.nil)) (by exact fun hg w F hF hM => s_Dec_walk w y41x1  _ hy45) ?_
          refine s8 ?_
          obtain rfl := Option.some.inj hp
          refine s1 ?_
          refine res2 rfl (ResOK.cell rfl mm (by exact agg53.h)) (ResOK.tmp rfl) ⟨X44, y45, rfl, rfl, rfl⟩ ms
        · replace hp := cond_f hc40 hp
          refine s2 ?_
          replace hp := ba hp; obtain ⟨y46, hy46, hp⟩ := hp
          refine W_DS (pre := [_, _, _]) (suf := [_, _]) [108, 110] [] _ pc mix (by kernel_rfl) (by kernel_rfl) rfl ?_
          refine s2 ?_
          refine D_callX GC.none fn169.h (OpVs.cons (OpV.t rfl) (OpVs.nil)) (by exact fun hg w F hF hM => s_l15Read_walk w (u1_1, u1_2) (RdT.nowS (RdT.pair RdT.str (RdT.snd (RdT.of (RdT.tree mm) (hy1).2))) hF hM) _ hy46) ?_
          refine s8 ?_
          obtain rfl := Option.some.inj hp
          refine s1 ?_
          refine res2 rfl (ResOK.cell rfl mm (by exact agg53.h)) (ResOK.tmp rfl) ⟨a0, y46, rfl, rfl, rfl⟩ ms
noncomputable def s_CatDo (a0 : D_Catalog) (a1 : D_Cmd) : Option (D_Catalog × ByteArray) :=
  Option.bind (s_CatOk a0) (fun y1 => cond (!y1) (some (([] : List D_CSet), ByteArray.empty)) (Option.bind (s_l15Copy a0) (fun y3 => Option.bind (s_CmdOk (a1.1, a1.2.1, a1.2.2.1, a1.2.2.2.1, a1.2.2.2.2.1, a1.2.2.2.2.2.1, a1.2.2.2.2.2.2.1, a1.2.2.2.2.2.2.2)) (fun y4 => cond ((!y4) || (decide (a1.1 = 0))) (some (y3, ByteArray.empty)) (cond (decide (a1.1 = 1)) (Option.bind (s_l15Create y3 a1.2.2.2.1) (fun y7 => some (y7.1, y7.2))) (cond (decide (a1.1 = 7)) (whileP (fun s9 : ByteArray × Int => cond (decide (s9.2 < (y3.length : Int))) (cond (decide (0 < s9.2)) (Option.bind (catP s9.1 (ByteArray.mk #[32])) (fun y12 => Option.bind (idx y3 s9.2) (fun y13 => Option.bind (catP y12 y13.1) (fun y14 => some (.inl ((y14, IntKind.wrap .i64 (s9.2 + 1)))))))) (Option.bind (idx y3 s9.2) (fun y15 => Option.bind (catP s9.1 y15.1) (fun y16 => some (.inl ((y16, IntKind.wrap .i64 (s9.2 + 1)))))))) (Option.map .inr (some (y3, s9.1)))) (ByteArray.empty, 0)) (Option.bind (s_l15At y3 a1.2.2.2.1) (fun y18 => cond (decide (y18 < 0)) (some (y3, (ByteArray.mk #[110, 111, 110, 101]))) (Option.bind (s_l15Set y3 y18 (a1.1, a1.2.1, a1.2.2.1, a1.2.2.2.1, a1.2.2.2.2.1, a1.2.2.2.2.2.1, a1.2.2.2.2.2.2.1, a1.2.2.2.2.2.2.2)) (fun y20 => some (y20.1, y20.2)))))))))))
theorem s_CatDo_walk (w : World) (a0 : T_Catalog) (a1 : T_Cmd) (h0 : GT.rd w [] a0) (h1 : GT.rd w [] a1) (r : D_Catalog × ByteArray) (hp : s_CatDo (GT.dat a0) (GT.dat a1) = some r) : Spec Tryd.prog 144 [.agg (GT.cells a0).toArray, .agg (GT.cells a1).toArray].toArray w [] (fun v M => ∃ (x0 : T_Catalog) (x1 : ByteArray), v = .tuple #[.agg (GT.cells x0).toArray, .string x1] ∧ (GT.dat x0, GT.dat x1) = r ∧ M = [treeH x0]) := by
  obtain ⟨a1_1, a1_2, a1_3, a1_4, a1_5, a1_6, a1_7, a1_8⟩ := a1
  change Spec _ _ ([Value.agg #[(TL.hdr a0)], Value.agg #[.int .i64 a1_1, .int .i64 a1_2, .int .i64 a1_3, .string a1_4, .string a1_5, .string a1_6, .int .i64 a1_7, (TL.hdr a1_8)]] : List Value).toArray w [] _
  refine Spec.intro Tryd.func144 rfl Tryd.ntmps144 rfl ?_
  unfold s_CatDo at hp
  replace hp := dd hp
  refine s2 ?_
  refine bx fun bk2 => ?_
  refine bx fun bk3 => ?_
  refine al fun bk4 => ?_
  refine s6 ?_
  replace hp := ba hp; obtain ⟨y1, hy1, hp⟩ := hp
  refine L_callX rfl fn73.h rfl (by exact fun w hw => s_CatOk_walk w a0 (RdT.now (RdT.old h0) hw) _ hy1) ?_
  refine s2 ?_
  refine kp [2, 3, 4, 16] ?_
  refine W_cond rfl (fun hc2 => ?_) (fun hc2 => ?_)
  · replace hp := cond_t hc2 hp
    refine s2 ?_
    refine L_build (xs := []) (cs := [(TL.hdr (TL.nil T_CSet 0))]) rfl rfl bld53.h rfl ?_
    refine s3 ?_
    obtain rfl := Option.some.inj hp
    refine W_conv (M' := treeH (TL.nil T_CSet 0) :: _) (fun w h => addNilT (τ := T_CSet) 0 h) ?_
    refine s1 ?_
    refine res2 rfl (ResOK.cell rfl mm (by exact agg53.h)) (ResOK.tmp rfl) ⟨(TL.nil T_CSet 0), ByteArray.empty, rfl, rfl, rfl⟩ ms
  · replace hp := cond_f hc2 hp
    refine s4 ?_
    replace hp := ba hp; obtain ⟨y3, hy3, hp⟩ := hp
    refine L_callR rfl fn157.h rfl (by exact fun w hw => s_l15Copy_walk w a0 (RdT.now (RdT.old h0) hw) _ hy3) ?_
    rintro _ _ ⟨y3x0, rfl, rfl, rfl⟩
    refine sc ?_
    replace hp := dd hp
    refine al fun bk6 => ?_
    refine s4 ?_
    replace hp := ba hp; obtain ⟨y4, hy4, hp⟩ := hp
    refine W_D0 [27] mix (by kernel_rfl) rfl ?_
    refine s1 ?_
    refine D_callX GC.none fn158.h (OpVs.cons (OpV.t rfl) (OpVs.nil)) (by exact fun hg w F hF hM => s_CmdOk_walk w (a1_1, a1_2, a1_3, a1_4, a1_5, a1_6, a1_7, a1_8) (RdT.nowS (RdT.pair RdT.int (RdT.pair RdT.int (RdT.pair RdT.int (RdT.pair RdT.str (RdT.pair RdT.str (RdT.pair RdT.str (RdT.pair RdT.int (RdT.old h1.2.2.2.2.2.2.2)))))))) hF hM) _ hy4) ?_
    refine s16 ?_
    refine kp [3, 4, 6, 27] ?_
    refine W_cond rfl (fun hc5 => ?_) (fun hc5 => ?_)
    · replace hp := cond_t hc5 hp
      refine s6 ?_
      obtain rfl := Option.some.inj hp
      refine s1 ?_
      refine res2 rfl (ResOK.cell rfl mm (by exact agg53.h)) (ResOK.tmp rfl) ⟨y3x0, ByteArray.empty, rfl, rfl, rfl⟩ ms
    · replace hp := cond_f hc5 hp
      refine s8 ?_
      refine kp [3, 4, 6, 31] ?_
      refine W_cond rfl (fun hc6 => ?_) (fun hc6 => ?_)
      · replace hp := cond_t hc6 hp
        refine s5 ?_
        replace hp := ba hp; obtain ⟨y7, hy7, hp⟩ := hp
        refine L_callM [treeH y3x0] _ rfl fn159.h rfl pc (by exact fun w hw => s_l15Create_walk w y3x0 a1_4  _ hy7) ?_
        rintro _ _ ⟨y7x0, y7x1, rfl, rfl, rfl⟩
        refine sc ?_
        replace hp := dd hp
        refine s3 ?_
        refine al fun bk7 => ?_
        refine s10 ?_
        obtain rfl := Option.some.inj hp
        refine s1 ?_
        refine res2 rfl (ResOK.cell rfl mm (by exact agg53.h)) (ResOK.tmp rfl) ⟨y7x0, y7x1, rfl, rfl, rfl⟩ ms
      · replace hp := cond_f hc6 hp
        refine s8 ?_
        refine kp [3, 4, 6, 43] ?_
        refine W_cond rfl (fun hc8 => ?_) (fun hc8 => ?_)
        · replace hp := cond_t hc8 hp
          refine s10 ?_
          refine W_while (σ := ByteArray × Int) GT.dat (fun ((v9_0, v9_1) : ByteArray × Int) => [(9, .string v9_0), (10, .int .i64 v9_1)]) (fun ((v9_0, v9_1) : ByteArray × Int) => []) [(4, _), (6, _)] [blk bk4 _ _, blk bk6 _ _, treeH y3x0] (ByteArray.empty, 0) hp sb ms ?_
          clear hp
          rintro ⟨v9_0, v9_1⟩ x9 hp hx9
          replace hp := dd hp
          refine kq [4, 6, 9, 10] ?_
          refine s9 ?_
          refine kp [4, 6, 9, 10, 48] ?_
          refine W_cond rfl (fun hc10 => ?_) (fun hc10 => ?_)
          · replace hp := cond_t hc10 hp
            refine s9 ?_
            refine kp [4, 6, 9, 10, 52] ?_
            refine W_cond rfl (fun hc11 => ?_) (fun hc11 => ?_)
            · replace hp := cond_t hc11 hp
              refine s2 ?_
              replace hp := ba hp; obtain ⟨y12, hy12, hp⟩ := hp
              refine L_binV rfl rfl rfl (bv_saddP hy12) ?_
              refine s7 ?_
              replace hp := idx_bind hp; obtain ⟨⟨u13_1, u13_2⟩, hy13, hp⟩ := hp
              refine L_idxA (X := y3x0) rfl rfl rfl el51.h (RdT.tree mm) hy13 ?_
              refine s1 ?_
              refine L_load rfl rfl (RdT.at (RdT.tree mm) (hy13).2) one9.h rfl ?_
              replace hp := ba hp; obtain ⟨y14, hy14, hp⟩ := hp
              refine L_binV rfl rfl rfl (bv_saddP hy14) ?_
              refine s7 ?_
              exact ⟨(y14, IntKind.wrap .i64 (v9_1 + 1)), sb, (.sub ms), some_eq hp⟩
            · replace hp := cond_f hc11 hp
              refine s6 ?_
              replace hp := idx_bind hp; obtain ⟨⟨u15_1, u15_2⟩, hy15, hp⟩ := hp
              refine L_idxA (X := y3x0) rfl rfl rfl el51.h (RdT.tree mm) hy15 ?_
              refine s1 ?_
              refine L_load rfl rfl (RdT.at (RdT.tree mm) (hy15).2) one9.h rfl ?_
              replace hp := ba hp; obtain ⟨y16, hy16, hp⟩ := hp
              refine L_binV rfl rfl rfl (bv_saddP hy16) ?_
              refine s7 ?_
              exact ⟨(y16, IntKind.wrap .i64 (v9_1 + 1)), sb, (.sub ms), some_eq hp⟩
          · replace hp := cond_f hc10 hp
            refine W_exit ?_
            replace hp := map_any hp; obtain ⟨a17, hp, hx_a17⟩ := hp
            obtain rfl := hx9 _ hx_a17
            refine s7 ?_
            obtain rfl := Option.some.inj hp
            refine s1 ?_
            refine res2 rfl (ResOK.cell rfl mm (by exact agg53.h)) (ResOK.tmp rfl) ⟨y3x0, v9_0, rfl, rfl, rfl⟩ ms
        · replace hp := cond_f hc8 hp
          refine s6 ?_
          replace hp := ba hp; obtain ⟨y18, hy18, hp⟩ := hp
          refine L_callX rfl fn72.h rfl (by exact fun w hw => s_l15At_walk w y3x0 a1_4 (RdT.now (RdT.tree mm) hw) _ hy18) ?_
          refine s8 ?_
          refine kp [3, 4, 6, 11, 70] ?_
          refine W_cond rfl (fun hc19 => ?_) (fun hc19 => ?_)
          · replace hp := cond_t hc19 hp
            refine s6 ?_
            obtain rfl := Option.some.inj hp
            refine s1 ?_
            refine res2 rfl (ResOK.cell rfl mm (by exact agg53.h)) (ResOK.tmp rfl) ⟨y3x0, (ByteArray.mk #[110, 111, 110, 101]), rfl, rfl, rfl⟩ ms
          · replace hp := cond_f hc19 hp
            refine s6 ?_
            replace hp := ba hp; obtain ⟨y20, hy20, hp⟩ := hp
            refine L_callM [treeH y3x0] _ rfl fn160.h rfl pc (by exact fun w hw => s_l15Set_walk w y3x0 y18 (a1_1, a1_2, a1_3, a1_4, a1_5, a1_6, a1_7, a1_8) ((RdX.pair RdX.int (RdX.pair RdX.int (RdX.pair RdX.int (RdX.pair RdX.str (RdX.pair RdX.str (RdX.pair RdX.str (RdX.pair RdX.int (RdX.old h1.2.2.2.2.2.2.2)))))))) w hw) _ hy20) ?_
            rintro _ _ ⟨y20x0, y20x1, rfl, rfl, rfl⟩
            refine sc ?_
            replace hp := dd hp
            refine s3 ?_
            refine al fun bk12 => ?_
            refine s10 ?_
            obtain rfl := Option.some.inj hp
            refine s1 ?_
            refine res2 rfl (ResOK.cell rfl mm (by exact agg53.h)) (ResOK.tmp rfl) ⟨y20x0, y20x1, rfl, rfl, rfl⟩ ms
noncomputable def s_CatPlay (a0 : List D_Cmd) : Option (D_Catalog × (List ByteArray)) :=
  Option.bind (some ([] : List ByteArray)) (fun y2 => whileP (fun s3 : (List ByteArray) × Int × (List D_CSet) => cond (decide (s3.2.1 < (a0.length : Int))) (Option.bind (idx a0 s3.2.1) (fun y5 => Option.bind (s_CatDo s3.2.2 (y5.1, y5.2.1, y5.2.2.1, y5.2.2.2.1, y5.2.2.2.2.1, y5.2.2.2.2.2.1, y5.2.2.2.2.2.2.1, y5.2.2.2.2.2.2.2)) (fun y6 => Option.bind (appP s3.1 [y6.2]) (fun y9 => some (.inl ((y9, IntKind.wrap .i64 (s3.2.1 + 1), y6.1))))))) (Option.map .inr (some (s3.2.2, s3.1)))) (y2, 0, ([] : List D_CSet)))
theorem s_CatPlay_walk (w : World) (a0 : TL T_Cmd) (h0 : GT.rd w [] a0) (r : D_Catalog × (List ByteArray)) (hp : s_CatPlay (GT.dat a0) = some r) : Spec Tryd.prog 122 [(TL.hdr a0)].toArray w [] (fun v M => ∃ (x0 : T_Catalog) (x1 : TL ByteArray), v = .tuple #[.agg (GT.cells x0).toArray, (TL.hdr x1)] ∧ (GT.dat x0, GT.dat x1) = r ∧ M = [treeH x0, treeH x1]) := by
  refine Spec.intro Tryd.func122 rfl Tryd.ntmps122 rfl ?_
  unfold s_CatPlay at hp
  replace hp := dd hp
  refine s2 ?_
  refine al fun bk2 => ?_
  refine L_assign (v := (TL.hdr (TL.nil ByteArray 0))) rfl rfl ?_
  refine s3 ?_
  refine L_build (xs := []) (cs := [(TL.hdr (TL.nil T_CSet 0))]) rfl rfl bld53.h rfl ?_
  refine al fun bk4 => ?_
  refine s4 ?_
  replace hp := ba hp; obtain ⟨y2, hy2, hp⟩ := hp
  refine L_mk0 ByteArray rfl el73.h (fun X1 hdX1 => ?_)
  obtain rfl : GT.dat X1 = y2 := hdX1.trans (Option.some.inj hy2)
  clear hy2 hdX1
  refine s8 ?_
  refine W_conv (M' := treeH (TL.nil T_CSet 0) :: _) (fun w h => addNilT (τ := T_CSet) 0 h) ?_
  refine W_while (σ := (TL ByteArray) × Int × (TL T_CSet)) GT.dat (fun ((v3_0, v3_1, v3_2) : (TL ByteArray) × Int × (TL T_CSet)) => [(5, (TL.hdr v3_0)), (6, .int .i64 v3_1)]) (fun ((v3_0, v3_1, v3_2) : (TL ByteArray) × Int × (TL T_CSet)) => [blk bk4 [(TL.hdr v3_2)] 53, treeH v3_0, treeH v3_2]) [(0, _), (2, _), (4, _)] [blk bk2 _ _] (X1, 0, (TL.nil T_CSet 0)) hp sb ms ?_
  clear hp
  rintro ⟨v3_0, v3_1, v3_2⟩ x3 hp hx3
  replace hp := dd hp
  refine kq [0, 2, 4, 5, 6] ?_
  refine s8 ?_
  refine kp [0, 2, 4, 5, 6, 14] ?_
  refine W_cond rfl (fun hc4 => ?_) (fun hc4 => ?_)
  · replace hp := cond_t hc4 hp
    refine s4 ?_
    replace hp := idx_bind hp; obtain ⟨⟨u5_1, u5_2, u5_3, u5_4, u5_5, u5_6, u5_7, u5_8⟩, hy5, hp⟩ := hp
    replace hp := ba hp; obtain ⟨y6, hy6, hp⟩ := hp
    refine W_D0 [7, 8] mix (by kernel_rfl) rfl ?_
    refine s3 ?_
    refine D_idxA (X := a0) GC.none (OpV.t rfl) (OpV.t rfl) el149.h (RdT.old h0) (fun _ => hy5) ?_
    refine D_loadW GC.none (OpV.t rfl) (fun hg => RdT.at (RdT.old h0) (hy5).2) (by exact agg176.h) ?_
    refine D_call1R (fun v M => ∃ (x0 : T_Catalog) (x1 : ByteArray), v = .tuple #[.agg (GT.cells x0).toArray, .string x1] ∧ (GT.dat x0, GT.dat x1) = y6 ∧ M = [treeH x0]) fn144.h (OpVs.cons (OpV.t rfl) (OpVs.cons (OpV.t rfl) (OpVs.nil))) (by exact fun w F hF hM => s_CatDo_walk w v3_2 (u5_1, u5_2, u5_3, u5_4, u5_5, u5_6, u5_7, u5_8) (RdT.nowS (RdT.tree mm) hF hM) (RdT.nowS (RdT.pair RdT.int (RdT.pair RdT.int (RdT.pair RdT.int (RdT.pair RdT.str (RdT.pair RdT.str (RdT.pair RdT.str (RdT.pair RdT.int (RdT.snd (RdT.snd (RdT.snd (RdT.snd (RdT.snd (RdT.snd (RdT.snd (RdT.of (RdT.old h0) (hy5).2))))))))))))))) hF hM) _ hy6) ?_
    refine D_moveC (t := 23) rfl (by kernel_rfl) ?_
    refine D_extractC (t := 17) (AggV (τ := T_Catalog) y6.1) rfl (by rintro v M ⟨x0, x1, rfl, hd, rfl⟩; subst hd; exact ⟨_, _, rfl, rfl, x0, rfl, rfl, rfl⟩) (by kernel_rfl) ?_
    refine D_extractW (t := 17) (.string y6.2) rfl (by rintro v M ⟨-, M', x0, x1, rfl, hd, -⟩; subst hd; exact ⟨_, rfl, rfl⟩) ?_
    refine D_alloc zero53.h ?_
    refine D_storeK (p := 7) (x := 24) rfl rfl (by exact agg53.h) rfl (by kernel_rfl) ?_
    refine s3 ?_
    refine Give_R rfl rfl ?_
    rintro _ _ ⟨bk7, X7, rfl, hdX7, rfl⟩
    try rw [← hdX7] at hp
    refine s11 ?_
    refine sc ?_
    replace hp := dd hp
    refine s8 ?_
    refine L_buildSlice1 rfl rfl el73.h rfl (by decide) (by decide) rfl (fun bb29 => ?_)
    replace hp := ba hp; obtain ⟨y9, hy9, hp⟩ := hp
    refine L_app1F (X := v3_0) (y6.2 : ByteArray) rfl rfl rfl el73.h rfl rfl pk mm  hy9 (by decide) (fun X8 hdX8 => ?_)
    subst hdX8
    refine s7 ?_
    exact ⟨(X8, IntKind.wrap .i64 (v3_1 + 1), X7), sb, (.sub ms), some_eq hp⟩
  · replace hp := cond_f hc4 hp
    refine W_exit ?_
    replace hp := map_any hp; obtain ⟨a10, hp, hx_a10⟩ := hp
    obtain rfl := hx3 _ hx_a10
    refine s7 ?_
    obtain rfl := Option.some.inj hp
    refine s1 ?_
    refine res2 rfl (ResOK.cell rfl mm (by exact agg53.h)) (ResOK.tmp rfl) ⟨v3_2, v3_0, rfl, rfl, rfl⟩ ms
noncomputable def s_l15Some (a0 : D_l1Cur) : Option (D_Catalog × D_l1Cur) :=
  Option.bind (s_l15Cmds (a0.1, a0.2.1, a0.2.2) 24) (fun y1 => Option.bind (s_CatPlay y1.1) (fun y2 => Option.bind (gm (decide (0 < (y2.1.length : Int))) (false, (y1.2.1, y1.2.2.1, y1.2.2.2)) (s_l1Once (y1.2.1, y1.2.2.1, y1.2.2.2) 10)) (fun y3 => cond ((decide (0 < (y2.1.length : Int))) && y3.1) (Option.bind (s_l1Below (y3.2.1, y3.2.2.1, y3.2.2.2) 3) (fun y5 => cond (decide (y5.1 = 0)) (Option.bind (some ([(ByteArray.mk #[97]), (ByteArray.mk #[122, 122]), (ByteArray.mk #[90])] : List ByteArray)) (fun y7 => Option.bind (s_l1Pick (y5.2.1, y5.2.2.1, y5.2.2.2) y7) (fun y9 => Option.bind (appP y2.1 [(y9.1, ([] : List D_CSnap))]) (fun y11 => some (y11, (y9.2.1, y9.2.2.1, y9.2.2.2)))))) (cond (decide (y5.1 = 1)) (Option.bind (idx y2.1 0) (fun y13 => Option.bind (appP y13.2 [((ByteArray.mk #[120]), ByteArray.empty, ([] : List ByteArray))]) (fun y14 => Option.bind (idx y2.1 0) (fun y16 => Option.bind (some (y2.1.set ((0 : Int).toNat) (y13.1, y14))) (fun y17 => some (y17, (y5.2.1, y5.2.2.1, y5.2.2.2))))))) (Option.bind (idx y2.1 0) (fun y19 => Option.bind (some (y2.1.set ((0 : Int).toNat) (ByteArray.empty, y19.2))) (fun y20 => some (y20, (y5.2.1, y5.2.2.1, y5.2.2.2)))))))) (some (y2.1, (y3.2.1, y3.2.2.1, y3.2.2.2))))))
theorem s_l15Some_walk (w : World) (b0_ : Nat) (a0 : T_l1Cur) (h0_0 : GT.rd w (fps [blk b0_ (GT.cells a0) 141]) a0.1) (r : D_Catalog × D_l1Cur) (hp : s_l15Some (GT.dat a0) = some r) : Spec Tryd.prog 90 [Value.pointer (some ⟨b0_, 0, none⟩)].toArray w [blk b0_ (GT.cells a0) 141] (fun v M => ∃ (x0 : T_Catalog) (y0 : T_l1Cur), v = .agg (GT.cells x0).toArray ∧ (GT.dat x0, GT.dat y0) = r ∧ M = [treeH x0, blk b0_ (GT.cells y0) 141] ∧ y0.1 = a0.1) := by
  obtain ⟨a0_1, a0_2, a0_3⟩ := a0
  change Spec _ _ ([Value.pointer (some ⟨b0_, 0, none⟩)] : List Value).toArray w _ _
  refine Spec.intro Tryd.func90 rfl Tryd.ntmps90 rfl ?_
  unfold s_l15Some at hp
  replace hp := dd hp
  refine s2 ?_
  refine al fun bk2 => ?_
  refine s4 ?_
  replace hp := ba hp; obtain ⟨y1, hy1, hp⟩ := hp
  refine L_callM [blk b0_ _ _] _ rfl fn123.h rfl pc (by exact fun w hw => s_l15Cmds_walk w b0_ (a0_1, a0_2, a0_3) 24 ((RdX.old h0_0) w hw) _ hy1) ?_
  rintro _ _ ⟨y1x0, ⟨y1y0_1, y1y0_2, y1y0_3⟩, rfl, rfl, rfl, hey1_0⟩
  obtain rfl : a0_1 = y1y0_1 := hey1_0.symm
  refine sc ?_
  replace hp := dd hp
  replace hp := ba hp; obtain ⟨y2, hy2, hp⟩ := hp
  refine L_callR rfl fn122.h rfl (by exact fun w hw => s_CatPlay_walk w y1x0 (RdT.now (RdT.tree mm) hw) _ hy2) ?_
  rintro _ _ ⟨y2x0, y2x1, rfl, rfl, rfl⟩
  refine sc ?_
  replace hp := dd hp
  refine s3 ?_
  refine al fun bk3 => ?_
  refine s5 ?_
  replace hp := ba hp; obtain ⟨⟨y3a, y3b⟩, hy3, hp⟩ := hp; try dsimp only at hp
  refine W_DS (pre := [_, _, _, _, _, _, _, _]) (suf := []) [17, 18] [blk b0_ [(TL.hdr a0_1), .int .i64 y1y0_2, .int .i64 y1y0_3] 141] _ pc mix (by kernel_rfl) (by kernel_rfl) rfl ?_
  refine s2 ?_
  refine D_lenP (X := y2x0) GC.none (OpV.t rfl) el51.h ?_
  refine s3 ?_
  refine D_callMg (fun v M => ∃ (x0 : Bool) (y0 : T_l1Cur), v = .bool x0 ∧ (GT.dat x0, GT.dat y0) = (y3a, y3b) ∧ M = [blk b0_ (GT.cells y0) 141] ∧ y0.1 = a0_1) (fun v M => ∃ (y0 : T_l1Cur), M = [blk b0_ (GT.cells y0) 141] ∧ GT.dat y0 = y3b ∧ y0.1 = a0_1 ∧ ((True ∧ (decide (0 < ((GT.dat y2x0).length : Int))) = true) → v = .bool y3a)) [blk b0_ [(TL.hdr a0_1), .int .i64 y1y0_2, .int .i64 y1y0_3] 141] pc (GC.some rfl rfl) fn83.h (OpVs.cons (OpV.s rfl) (OpVs.cons OpV.c (OpVs.nil))) (by exact fun hg w F hw hM => s_l1Once_walk w b0_ (a0_1, y1y0_2, y1y0_3) 10 ((RdX.old h0_0) w hw) _ (gm_t hy3 hg.2)) (by rintro hg v M ⟨x0, z0, hv, hd, hm, he0⟩; obtain ⟨rfl, rfl⟩ := Prod.mk.inj hd; exact ⟨z0, hm, rfl, he0, fun _ => hv⟩) (fun hn => ⟨(a0_1, y1y0_2, y1y0_3), rfl, (by have e := gm_f hy3 (fun hg => hn ⟨trivial, hg⟩); exact (Prod.mk.inj e).2.symm), rfl, fun hc => (hn hc).elim⟩) ?_
  refine D_and (cy := (True ∧ (decide (0 < ((GT.dat y2x0).length : Int))) = true)) GC.none (OpV.t rfl) (show OpV _ _ (True ∧ (decide (0 < ((GT.dat y2x0).length : Int))) = true) (.bool y3a) from ⟨_, rfl, fun u M h hc => by obtain ⟨z0, hm, hd, -, hv⟩ := h; exact hv hc⟩) (fun h hb => ⟨h, hb⟩) ?_
  refine s2 ?_
  refine Give_R rfl rfl ?_
  rintro _ _ ⟨⟨y3y_1, y3y_2, y3y_3⟩, rfl, rfl, hey3_0, -⟩
  obtain rfl : a0_1 = y3y_1 := hey3_0.symm
  refine s7 ?_
  refine sc ?_
  replace hp := dd hp
  refine s1 ?_
  refine kp [0, 2, 3, 18] ?_
  refine W_cond rfl (fun hc4 => ?_) (fun hc4 => ?_)
  · replace hp := cond_t hc4 hp
    refine s3 ?_
    replace hp := ba hp; obtain ⟨y5, hy5, hp⟩ := hp
    refine L_callM [blk b0_ _ _] _ rfl fn84.h rfl pc (by exact fun w hw => s_l1Below_walk w b0_ (a0_1, y3y_2, y3y_3) 3 ((RdX.old h0_0) w hw) _ hy5) ?_
    rintro _ _ ⟨y5x0, ⟨y5y0_1, y5y0_2, y5y0_3⟩, rfl, rfl, rfl, hey5_0⟩
    obtain rfl : a0_1 = y5y0_1 := hey5_0.symm
    refine sc ?_
    replace hp := dd hp
    refine s7 ?_
    refine kp [0, 2, 3, 20, 25] ?_
    refine W_cond rfl (fun hc6 => ?_) (fun hc6 => ?_)
    · replace hp := cond_t hc6 hp
      replace hp := ba hp; obtain ⟨y7, hy7, hp⟩ := hp
      replace hp := ba hp; obtain ⟨y9, hy9, hp⟩ := hp
      refine W_DS (pre := [_, _, _, _, _, _, _]) (suf := [_, _, _]) [28, 31, 33] [blk b0_ _ 141] _ pc mix (by kernel_rfl) (by kernel_rfl) rfl ?_
      refine s3 ?_
      refine D_bsN ([(ByteArray.mk #[97]), (ByteArray.mk #[122, 122]), (ByteArray.mk #[90])] : List ByteArray) (xs := [(0, .const (.string (ByteArray.mk #[97]))), (1, .const (.string (ByteArray.mk #[122, 122]))), (2, .const (.string (ByteArray.mk #[90])))]) (ps := [(0, .string (ByteArray.mk #[97])), (1, .string (ByteArray.mk #[122, 122])), (2, .string (ByteArray.mk #[90]))]) (OpVp.cons OpV.c (OpVp.cons OpV.c (OpVp.cons OpV.c (OpVp.nil)))) el73.h rfl rfl rfl rfl rfl rfl rfl hy7 ?_
      refine D_callMR [_, _] (fun v M => ∃ (x0 : ByteArray) (y0 : T_l1Cur), v = .string x0 ∧ (GT.dat x0, GT.dat y0) = y9 ∧ M = [blk b0_ (GT.cells y0) 141] ∧ y0.1 = a0_1) [blk b0_ _ 141] pc fn92.h ⟨⟨_, rfl, fun _ _ h => h⟩, ⟨⟨_, rfl, fun _ _ h => h⟩, trivial⟩⟩ (by rintro w F vs hw hM ⟨v0, u0, M0, rfl, g0, hin0, ⟨v1, u1, M1, rfl, g1, hin1, rfl⟩⟩; obtain rfl := g0.2.1 trivial; obtain ⟨m1, rfl, hd1, rfl⟩ := g1; subst hd1; exact s_l1Pick_walk w b0_ (a0_1, y5y0_2, y5y0_3) m1 ((RdX.tree (hin1 _ (List.mem_singleton.2 rfl))) w hw) ((RdX.old h0_0) w hw) _ hy9) ?_
      refine D_build (xs := [(0, .tmp 31)]) (ps := [(0, .string y9.1)]) (cs := [.string y9.1, (TL.hdr (TL.nil T_CSnap 0))]) (OpVp.cons (show OpV _ _ _ (.string y9.1) from ⟨_, rfl, fun u M h hc => by obtain ⟨x0, z0, hv, hd, _⟩ := h; subst hd; exact hv⟩) (OpVp.nil)) bld72.h rfl ?_
      refine D_bs1 (OpV.t rfl) el51.h rfl (by decide) (by decide) rfl ?_
      refine s1 ?_
      refine Give_R rfl rfl ?_
      rintro _ _ ⟨bb33, rfl, rfl⟩
      simp only [List.cons_append, List.nil_append]
      refine s1 ?_
      refine Give_R rfl rfl ?_
      rintro _ _ ⟨y9x0, ⟨y9y0_1, y9y0_2, y9y0_3⟩, rfl, rfl, rfl, hey9_0⟩
      obtain rfl : a0_1 = y9y0_1 := hey9_0.symm
      refine s5 ?_
      refine sc ?_
      replace hp := dd hp
      replace hp := ba hp; obtain ⟨y11, hy11, hp⟩ := hp
      refine L_conv (M' := treeH (TL.nil T_CSnap 0) :: _) (fun w h => addNilT (τ := T_CSnap) 0 h) ?_
      refine jL ((y9x0, (TL.nil T_CSnap 0)) : T_CSet) ?_
      refine L_app1 (X := y2x0) ((y9x0, (TL.nil T_CSnap 0)) : T_CSet) rfl rfl rfl el51.h rfl rfl pk mm pk hy11 (by decide) (fun X10 hdX10 => ?_)
      subst hdX10
      refine s8 ?_
      obtain rfl := Option.some.inj hp
      refine s1 ?_
      refine res1 rfl (ResOK.cell rfl mm (by exact agg53.h)) ⟨X10, (a0_1, y9y0_2, y9y0_3), rfl, rfl, rfl, rfl⟩ ms
    · replace hp := cond_f hc6 hp
      refine s5 ?_
      refine kp [2, 3, 36] ?_
      refine W_cond rfl (fun hc12 => ?_) (fun hc12 => ?_)
      · replace hp := cond_t hc12 hp
        replace hp := idx_bind hp; obtain ⟨⟨u13_1, u13_2⟩, hy13, hp⟩ := hp
        refine W_conv (M' := treeH (u13_1, u13_2) :: holeH y2x0 ((0 : Int).toNat) (GT.cells (u13_1, u13_2)) :: _) (fun w h => hole_open hy13.2 pk h) ?_
        refine xW ((u13_1, u13_2) : T_CSet) ?_
        replace hp := ba hp; obtain ⟨y14, hy14, hp⟩ := hp
        refine W_DS (pre := [_, _, _, _, _, _, _, _, _, _]) (suf := [_, _, _]) [39, 47] [treeH u13_2] _ pc mix (by kernel_rfl) (by kernel_rfl) rfl ?_
        refine s4 ?_
        refine D_idxH (X := y2x0) GC.none (OpV.t rfl) OpV.c el51.h mm (fun hg => hy13) ?_
        refine s1 ?_
        refine D_load GC.none (OpV.t rfl) (fun hg => RdC.hole (X := y2x0) mm) one70.h rfl ?_
        refine D_build (xs := [(0, .const (.string (ByteArray.mk #[120])))]) (ps := [(0, .string (ByteArray.mk #[120]))]) (cs := [.string (ByteArray.mk #[120]), .string ByteArray.empty, (TL.hdr (TL.nil ByteArray 0))]) (OpVp.cons OpV.c (OpVp.nil)) bld75.h rfl ?_
        refine D_bs1 (OpV.t rfl) el70.h rfl (by decide) (by decide) rfl ?_
        refine D_app1Y (X := u13_2) (t := 46) (((ByteArray.mk #[120]), ByteArray.empty, (TL.nil ByteArray 0)) : T_CSnap) (flat_pair (flat_str trivial) (flat_pair (flat_str trivial) (flat_nil _))) (OpV.t rfl) rfl el70.h rfl rfl pk hy14 (by decide) (by kernel_rfl) ?_
        refine s1 ?_
        refine Give_R rfl rfl ?_
        rintro _ _ ⟨X15, rfl, rfl, rfl⟩
        simp only [List.cons_append, List.nil_append]
        refine s10 ?_
        replace hp := idx_bind hp; obtain ⟨u16, hy16, hp⟩ := hp
        obtain rfl : (u13_1, u13_2) = u16 := Option.some.inj (hy13.2.symm.trans hy16.2)
        refine L_idxH (X := y2x0) (cs := _) rfl rfl rfl el51.h mm hy13 ?_
        refine s1 ?_
        refine L_stH (X := y2x0) (i := (0 : Int).toNat) (sz := 2) (fo := 1) (n := 1) rfl rfl pk rfl (.inr ⟨one70.h, rfl⟩) rfl (allOne rfl) (Nat.le_of_ble_eq_true rfl) ?_
        refine jL ((u13_1, X15) : T_CSet) ?_
        replace hp := ba hp; obtain ⟨y17, hy17, hp⟩ := hp
        refine L_close (X := y2x0) ((u13_1, X15) : T_CSet) rfl pk pk hy17 (fun X18 hdX18 hhX18 => ?_)
        subst hdX18
        try rw [← hhX18]
        refine s6 ?_
        obtain rfl := Option.some.inj hp
        refine s1 ?_
        refine res1 rfl (ResOK.cell rfl mm (by exact agg53.h)) ⟨X18, (a0_1, y5y0_2, y5y0_3), rfl, rfl, rfl, rfl⟩ ms
      · replace hp := cond_f hc12 hp
        refine s3 ?_
        replace hp := idx_bind hp; obtain ⟨⟨u19_1, u19_2⟩, hy19, hp⟩ := hp
        refine L_idxA (X := y2x0) rfl rfl rfl el51.h (RdT.tree mm) hy19 ?_
        refine s1 ?_
        refine L_conv (M' := treeH (u19_1, u19_2) :: holeH y2x0 ((0 : Int).toNat) (GT.cells (u19_1, u19_2)) :: _) (fun w h => hole_open hy19.2 pk h) ?_
        refine xL ((u19_1, u19_2) : T_CSet) ?_
        refine L_stH (X := y2x0) (i := (0 : Int).toNat) (sz := 2) (fo := 0) (n := 1) rfl rfl pk rfl (.inr ⟨one9.h, rfl⟩) rfl (allOne rfl) (Nat.le_of_ble_eq_true rfl) ?_
        refine jL ((ByteArray.empty, u19_2) : T_CSet) ?_
        replace hp := ba hp; obtain ⟨y20, hy20, hp⟩ := hp
        refine L_close (X := y2x0) ((ByteArray.empty, u19_2) : T_CSet) rfl pk pk hy20 (fun X21 hdX21 hhX21 => ?_)
        subst hdX21
        try rw [← hhX21]
        refine s6 ?_
        obtain rfl := Option.some.inj hp
        refine s1 ?_
        refine res1 rfl (ResOK.cell rfl mm (by exact agg53.h)) ⟨X21, (a0_1, y5y0_2, y5y0_3), rfl, rfl, rfl, rfl⟩ ms
  · replace hp := cond_f hc4 hp
    refine s6 ?_
    obtain rfl := Option.some.inj hp
    refine s1 ?_
    refine res1 rfl (ResOK.cell rfl mm (by exact agg53.h)) ⟨y2x0, (a0_1, y3y_2, y3y_3), rfl, rfl, rfl, rfl⟩ ms
noncomputable def s_l21Stores (a0 : D_l1Cur) : Option ((List D_Blobs) × D_l1Cur) :=
  Option.bind (some ([] : List D_Blobs)) (fun y2 => whileP (fun s3 : (List D_Blobs) × Int × Int × Int => cond (decide (s3.2.1 < 3)) (whileP (fun s5 : Int × Int × Int × Int × (List D_Blob) => cond (decide (s5.1 < 4)) (jbind (Option.bind (s_l1Once (a0.1, s5.2.1, s5.2.2.1) 3) (fun y8 => cond (!y8.1) (Option.bind (u8P (IntKind.wrap .u8 s5.1)) (fun y10 => Option.bind (some ([y10] : List UInt8)) (fun y11 => Option.bind (s_BlobPut (s5.2.2.2.1, s5.2.2.2.2) (strP y11)) (fun y13 => some (.inl ((y8.2.2.1, y8.2.2.2, y13.1.1, y13.1.2))))))) (some (.inl ((y8.2.2.1, y8.2.2.2, s5.2.2.2.1, s5.2.2.2.2)))))) (fun s7 : Int × Int × Int × (List D_Blob) => Option.bind (s_l1Once (a0.1, s7.1, s7.2.1) 6) (fun y14 => cond y14.1 (Option.bind (u8P (IntKind.wrap .u8 s5.1)) (fun y16 => Option.bind (some ([y16] : List UInt8)) (fun y17 => Option.bind (s_Short (strP y17)) (fun y19 => Option.bind (s_BlobBend (s7.2.2.1, s7.2.2.2) y19) (fun y20 => some (.inl ((IntKind.wrap .i64 (s5.1 + 1), y14.2.2.1, y14.2.2.2, y20.1.1, y20.1.2)))))))) (some (.inl ((IntKind.wrap .i64 (s5.1 + 1), y14.2.2.1, y14.2.2.2, s7.2.2.1, s7.2.2.2))))))) (Option.map .inr (Option.bind (s_l1Once (a0.1, s5.2.1, s5.2.2.1) 15) (fun y23 => cond y23.1 (Option.bind (s_l7Some (y23.2.1, y23.2.2.1, y23.2.2.2)) (fun y25 => Option.bind (appP s3.1 [(y25.1.1, y25.1.2)]) (fun y27 => some (.inl ((y27, IntKind.wrap .i64 (s3.2.1 + 1), y25.2.2.1, y25.2.2.2)))))) (Option.bind (appP s3.1 [(s5.2.2.2.1, s5.2.2.2.2)]) (fun y29 => some (.inl ((y29, IntKind.wrap .i64 (s3.2.1 + 1), y23.2.2.1, y23.2.2.2))))))))) (0, s3.2.2.1, s3.2.2.2, 1000, ([] : List D_Blob))) (Option.map .inr (some (s3.1, (a0.1, s3.2.2.1, s3.2.2.2))))) (y2, 0, a0.2.1, a0.2.2))
theorem s_l21Stores_walk (w : World) (b0_ : Nat) (a0 : T_l1Cur) (h0_0 : GT.rd w (fps [blk b0_ (GT.cells a0) 141]) a0.1) (r : (List D_Blobs) × D_l1Cur) (hp : s_l21Stores (GT.dat a0) = some r) : Spec Tryd.prog 91 [Value.pointer (some ⟨b0_, 0, none⟩)].toArray w [blk b0_ (GT.cells a0) 141] (fun v M => ∃ (x0 : TL T_Blobs) (y0 : T_l1Cur), v = (TL.hdr x0) ∧ (GT.dat x0, GT.dat y0) = r ∧ M = [treeH x0, blk b0_ (GT.cells y0) 141] ∧ y0.1 = a0.1) := by
  obtain ⟨a0_1, a0_2, a0_3⟩ := a0
  change Spec _ _ ([Value.pointer (some ⟨b0_, 0, none⟩)] : List Value).toArray w _ _
  refine Spec.intro Tryd.func91 rfl Tryd.ntmps91 rfl ?_
  unfold s_l21Stores at hp
  replace hp := dd hp
  refine s2 ?_
  refine L_assign (v := (TL.hdr (TL.nil T_Blobs 0))) rfl rfl ?_
  refine s3 ?_
  replace hp := ba hp; obtain ⟨y2, hy2, hp⟩ := hp
  refine L_mk0 T_Blobs rfl el40.h (fun X1 hdX1 => ?_)
  obtain rfl : GT.dat X1 = y2 := hdX1.trans (Option.some.inj hy2)
  clear hy2 hdX1
  refine s8 ?_
  refine W_while (σ := (TL T_Blobs) × Int × Int × Int) GT.dat (fun ((v3_0, v3_1, v3_2, v3_3) : (TL T_Blobs) × Int × Int × Int) => [(3, (TL.hdr v3_0)), (4, .int .i64 v3_1)]) (fun ((v3_0, v3_1, v3_2, v3_3) : (TL T_Blobs) × Int × Int × Int) => [blk b0_ [(TL.hdr a0_1), .int .i64 v3_2, .int .i64 v3_3] 141, treeH v3_0]) [(0, _)] [] (X1, 0, a0_2, a0_3) hp sb ms ?_
  clear hp
  rintro ⟨v3_0, v3_1, v3_2, v3_3⟩ x3 hp hx3
  replace hp := dd hp
  refine kq [0, 3, 4] ?_
  refine s6 ?_
  refine kp [0, 3, 4, 14] ?_
  refine W_cond rfl (fun hc4 => ?_) (fun hc4 => ?_)
  · replace hp := cond_t hc4 hp
    refine s5 ?_
    refine L_build (xs := [(0, .const (.int .i64 1000))]) (cs := [.int .i64 1000, (TL.hdr (TL.nil T_Blob 0))]) rfl rfl bld30.h rfl ?_
    refine al fun bk5 => ?_
    refine s8 ?_
    refine W_conv (M' := treeH (TL.nil T_Blob 0) :: _) (fun w h => addNilT (τ := T_Blob) 0 h) ?_
    refine W_while (σ := Int × Int × Int × Int × (TL T_Blob)) GT.dat (fun ((v5_0, v5_1, v5_2, v5_3, v5_4) : Int × Int × Int × Int × (TL T_Blob)) => [(6, .int .i64 v5_0)]) (fun ((v5_0, v5_1, v5_2, v5_3, v5_4) : Int × Int × Int × Int × (TL T_Blob)) => [blk b0_ [(TL.hdr a0_1), .int .i64 v5_1, .int .i64 v5_2] 141, blk bk5 [.int .i64 v5_3, (TL.hdr v5_4)] 30, treeH v5_4]) [(0, _), (3, _), (4, _), (5, _)] [treeH v3_0] (0, v3_2, v3_3, 1000, (TL.nil T_Blob 0)) hp sb ms ?_
    clear hp
    rintro ⟨v5_0, v5_1, v5_2, v5_3, v5_4⟩ x5 hp hx5
    replace hp := dd hp
    refine kq [0, 3, 4, 5, 6] ?_
    refine s6 ?_
    refine kp [0, 3, 4, 5, 6, 19] ?_
    refine W_cond rfl (fun hc6 => ?_) (fun hc6 => ?_)
    · replace hp := cond_t hc6 hp
      refine s3 ?_
      refine W_jn (σ := Int × Int × Int × (TL T_Blob)) GT.dat (fun ((v7_0, v7_1, v7_2, v7_3) : Int × Int × Int × (TL T_Blob)) => []) (fun ((v7_0, v7_1, v7_2, v7_3) : Int × Int × Int × (TL T_Blob)) => [blk b0_ [(TL.hdr a0_1), .int .i64 v7_0, .int .i64 v7_1] 141, blk bk5 [.int .i64 v7_2, (TL.hdr v7_3)] 30, treeH v7_3]) [(0, .pointer (some ⟨b0_, 0, none⟩)), (3, (TL.hdr v3_0)), (4, .int .i64 v3_1), (5, .pointer (some ⟨bk5, 0, none⟩)), (6, .int .i64 v5_0)] [treeH v3_0] hp ?_ ?_
      · clear hp
        intro x7 hp hx7
        refine s3 ?_
        replace hp := ba hp; obtain ⟨y8, hy8, hp⟩ := hp
        refine L_callM [blk b0_ _ _] _ rfl fn83.h rfl pc (by exact fun w hw => s_l1Once_walk w b0_ (a0_1, v5_1, v5_2) 3 ((RdX.old h0_0) w hw) _ hy8) ?_
        rintro _ _ ⟨y8x0, ⟨y8y0_1, y8y0_2, y8y0_3⟩, rfl, rfl, rfl, hey8_0⟩
        obtain rfl : a0_1 = y8y0_1 := hey8_0.symm
        refine sc ?_
        replace hp := dd hp
        refine s2 ?_
        refine kp [0, 3, 4, 5, 6, 24] ?_
        refine W_cond rfl (fun hc9 => ?_) (fun hc9 => ?_)
        · replace hp := cond_t hc9 hp
          refine s4 ?_
          refine L_convInt rfl rfl und5.h (by rw [und3.h]; rfl) ?_
          replace hp := ba hp; obtain ⟨y10, hy10, hp⟩ := hp
          have ey10 := u8P_some hy10
          try simp only [ey10]
          replace hp := ba hp; obtain ⟨y11, hy11, hp⟩ := hp
          refine L_bsN ([y10] : List UInt8) (xs := [(0, .tmp 28)]) rfl rfl el59.h rfl rfl rfl rfl rfl rfl rfl hy11 (fun X12 hdX12 => ?_)
          subst hdX12
          refine L_toStr (X := X12) rfl rfl und59.h und5.h und9.h (RdT.tree mm) ?_
          replace hp := ba hp; obtain ⟨y13, hy13, hp⟩ := hp
          refine L_callR rfl fn29.h rfl (by exact fun w hw => s_BlobPut_walk w (v5_3, v5_4) (strP (GT.dat X12)) (RdT.now (RdT.pair RdT.int (RdT.tree mm)) hw) _ hy13) ?_
          rintro _ _ ⟨⟨y13x0_1, y13x0_2⟩, y13x1, y13x2, rfl, rfl, rfl⟩
          refine sc ?_
          replace hp := dd hp
          refine xL ((y13x0_1, y13x0_2) : T_Blobs) ?_
          refine s4 ?_
          refine al fun bk7 => ?_
          refine s8 ?_
          exact ⟨(y8y0_2, y8y0_3, y13x0_1, y13x0_2), sb, (.sub ms), some_eq hp⟩
        · replace hp := cond_f hc9 hp
          refine s1 ?_
          exact ⟨(y8y0_2, y8y0_3, v5_3, v5_4), sb, (.sub ms), some_eq hp⟩
      · clear hp
        rintro ⟨v7_0, v7_1, v7_2, v7_3⟩ hp
        replace hp := dd hp
        refine kq [0, 3, 4, 5, 6] ?_
        refine s3 ?_
        replace hp := ba hp; obtain ⟨y14, hy14, hp⟩ := hp
        refine L_callM [blk b0_ _ _] _ rfl fn83.h rfl pc (by exact fun w hw => s_l1Once_walk w b0_ (a0_1, v7_0, v7_1) 6 ((RdX.old h0_0) w hw) _ hy14) ?_
        rintro _ _ ⟨y14x0, ⟨y14y0_1, y14y0_2, y14y0_3⟩, rfl, rfl, rfl, hey14_0⟩
        obtain rfl : a0_1 = y14y0_1 := hey14_0.symm
        refine sc ?_
        replace hp := dd hp
        refine s1 ?_
        refine kp [0, 3, 4, 5, 6, 37] ?_
        refine W_cond rfl (fun hc15 => ?_) (fun hc15 => ?_)
        · replace hp := cond_t hc15 hp
          refine s1 ?_
          replace hp := ba hp; obtain ⟨y16, hy16, hp⟩ := hp
          have ey16 := u8P_some hy16
          try simp only [ey16]
          replace hp := ba hp; obtain ⟨y17, hy17, hp⟩ := hp
          replace hp := ba hp; obtain ⟨y19, hy19, hp⟩ := hp
          replace hp := ba hp; obtain ⟨y20, hy20, hp⟩ := hp
          refine W_D0 [10] mix (by kernel_rfl) rfl ?_
          refine s2 ?_
          refine D_convInt GC.none (OpV.t rfl) und5.h (by rw [und3.h]; rfl) ?_
          refine D_bsN ([y16] : List UInt8) (xs := [(0, .tmp 41)]) (ps := [(0, .int .u8 (y16.toNat : Int))]) (OpVp.cons (by rw [← ey16]; exact (OpV.t rfl)) (OpVp.nil)) el59.h rfl rfl rfl rfl rfl rfl rfl hy17 ?_
          refine D_toStrO (r := y17) (t := 42) rfl und59.h und5.h und9.h (by kernel_rfl) ?_
          refine D_callX GC.none fn42.h (OpVs.cons (OpV.t rfl) (OpVs.nil)) (by exact fun hg w F hF hM => s_Short_walk w (strP y17)  _ hy19) ?_
          refine D_call1R (fun v M => ∃ (x0 : T_Blobs) (x1 : Bool), v = .tuple #[.agg (GT.cells x0).toArray, .bool x1] ∧ (GT.dat x0, GT.dat x1) = y20 ∧ M = [treeH x0]) fn22.h (OpVs.cons (OpV.t rfl) (OpVs.cons (OpV.t rfl) (OpVs.nil))) (by exact fun w F hF hM => s_BlobBend_walk w (v7_2, v7_3) y19 (RdT.nowS (RdT.pair RdT.int (RdT.tree mm)) hF hM) _ hy20) ?_
          refine D_moveC (t := 45) rfl (by kernel_rfl) ?_
          refine D_extractC (t := 38) (AggV (τ := T_Blobs) y20.1) rfl (by rintro v M ⟨x0, x1, rfl, hd, rfl⟩; subst hd; exact ⟨_, _, rfl, rfl, x0, rfl, rfl, rfl⟩) (by kernel_rfl) ?_
          refine D_extractW (t := 38) (.bool y20.2) rfl (by rintro v M ⟨-, M', x0, x1, rfl, hd, -⟩; subst hd; exact ⟨_, rfl, rfl⟩) ?_
          refine D_alloc zero30.h ?_
          refine D_storeK (p := 10) (x := 46) rfl rfl (by exact agg30.h) rfl (by kernel_rfl) ?_
          refine s3 ?_
          refine Give_R rfl rfl ?_
          rintro _ _ ⟨bk10, X21, rfl, hdX21, rfl⟩
          try rw [← hdX21] at hp
          obtain ⟨X21_1, X21_2⟩ := X21
          refine s12 ?_
          refine sc ?_
          replace hp := dd hp
          refine xW ((X21_1, X21_2) : T_Blobs) ?_
          refine s9 ?_
          exact ⟨(IntKind.wrap .i64 (v5_0 + 1), y14y0_2, y14y0_3, X21_1, X21_2), sb, (.sub ms), some_eq hp⟩
        · replace hp := cond_f hc15 hp
          refine s6 ?_
          exact ⟨(IntKind.wrap .i64 (v5_0 + 1), y14y0_2, y14y0_3, v7_2, v7_3), sb, (.sub ms), some_eq hp⟩
    · replace hp := cond_f hc6 hp
      refine W_exit ?_
      replace hp := map_any hp; obtain ⟨a22, hp, hx_a22⟩ := hp
      obtain rfl := hx5 _ hx_a22
      refine s4 ?_
      replace hp := ba hp; obtain ⟨y23, hy23, hp⟩ := hp
      refine L_callM [blk b0_ _ _] _ rfl fn83.h rfl pc (by exact fun w hw => s_l1Once_walk w b0_ (a0_1, v5_1, v5_2) 15 ((RdX.old h0_0) w hw) _ hy23) ?_
      rintro _ _ ⟨y23x0, ⟨y23y0_1, y23y0_2, y23y0_3⟩, rfl, rfl, rfl, hey23_0⟩
      obtain rfl : a0_1 = y23y0_1 := hey23_0.symm
      refine sc ?_
      replace hp := dd hp
      refine s1 ?_
      refine kp [0, 3, 4, 5, 50] ?_
      refine W_cond rfl (fun hc24 => ?_) (fun hc24 => ?_)
      · replace hp := cond_t hc24 hp
        refine s2 ?_
        replace hp := ba hp; obtain ⟨y25, hy25, hp⟩ := hp
        refine L_callM [blk b0_ _ _] _ rfl fn82.h rfl pc (by exact fun w hw => s_l7Some_walk w b0_ (a0_1, y23y0_2, y23y0_3) ((RdX.old h0_0) w hw) _ hy25) ?_
        rintro _ _ ⟨⟨y25x0_1, y25x0_2⟩, ⟨y25y0_1, y25y0_2, y25y0_3⟩, rfl, rfl, rfl, hey25_0⟩
        obtain rfl : a0_1 = y25y0_1 := hey25_0.symm
        refine sc ?_
        replace hp := dd hp
        refine xL ((y25x0_1, y25x0_2) : T_Blobs) ?_
        refine s5 ?_
        refine L_buildSlice1 rfl rfl el40.h rfl (by decide) (by decide) rfl (fun bb55 => ?_)
        replace hp := ba hp; obtain ⟨y27, hy27, hp⟩ := hp
        refine jL ((y25x0_1, y25x0_2) : T_Blobs) ?_
        refine L_app1 (X := v3_0) ((y25x0_1, y25x0_2) : T_Blobs) rfl rfl rfl el40.h rfl rfl pk mm pk hy27 (by decide) (fun X26 hdX26 => ?_)
        subst hdX26
        refine s7 ?_
        exact ⟨(X26, IntKind.wrap .i64 (v3_1 + 1), y25y0_2, y25y0_3), sb, (.sub ms), some_eq hp⟩
      · replace hp := cond_f hc24 hp
        refine s4 ?_
        refine L_buildSlice1 rfl rfl el40.h rfl (by decide) (by decide) rfl (fun bb55 => ?_)
        replace hp := ba hp; obtain ⟨y29, hy29, hp⟩ := hp
        refine jL ((v5_3, v5_4) : T_Blobs) ?_
        refine L_app1 (X := v3_0) ((v5_3, v5_4) : T_Blobs) rfl rfl rfl el40.h rfl rfl pk mm pk hy29 (by decide) (fun X28 hdX28 => ?_)
        subst hdX28
        refine s7 ?_
        exact ⟨(X28, IntKind.wrap .i64 (v3_1 + 1), y23y0_2, y23y0_3), sb, (.sub ms), some_eq hp⟩
  · replace hp := cond_f hc4 hp
    refine W_exit ?_
    replace hp := map_any hp; obtain ⟨a30, hp, hx_a30⟩ := hp
    obtain rfl := hx3 _ hx_a30
    refine s5 ?_
    obtain rfl := Option.some.inj hp
    refine s1 ?_
    refine res1 rfl (ResOK.tmp rfl) ⟨v3_0, (a0_1, v3_2, v3_3), rfl, rfl, rfl, rfl⟩ ms
noncomputable def s_DrawRestore (a0 : List UInt8) : Option (D_Catalog × (List D_Blobs) × ByteArray × ByteArray) :=
  Option.bind (s_l1New a0) (fun y1 => Option.bind (s_l15Some (y1.1, y1.2.1, y1.2.2)) (fun y2 => Option.bind (s_l21Stores (y2.2.1, y2.2.2.1, y2.2.2.2)) (fun y3 => Option.bind (some ([(ByteArray.mk #[97]), (ByteArray.mk #[98]), (ByteArray.mk #[97, 98]), (ByteArray.mk #[113])] : List ByteArray)) (fun y4 => Option.bind (s_l1Pick (y3.2.1, y3.2.2.1, y3.2.2.2) y4) (fun y6 => Option.bind (some ([(ByteArray.mk #[120]), (ByteArray.mk #[121]), (ByteArray.mk #[122])] : List ByteArray)) (fun y7 => Option.bind (s_l1Pick (y6.2.1, y6.2.2.1, y6.2.2.2) y7) (fun y9 => Option.bind (gm (decide (0 < (y2.1.length : Int))) (false, (y9.2.1, y9.2.2.1, y9.2.2.2)) (s_l1Once (y9.2.1, y9.2.2.1, y9.2.2.2) 2)) (fun y10 => cond ((decide (0 < (y2.1.length : Int))) && y10.1) (Option.bind (s_l1Below (y10.2.1, y10.2.2.1, y10.2.2.2) (y2.1.length : Int)) (fun y12 => Option.bind (idx y2.1 y12.1) (fun y13 => cond (decide (0 < (y13.2.length : Int))) (Option.bind (s_l1Below (y12.2.1, y12.2.2.1, y12.2.2.2) (y13.2.length : Int)) (fun y15 => Option.bind (idx y13.2 y15.1) (fun y16 => some (y2.1, y3.1, y13.1, y16.1)))) (some (y2.1, y3.1, y6.1, y9.1))))) (some (y2.1, y3.1, y6.1, y9.1))))))))))
theorem s_DrawRestore_walk (w : World) (a0 : TL UInt8) (h0 : GT.rd w [] a0) (r : D_Catalog × (List D_Blobs) × ByteArray × ByteArray) (hp : s_DrawRestore (GT.dat a0) = some r) : Spec Tryd.prog 43 [(TL.hdr a0)].toArray w [] (fun v M => ∃ (x0 : T_Catalog) (x1 : TL T_Blobs) (x2 : ByteArray) (x3 : ByteArray), v = .tuple #[.agg (GT.cells x0).toArray, (TL.hdr x1), .string x2, .string x3] ∧ (GT.dat x0, GT.dat x1, GT.dat x2, GT.dat x3) = r ∧ M = [treeH x0, treeH x1]) := by
  refine Spec.intro Tryd.func43 rfl Tryd.ntmps43 rfl ?_
  unfold s_DrawRestore at hp
  replace hp := dd hp
  refine s2 ?_
  refine al fun bk2 => ?_
  refine L_assign (v := (TL.hdr (TL.nil T_Blobs 0))) rfl rfl ?_
  refine s6 ?_
  replace hp := ba hp; obtain ⟨y1, hy1, hp⟩ := hp
  refine L_callR rfl fn81.h rfl (by exact fun w hw => s_l1New_walk w a0 (RdT.now (RdT.old h0) hw) _ hy1) ?_
  rintro _ _ ⟨bky1, ⟨y1x_1, y1x_2, y1x_3⟩, rfl, rfl, rfl, hey1_0⟩
  obtain rfl : a0 = y1x_1 := hey1_0.symm
  refine sc ?_
  replace hp := dd hp
  refine s5 ?_
  replace hp := ba hp; obtain ⟨y2, hy2, hp⟩ := hp
  refine L_callM [blk bky1 _ _] _ rfl fn90.h rfl pc (by exact fun w hw => s_l15Some_walk w bky1 (a0, y1x_2, y1x_3) ((RdX.old h0) w hw) _ hy2) ?_
  rintro _ _ ⟨y2x0, ⟨y2y0_1, y2y0_2, y2y0_3⟩, rfl, rfl, rfl, hey2_0⟩
  obtain rfl : a0 = y2y0_1 := hey2_0.symm
  refine sc ?_
  replace hp := dd hp
  refine al fun bk7 => ?_
  refine s5 ?_
  replace hp := ba hp; obtain ⟨y3, hy3, hp⟩ := hp
  refine L_callM [blk bky1 _ _] _ rfl fn91.h rfl pc (by exact fun w hw => s_l21Stores_walk w bky1 (a0, y2y0_2, y2y0_3) ((RdX.old h0) w hw) _ hy3) ?_
  rintro _ _ ⟨y3x0, ⟨y3y0_1, y3y0_2, y3y0_3⟩, rfl, rfl, rfl, hey3_0⟩
  obtain rfl : a0 = y3y0_1 := hey3_0.symm
  refine sc ?_
  replace hp := dd hp
  refine s5 ?_
  replace hp := ba hp; obtain ⟨y4, hy4, hp⟩ := hp
  refine L_bsN ([(ByteArray.mk #[97]), (ByteArray.mk #[98]), (ByteArray.mk #[97, 98]), (ByteArray.mk #[113])] : List ByteArray) (xs := [(0, .const (.string (ByteArray.mk #[97]))), (1, .const (.string (ByteArray.mk #[98]))), (2, .const (.string (ByteArray.mk #[97, 98]))), (3, .const (.string (ByteArray.mk #[113])))]) rfl rfl el73.h rfl rfl rfl rfl rfl rfl rfl hy4 (fun X5 hdX5 => ?_)
  subst hdX5
  replace hp := ba hp; obtain ⟨y6, hy6, hp⟩ := hp
  refine L_callM [blk bky1 _ _] _ rfl fn92.h rfl pc (by exact fun w hw => s_l1Pick_walk w bky1 (a0, y3y0_2, y3y0_3) X5 ((RdX.tree mm) w hw) ((RdX.old h0) w hw) _ hy6) ?_
  rintro _ _ ⟨y6x0, ⟨y6y0_1, y6y0_2, y6y0_3⟩, rfl, rfl, rfl, hey6_0⟩
  obtain rfl : a0 = y6y0_1 := hey6_0.symm
  refine sc ?_
  replace hp := dd hp
  refine s5 ?_
  replace hp := ba hp; obtain ⟨y7, hy7, hp⟩ := hp
  refine L_bsN ([(ByteArray.mk #[120]), (ByteArray.mk #[121]), (ByteArray.mk #[122])] : List ByteArray) (xs := [(0, .const (.string (ByteArray.mk #[120]))), (1, .const (.string (ByteArray.mk #[121]))), (2, .const (.string (ByteArray.mk #[122])))]) rfl rfl el73.h rfl rfl rfl rfl rfl rfl rfl hy7 (fun X8 hdX8 => ?_)
  subst hdX8
  replace hp := ba hp; obtain ⟨y9, hy9, hp⟩ := hp
  refine L_callM [blk bky1 _ _] _ rfl fn92.h rfl pc (by exact fun w hw => s_l1Pick_walk w bky1 (a0, y6y0_2, y6y0_3) X8 ((RdX.tree mm) w hw) ((RdX.old h0) w hw) _ hy9) ?_
  rintro _ _ ⟨y9x0, ⟨y9y0_1, y9y0_2, y9y0_3⟩, rfl, rfl, rfl, hey9_0⟩
  obtain rfl : a0 = y9y0_1 := hey9_0.symm
  refine sc ?_
  replace hp := dd hp
  refine s4 ?_
  replace hp := ba hp; obtain ⟨⟨y10a, y10b⟩, hy10, hp⟩ := hp; try dsimp only at hp
  refine W_DS (pre := [_, _, _, _, _, _, _, _]) (suf := []) [30, 31] [blk bky1 [(TL.hdr a0), .int .i64 y9y0_2, .int .i64 y9y0_3] 141] _ pc mix (by kernel_rfl) (by kernel_rfl) rfl ?_
  refine s2 ?_
  refine D_lenP (X := y2x0) GC.none (OpV.t rfl) el51.h ?_
  refine s3 ?_
  refine D_callMg (fun v M => ∃ (x0 : Bool) (y0 : T_l1Cur), v = .bool x0 ∧ (GT.dat x0, GT.dat y0) = (y10a, y10b) ∧ M = [blk bky1 (GT.cells y0) 141] ∧ y0.1 = a0) (fun v M => ∃ (y0 : T_l1Cur), M = [blk bky1 (GT.cells y0) 141] ∧ GT.dat y0 = y10b ∧ y0.1 = a0 ∧ ((True ∧ (decide (0 < ((GT.dat y2x0).length : Int))) = true) → v = .bool y10a)) [blk bky1 [(TL.hdr a0), .int .i64 y9y0_2, .int .i64 y9y0_3] 141] pc (GC.some rfl rfl) fn83.h (OpVs.cons (OpV.s rfl) (OpVs.cons OpV.c (OpVs.nil))) (by exact fun hg w F hw hM => s_l1Once_walk w bky1 (a0, y9y0_2, y9y0_3) 2 ((RdX.old h0) w hw) _ (gm_t hy10 hg.2)) (by rintro hg v M ⟨x0, z0, hv, hd, hm, he0⟩; obtain ⟨rfl, rfl⟩ := Prod.mk.inj hd; exact ⟨z0, hm, rfl, he0, fun _ => hv⟩) (fun hn => ⟨(a0, y9y0_2, y9y0_3), rfl, (by have e := gm_f hy10 (fun hg => hn ⟨trivial, hg⟩); exact (Prod.mk.inj e).2.symm), rfl, fun hc => (hn hc).elim⟩) ?_
  refine D_and (cy := (True ∧ (decide (0 < ((GT.dat y2x0).length : Int))) = true)) GC.none (OpV.t rfl) (show OpV _ _ (True ∧ (decide (0 < ((GT.dat y2x0).length : Int))) = true) (.bool y10a) from ⟨_, rfl, fun u M h hc => by obtain ⟨z0, hm, hd, -, hv⟩ := h; exact hv hc⟩) (fun h hb => ⟨h, hb⟩) ?_
  refine s2 ?_
  refine Give_R rfl rfl ?_
  rintro _ _ ⟨⟨y10y_1, y10y_2, y10y_3⟩, rfl, rfl, hey10_0, -⟩
  obtain rfl : a0 = y10y_1 := hey10_0.symm
  refine s7 ?_
  refine sc ?_
  replace hp := dd hp
  refine s1 ?_
  refine kp [2, 6, 7, 8, 9, 10, 31] ?_
  refine W_cond rfl (fun hc11 => ?_) (fun hc11 => ?_)
  · replace hp := cond_t hc11 hp
    refine s1 ?_
    replace hp := ba hp; obtain ⟨y12, hy12, hp⟩ := hp
    replace hp := idx_bind hp; obtain ⟨⟨u13_1, u13_2⟩, hy13, hp⟩ := hp
    refine W_DS (pre := [_, _, _, _, _, _, _, _, _, _]) (suf := [_]) [11, 38, 40] [blk bky1 _ 141] _ pc mix (by kernel_rfl) (by kernel_rfl) rfl ?_
    refine s5 ?_
    refine D_lenP (X := y2x0) GC.none (OpV.t rfl) el51.h ?_
    refine D_callM (fun v M => ∃ (x0 : Int) (y0 : T_l1Cur), v = .int .i64 x0 ∧ (GT.dat x0, GT.dat y0) = y12 ∧ M = [blk bky1 (GT.cells y0) 141] ∧ y0.1 = a0) [blk bky1 _ 141] pc fn84.h (OpVs.cons (OpV.t rfl) (OpVs.cons (OpV.t rfl) (OpVs.nil))) (by exact fun w F hw hM => s_l1Below_walk w bky1 (a0, y10y_2, y10y_3) ((GT.dat y2x0).length : Int) ((RdX.old h0) w hw) _ hy12) ?_
    refine D_idxA (X := y2x0) GC.none (OpV.t rfl) (show OpV _ _ _ (.int .i64 y12.1) from ⟨_, rfl, fun u M h hc => by obtain ⟨x0, z0, hv, hd, _⟩ := h; subst hd; exact hv⟩) el51.h (RdT.tree mm) (fun _ => hy13) ?_
    refine D_loadW GC.none (OpV.t rfl) (fun hg => RdT.at (RdT.tree mm) (hy13).2) (by exact agg72.h) ?_
    refine D_alloc zero72.h ?_
    refine s1 ?_
    refine Give_R rfl rfl ?_
    rintro _ _ ⟨bk11, rfl, rfl⟩
    simp only [List.cons_append, List.nil_append]
    refine s2 ?_
    refine Give_R rfl rfl ?_
    rintro _ _ ⟨y12x0, ⟨y12y0_1, y12y0_2, y12y0_3⟩, rfl, rfl, rfl, hey12_0⟩
    obtain rfl : a0 = y12y0_1 := hey12_0.symm
    refine s7 ?_
    refine sc ?_
    replace hp := dd hp
    refine s9 ?_
    refine kp [2, 6, 7, 8, 9, 10, 11, 44] ?_
    refine W_cond rfl (fun hc14 => ?_) (fun hc14 => ?_)
    · replace hp := cond_t hc14 hp
      refine s1 ?_
      replace hp := ba hp; obtain ⟨y15, hy15, hp⟩ := hp
      replace hp := idx_bind hp; obtain ⟨⟨u16_1, u16_2, u16_3⟩, hy16, hp⟩ := hp
      refine W_DS (pre := [_, _, _, _, _, _, _, _, _, _, _, _, _, _, _, _, _, _]) (suf := []) [3, 4, 5, 55] [blk bky1 _ 141, blk bk2 _ _] _ pc mix (by kernel_rfl) (by kernel_rfl) rfl ?_
      refine s9 ?_
      refine D_lenP (X := u13_2) GC.none (OpV.t rfl) el70.h ?_
      refine D_callM (fun v M => ∃ (x0 : Int) (y0 : T_l1Cur), v = .int .i64 x0 ∧ (GT.dat x0, GT.dat y0) = y15 ∧ M = [blk bky1 (GT.cells y0) 141] ∧ y0.1 = a0) [blk bky1 _ 141] pc fn84.h (OpVs.cons (OpV.t rfl) (OpVs.cons (OpV.t rfl) (OpVs.nil))) (by exact fun w F hw hM => s_l1Below_walk w bky1 (a0, y12y0_2, y12y0_3) ((GT.dat u13_2).length : Int) ((RdX.old h0) w hw) _ hy15) ?_
      refine D_idxA (X := u13_2) GC.none (OpV.t rfl) (show OpV _ _ _ (.int .i64 y15.1) from ⟨_, rfl, fun u M h hc => by obtain ⟨x0, z0, hv, hd, _⟩ := h; subst hd; exact hv⟩) el70.h (RdT.snd (RdT.of (RdT.tree mm) (hy13).2)) (fun _ => hy16) ?_
      refine s1 ?_
      refine D_load GC.none (OpV.t rfl) (fun hg => RdT.at (RdT.snd (RdT.of (RdT.tree mm) (hy13).2)) (hy16).2) one9.h rfl ?_
      refine D_storeW (OpV.t rfl) (OpV.t rfl) pk (by exact agg53.h) (by rfl) ocs ?_
      refine s11 ?_
      refine Give_R rfl rfl ?_
      rintro _ _ ⟨y15x0, ⟨y15y0_1, y15y0_2, y15y0_3⟩, rfl, rfl, rfl, hey15_0⟩
      obtain rfl : a0 = y15y0_1 := hey15_0.symm
      refine s11 ?_
      refine sc ?_
      replace hp := dd hp
      refine s1 ?_
      obtain rfl := Option.some.inj hp
      refine s1 ?_
      refine res4 rfl (ResOK.cell rfl mm (by exact agg53.h)) (ResOK.tmp rfl) (ResOK.tmp rfl) (ResOK.tmp rfl) ⟨y2x0, y3x0, u13_1, u16_1, rfl, rfl, rfl⟩ ms
    · replace hp := cond_f hc14 hp
      refine s12 ?_
      obtain rfl := Option.some.inj hp
      refine s1 ?_
      refine res4 rfl (ResOK.cell rfl mm (by exact agg53.h)) (ResOK.tmp rfl) (ResOK.tmp rfl) (ResOK.tmp rfl) ⟨y2x0, y3x0, y6x0, y9x0, rfl, rfl, rfl⟩ ms
  · replace hp := cond_f hc11 hp
    refine s12 ?_
    obtain rfl := Option.some.inj hp
    refine s1 ?_
    refine res4 rfl (ResOK.cell rfl mm (by exact agg53.h)) (ResOK.tmp rfl) (ResOK.tmp rfl) (ResOK.tmp rfl) ⟨y2x0, y3x0, y6x0, y9x0, rfl, rfl, rfl⟩ ms
noncomputable def s_l18Chunk (a0 : D_l1Cur) : Option (ByteArray × D_l1Cur) :=
  Option.bind (s_l1Once (a0.1, a0.2.1, a0.2.2) 25) (fun y1 => cond y1.1 (Option.bind (s_l1Text (y1.2.1, y1.2.2.1, y1.2.2.2) 9) (fun y3 => some (y3.1, (y3.2.1, y3.2.2.1, y3.2.2.2)))) (Option.bind (s_l1Below (y1.2.1, y1.2.2.1, y1.2.2.2) 5) (fun y4 => Option.bind (u8P (IntKind.wrap .u8 y4.1)) (fun y5 => Option.bind (some ([y5] : List UInt8)) (fun y6 => Option.bind (s_Short (strP y6)) (fun y8 => some (y8, (y4.2.1, y4.2.2.1, y4.2.2.2))))))))
theorem s_l18Chunk_walk (w : World) (b0_ : Nat) (a0 : T_l1Cur) (h0_0 : GT.rd w (fps [blk b0_ (GT.cells a0) 141]) a0.1) (r : ByteArray × D_l1Cur) (hp : s_l18Chunk (GT.dat a0) = some r) : Spec Tryd.prog 93 [Value.pointer (some ⟨b0_, 0, none⟩)].toArray w [blk b0_ (GT.cells a0) 141] (fun v M => ∃ (x0 : ByteArray) (y0 : T_l1Cur), v = .string x0 ∧ (GT.dat x0, GT.dat y0) = r ∧ M = [blk b0_ (GT.cells y0) 141] ∧ y0.1 = a0.1) := by
  obtain ⟨a0_1, a0_2, a0_3⟩ := a0
  change Spec _ _ ([Value.pointer (some ⟨b0_, 0, none⟩)] : List Value).toArray w _ _
  refine Spec.intro Tryd.func93 rfl Tryd.ntmps93 rfl ?_
  unfold s_l18Chunk at hp
  replace hp := dd hp
  refine s8 ?_
  replace hp := ba hp; obtain ⟨y1, hy1, hp⟩ := hp
  refine L_callM [blk b0_ _ _] _ rfl fn83.h rfl pc (by exact fun w hw => s_l1Once_walk w b0_ (a0_1, a0_2, a0_3) 25 ((RdX.old h0_0) w hw) _ hy1) ?_
  rintro _ _ ⟨y1x0, ⟨y1y0_1, y1y0_2, y1y0_3⟩, rfl, rfl, rfl, hey1_0⟩
  obtain rfl : a0_1 = y1y0_1 := hey1_0.symm
  refine sc ?_
  replace hp := dd hp
  refine s1 ?_
  refine kp [0, 4] ?_
  refine W_cond rfl (fun hc2 => ?_) (fun hc2 => ?_)
  · replace hp := cond_t hc2 hp
    refine s3 ?_
    replace hp := ba hp; obtain ⟨y3, hy3, hp⟩ := hp
    refine L_callM [blk b0_ _ _] _ rfl fn94.h rfl pc (by exact fun w hw => s_l1Text_walk w b0_ (a0_1, y1y0_2, y1y0_3) 9 ((RdX.old h0_0) w hw) _ hy3) ?_
    rintro _ _ ⟨y3x0, ⟨y3y0_1, y3y0_2, y3y0_3⟩, rfl, rfl, rfl, hey3_0⟩
    obtain rfl : a0_1 = y3y0_1 := hey3_0.symm
    refine sc ?_
    replace hp := dd hp
    refine s2 ?_
    obtain rfl := Option.some.inj hp
    refine s1 ?_
    refine res1 rfl (ResOK.tmp rfl) ⟨y3x0, (a0_1, y3y0_2, y3y0_3), rfl, rfl, rfl, rfl⟩ ms
  · replace hp := cond_f hc2 hp
    refine s4 ?_
    replace hp := ba hp; obtain ⟨y4, hy4, hp⟩ := hp
    refine L_callM [blk b0_ _ _] _ rfl fn84.h rfl pc (by exact fun w hw => s_l1Below_walk w b0_ (a0_1, y1y0_2, y1y0_3) 5 ((RdX.old h0_0) w hw) _ hy4) ?_
    rintro _ _ ⟨y4x0, ⟨y4y0_1, y4y0_2, y4y0_3⟩, rfl, rfl, rfl, hey4_0⟩
    obtain rfl : a0_1 = y4y0_1 := hey4_0.symm
    refine sc ?_
    replace hp := dd hp
    refine L_convInt rfl rfl und5.h (by rw [und3.h]; rfl) ?_
    replace hp := ba hp; obtain ⟨y5, hy5, hp⟩ := hp
    have ey5 := u8P_some hy5
    try simp only [ey5]
    replace hp := ba hp; obtain ⟨y6, hy6, hp⟩ := hp
    refine L_bsN ([y5] : List UInt8) (xs := [(0, .tmp 9)]) rfl rfl el59.h rfl rfl rfl rfl rfl rfl rfl hy6 (fun X7 hdX7 => ?_)
    subst hdX7
    refine L_toStr (X := X7) rfl rfl und59.h und5.h und9.h (RdT.tree mm) ?_
    replace hp := ba hp; obtain ⟨y8, hy8, hp⟩ := hp
    refine L_callX rfl fn42.h rfl (by exact fun w hw => s_Short_walk w (strP (GT.dat X7))  _ hy8) ?_
    refine s2 ?_
    obtain rfl := Option.some.inj hp
    refine s1 ?_
    refine res1 rfl (ResOK.tmp rfl) ⟨y8, (a0_1, y4y0_2, y4y0_3), rfl, rfl, rfl, rfl⟩ ms
noncomputable def s_DrawFetch (a0 : List UInt8) : Option ((List D_Blobs) × ByteArray) :=
  Option.bind (s_l1New a0) (fun y1 => Option.bind (s_l21Stores (y1.1, y1.2.1, y1.2.2)) (fun y2 => Option.bind (s_l18Chunk (y2.2.1, y2.2.2.1, y2.2.2.2)) (fun y3 => some (y2.1, y3.1))))
theorem s_DrawFetch_walk (w : World) (a0 : TL UInt8) (h0 : GT.rd w [] a0) (r : (List D_Blobs) × ByteArray) (hp : s_DrawFetch (GT.dat a0) = some r) : Spec Tryd.prog 44 [(TL.hdr a0)].toArray w [] (fun v M => ∃ (x0 : TL T_Blobs) (x1 : ByteArray), v = .tuple #[(TL.hdr x0), .string x1] ∧ (GT.dat x0, GT.dat x1) = r ∧ M = [treeH x0]) := by
  refine Spec.intro Tryd.func44 rfl Tryd.ntmps44 rfl ?_
  unfold s_DrawFetch at hp
  replace hp := dd hp
  refine s2 ?_
  refine L_assign (v := (TL.hdr (TL.nil T_Blobs 0))) rfl rfl ?_
  refine s5 ?_
  replace hp := ba hp; obtain ⟨y1, hy1, hp⟩ := hp
  refine L_callR rfl fn81.h rfl (by exact fun w hw => s_l1New_walk w a0 (RdT.now (RdT.old h0) hw) _ hy1) ?_
  rintro _ _ ⟨bky1, ⟨y1x_1, y1x_2, y1x_3⟩, rfl, rfl, rfl, hey1_0⟩
  obtain rfl : a0 = y1x_1 := hey1_0.symm
  refine sc ?_
  replace hp := dd hp
  refine s5 ?_
  replace hp := ba hp; obtain ⟨y2, hy2, hp⟩ := hp
  refine L_callM [blk bky1 _ _] _ rfl fn91.h rfl pc (by exact fun w hw => s_l21Stores_walk w bky1 (a0, y1x_2, y1x_3) ((RdX.old h0) w hw) _ hy2) ?_
  rintro _ _ ⟨y2x0, ⟨y2y0_1, y2y0_2, y2y0_3⟩, rfl, rfl, rfl, hey2_0⟩
  obtain rfl : a0 = y2y0_1 := hey2_0.symm
  refine sc ?_
  replace hp := dd hp
  refine s6 ?_
  replace hp := ba hp; obtain ⟨y3, hy3, hp⟩ := hp
  refine L_callM [blk bky1 _ _] _ rfl fn93.h rfl pc (by exact fun w hw => s_l18Chunk_walk w bky1 (a0, y2y0_2, y2y0_3) ((RdX.old h0) w hw) _ hy3) ?_
  rintro _ _ ⟨y3x0, ⟨y3y0_1, y3y0_2, y3y0_3⟩, rfl, rfl, rfl, hey3_0⟩
  obtain rfl : a0 = y3y0_1 := hey3_0.symm
  refine sc ?_
  replace hp := dd hp
  refine s3 ?_
  obtain rfl := Option.some.inj hp
  refine s1 ?_
  refine res2 rfl (ResOK.tmp rfl) (ResOK.tmp rfl) ⟨y2x0, y3x0, rfl, rfl, rfl⟩ ms
noncomputable def s_DrawWhole (a0 : List UInt8) : Option (D_Catalog × (List D_Blobs)) :=
  Option.bind (s_l1New a0) (fun y1 => Option.bind (s_l15Some (y1.1, y1.2.1, y1.2.2)) (fun y2 => Option.bind (s_l21Stores (y2.2.1, y2.2.2.1, y2.2.2.2)) (fun y3 => some (y2.1, y3.1))))
theorem s_DrawWhole_walk (w : World) (a0 : TL UInt8) (h0 : GT.rd w [] a0) (r : D_Catalog × (List D_Blobs)) (hp : s_DrawWhole (GT.dat a0) = some r) : Spec Tryd.prog 45 [(TL.hdr a0)].toArray w [] (fun v M => ∃ (x0 : T_Catalog) (x1 : TL T_Blobs), v = .tuple #[.agg (GT.cells x0).toArray, (TL.hdr x1)] ∧ (GT.dat x0, GT.dat x1) = r ∧ M = [treeH x0, treeH x1]) := by
  refine Spec.intro Tryd.func45 rfl Tryd.ntmps45 rfl ?_
  unfold s_DrawWhole at hp
  replace hp := dd hp
  refine s2 ?_
  refine al fun bk2 => ?_
  refine L_assign (v := (TL.hdr (TL.nil T_Blobs 0))) rfl rfl ?_
  refine s4 ?_
  replace hp := ba hp; obtain ⟨y1, hy1, hp⟩ := hp
  refine L_callR rfl fn81.h rfl (by exact fun w hw => s_l1New_walk w a0 (RdT.now (RdT.old h0) hw) _ hy1) ?_
  rintro _ _ ⟨bky1, ⟨y1x_1, y1x_2, y1x_3⟩, rfl, rfl, rfl, hey1_0⟩
  obtain rfl : a0 = y1x_1 := hey1_0.symm
  refine sc ?_
  replace hp := dd hp
  refine s5 ?_
  replace hp := ba hp; obtain ⟨y2, hy2, hp⟩ := hp
  refine L_callM [blk bky1 _ _] _ rfl fn90.h rfl pc (by exact fun w hw => s_l15Some_walk w bky1 (a0, y1x_2, y1x_3) ((RdX.old h0) w hw) _ hy2) ?_
  rintro _ _ ⟨y2x0, ⟨y2y0_1, y2y0_2, y2y0_3⟩, rfl, rfl, rfl, hey2_0⟩
  obtain rfl : a0 = y2y0_1 := hey2_0.symm
  refine sc ?_
  replace hp := dd hp
  refine al fun bk5 => ?_
  refine s3 ?_
  replace hp := ba hp; obtain ⟨y3, hy3, hp⟩ := hp
  refine W_DS (pre := [_, _, _]) (suf := [_, _]) [10, 12] [blk bky1 _ 141] _ pc mix (by kernel_rfl) (by kernel_rfl) rfl ?_
  refine s2 ?_
  refine D_callM (fun v M => ∃ (x0 : TL T_Blobs) (y0 : T_l1Cur), v = (TL.hdr x0) ∧ (GT.dat x0, GT.dat y0) = y3 ∧ M = [treeH x0, blk bky1 (GT.cells y0) 141] ∧ y0.1 = a0) [blk bky1 _ 141] pc fn91.h (OpVs.cons (OpV.t rfl) (OpVs.nil)) (by exact fun w F hw hM => s_l21Stores_walk w bky1 (a0, y2y0_2, y2y0_3) ((RdX.old h0) w hw) _ hy3) ?_
  refine s1 ?_
  refine Give_R rfl rfl ?_
  rintro _ _ ⟨y3x0, ⟨y3y0_1, y3y0_2, y3y0_3⟩, rfl, rfl, rfl, hey3_0⟩
  obtain rfl : a0 = y3y0_1 := hey3_0.symm
  refine s3 ?_
  refine sc ?_
  replace hp := dd hp
  refine s3 ?_
  obtain rfl := Option.some.inj hp
  refine s1 ?_
  refine res2 rfl (ResOK.cell rfl mm (by exact agg53.h)) (ResOK.tmp rfl) ⟨y2x0, y3x0, rfl, rfl, rfl⟩ ms
noncomputable def w_FnRestore (a0 : List UInt8) : Option Bool :=
  Option.bind (w_big a0) (fun y1 => cond y1 (some true) (Option.bind (s_DrawRestore a0) (fun y3 => Option.bind (i_Restore y3.1 y3.2.1 y3.2.2.1 y3.2.2.2) (fun y4 => Option.bind (s_Restore y3.1 y3.2.1 y3.2.2.1 y3.2.2.2) (fun y5 => cond (((!decide (y4.2 = y5.2)) || (!decide (y4.1 = y5.1))) || ((!decide (y4.2 = 0)) && (!decide (y4.1 = ByteArray.empty)))) (some false) (Option.bind (s_DrawFetch a0) (fun y7 => Option.bind (i_Fetch y7.1 y7.2) (fun y8 => gb (decide (y8.2 = 0)) (s_Short y8.1) (fun y9 => cond ((decide (y8.2 = 0)) && (!decide (y9 = y7.2))) (some false) (cond (decide (y4.2 = 0)) (whileP (fun s12 : ByteArray × Int => cond (decide (s12.2 < (y3.1.length : Int))) (whileP (fun s14 : ByteArray × Int => Option.bind (idx y3.1 s12.2) (fun y15 => cond (decide (s14.2 < (y15.2.length : Int))) (Option.bind (idx y3.1 s12.2) (fun y17 => gb (decide (y17.1 = y3.2.2.1)) (idx y3.1 s12.2) (fun y18 => gb (decide (y17.1 = y3.2.2.1)) (idx y18.2 s14.2) (fun y19 => cond ((decide (y17.1 = y3.2.2.1)) && (decide (y19.1 = y3.2.2.2))) (whileP (fun s21 : ByteArray × Int => Option.bind (idx y3.1 s12.2) (fun y22 => Option.bind (idx y22.2 s14.2) (fun y23 => cond (decide (s21.2 < (y23.2.2.length : Int))) (Option.bind (idx y3.1 s12.2) (fun y25 => Option.bind (idx y25.2 s14.2) (fun y26 => Option.bind (idx y26.2.2 s21.2) (fun y27 => Option.bind (i_Fetch y3.2.1 y27) (fun y28 => Option.bind (catP s21.1 y28.1) (fun y29 => some (.inl ((y29, IntKind.wrap .i64 (s21.2 + 1)))))))))) (Option.map .inr (some (.inl ((s21.1, IntKind.wrap .i64 (s14.2 + 1))))))))) (s14.1, 0)) (some (.inl ((s14.1, IntKind.wrap .i64 (s14.2 + 1))))))))) (Option.map .inr (some (.inl ((s14.1, IntKind.wrap .i64 (s12.2 + 1)))))))) (s12.1, 0)) (Option.map .inr (cond (!decide (s12.1 = y4.1)) (some false) (Option.bind (s_DrawWhole a0) (fun y34 => Option.bind (i_Whole y34.1 y34.2) (fun y35 => Option.bind (s_Whole y34.1 y34.2) (fun y36 => some ((((y35 == y36) && (decide (0 ≤ y8.2))) && (decide (y8.2 ≤ 3))) && (!decide (y8.2 = 1)))))))))) (ByteArray.empty, 0)) (Option.bind (s_DrawWhole a0) (fun y37 => Option.bind (i_Whole y37.1 y37.2) (fun y38 => Option.bind (s_Whole y37.1 y37.2) (fun y39 => some ((((y38 == y39) && (decide (0 ≤ y8.2))) && (decide (y8.2 ≤ 3))) && (!decide (y8.2 = 1)))))))))))))))))
theorem w_FnRestore_walk (w : World) (a0 : TL UInt8) (h0 : GT.rd w [] a0) (hg0 : GT.rd w [] gV0) (r : Bool) (hp : w_FnRestore (GT.dat a0) = some r) : Spec Tryd.prog 11 [(TL.hdr a0)].toArray w [] (IsV (.bool r)) := by
  refine Spec.intro Tryd.func11 rfl Tryd.ntmps11 rfl ?_
  unfold w_FnRestore at hp
  replace hp := dd hp
  refine s8 ?_
  replace hp := ba hp; obtain ⟨y1, hy1, hp⟩ := hp
  refine L_callX rfl fn38.h rfl (by exact fun w hw => w_big_walk w a0 (RdT.now (RdT.old h0) hw) _ hy1) ?_
  refine s1 ?_
  refine kp [0, 24] ?_
  refine W_cond rfl (fun hc2 => ?_) (fun hc2 => ?_)
  · replace hp := cond_t hc2 hp
    refine s4 ?_
    obtain rfl := Option.some.inj hp
    refine s1 ?_
    refine res1 rfl (ResOK.tmp rfl) ⟨rfl, rfl⟩ ms
  · replace hp := cond_f hc2 hp
    refine s4 ?_
    replace hp := ba hp; obtain ⟨y3, hy3, hp⟩ := hp
    refine L_callR rfl fn43.h rfl (by exact fun w hw => s_DrawRestore_walk w a0 (RdT.now (RdT.old h0) hw) _ hy3) ?_
    rintro _ _ ⟨y3x0, y3x1, y3x2, y3x3, rfl, rfl, rfl⟩
    refine sc ?_
    replace hp := dd hp
    refine s5 ?_
    refine al fun bk3 => ?_
    refine s11 ?_
    replace hp := ba hp; obtain ⟨y4, hy4, hp⟩ := hp
    refine L_callR rfl fn34.h rfl (by exact fun w hw => i_Restore_walk w y3x0 y3x1 y3x2 y3x3 (RdT.now (RdT.tree mm) hw) (RdT.now (RdT.tree mm) hw) (RdT.now (RdT.old hg0) hw) _ hy4) ?_
    rintro _ _ ⟨y4x0, y4x1, rfl, rfl, rfl⟩
    refine sc ?_
    replace hp := dd hp
    refine s12 ?_
    replace hp := ba hp; obtain ⟨y5, hy5, hp⟩ := hp
    refine L_callR rfl fn32.h rfl (by exact fun w hw => s_Restore_walk w y3x0 y3x1 y3x2 y3x3 (RdT.now (RdT.tree mm) hw) (RdT.now (RdT.tree mm) hw) _ hy5) ?_
    rintro _ _ ⟨y5x0, y5x1, rfl, rfl, rfl⟩
    refine sc ?_
    replace hp := dd hp
    refine s8 ?_
    refine W_D0 [63] mix (by kernel_rfl) rfl ?_
    refine s20 ?_
    refine s14 ?_
    refine kp [0, 3, 4, 5, 6, 7, 8, 63] ?_
    refine W_cond rfl (fun hc6 => ?_) (fun hc6 => ?_)
    · replace hp := cond_t hc6 hp
      refine s4 ?_
      obtain rfl := Option.some.inj hp
      refine s1 ?_
      refine res1 rfl (ResOK.tmp rfl) ⟨rfl, rfl⟩ ms
    · replace hp := cond_f hc6 hp
      refine s4 ?_
      replace hp := ba hp; obtain ⟨y7, hy7, hp⟩ := hp
      refine L_callR rfl fn44.h rfl (by exact fun w hw => s_DrawFetch_walk w a0 (RdT.now (RdT.old h0) hw) _ hy7) ?_
      rintro _ _ ⟨y7x0, y7x1, rfl, rfl, rfl⟩
      refine sc ?_
      replace hp := dd hp
      refine s10 ?_
      replace hp := ba hp; obtain ⟨y8, hy8, hp⟩ := hp
      refine L_callR rfl fn27.h rfl (by exact fun w hw => i_Fetch_walk w y7x0 y7x1 (RdT.now (RdT.tree mm) hw) (RdT.now (RdT.old hg0) hw) _ hy8) ?_
      rintro _ _ ⟨y8x0, y8x1, rfl, rfl, rfl⟩
      refine sc ?_
      replace hp := dd hp
      refine s8 ?_
      replace hp := gb_any hp; obtain ⟨y9, hy9, hp⟩ := hp
      refine W_D0 [82] mix (by kernel_rfl) rfl ?_
      refine s4 ?_
      refine D_callX (GC.some rfl rfl) fn42.h (OpVs.cons (OpV.s rfl) (OpVs.nil)) (by exact fun hg w F hF hM => s_Short_walk w y8x0  _ (hy9 hg.2)) ?_
      refine s13 ?_
      refine kp [0, 3, 4, 5, 6, 7, 8, 14, 82] ?_
      refine W_cond rfl (fun hc10 => ?_) (fun hc10 => ?_)
      · replace hp := cond_t hc10 hp
        refine s4 ?_
        obtain rfl := Option.some.inj hp
        refine s1 ?_
        refine res1 rfl (ResOK.tmp rfl) ⟨rfl, rfl⟩ ms
      · replace hp := cond_f hc10 hp
        refine s7 ?_
        refine kp [0, 3, 4, 5, 6, 7, 14, 84] ?_
        refine W_cond rfl (fun hc11 => ?_) (fun hc11 => ?_)
        · replace hp := cond_t hc11 hp
          refine s10 ?_
          refine W_while (σ := ByteArray × Int) GT.dat (fun ((v12_0, v12_1) : ByteArray × Int) => [(15, .string v12_0), (16, .int .i64 v12_1)]) (fun ((v12_0, v12_1) : ByteArray × Int) => []) [(0, _), (3, _), (4, _), (5, _), (6, _), (7, _), (14, _)] [blk bk3 _ _, treeH y3x1, treeH y3x0] (ByteArray.empty, 0) hp sb ms ?_
          clear hp
          rintro ⟨v12_0, v12_1⟩ x12 hp hx12
          replace hp := dd hp
          refine kq [0, 3, 4, 5, 6, 7, 14, 15, 16] ?_
          refine s9 ?_
          refine kp [0, 3, 4, 5, 6, 7, 14, 15, 16, 89] ?_
          refine W_cond rfl (fun hc13 => ?_) (fun hc13 => ?_)
          · replace hp := cond_t hc13 hp
            refine s8 ?_
            refine W_while (σ := ByteArray × Int) GT.dat (fun ((v14_0, v14_1) : ByteArray × Int) => [(15, .string v14_0), (17, .int .i64 v14_1)]) (fun ((v14_0, v14_1) : ByteArray × Int) => []) [(0, _), (3, _), (4, _), (5, _), (6, _), (7, _), (14, _), (16, _)] [blk bk3 _ _, treeH y3x1, treeH y3x0] (v12_0, 0) hp sb ms ?_
            clear hp
            rintro ⟨v14_0, v14_1⟩ x14 hp hx14
            replace hp := dd hp
            refine kq [0, 3, 4, 5, 6, 7, 14, 15, 16, 17] ?_
            refine s7 ?_
            replace hp := idx_bind hp; obtain ⟨⟨u15_1, u15_2⟩, hy15, hp⟩ := hp
            refine L_idxA (X := y3x0) rfl rfl rfl el51.h (RdT.tree mm) hy15 ?_
            refine s1 ?_
            refine L_load rfl rfl (RdT.at (RdT.tree mm) (hy15).2) one70.h rfl ?_
            refine s3 ?_
            refine kp [0, 3, 4, 5, 6, 7, 14, 15, 16, 17, 100] ?_
            refine W_cond rfl (fun hc16 => ?_) (fun hc16 => ?_)
            · replace hp := cond_t hc16 hp
              refine s4 ?_
              replace hp := idx_bind hp; obtain ⟨u17, hy17, hp⟩ := hp
              obtain rfl : (u15_1, u15_2) = u17 := Option.some.inj (hy15.2.symm.trans hy17.2)
              replace hp := idx_gb hp; obtain ⟨⟨u18_1, u18_2⟩, hy18, hp⟩ := hp
              replace hp := idx_gb hp; obtain ⟨⟨u19_1, u19_2, u19_3⟩, hy19, hp⟩ := hp
              refine W_D0 [124] mix (by kernel_rfl) rfl ?_
              refine s3 ?_
              refine D_idxA (X := y3x0) GC.none (OpV.t rfl) (OpV.t rfl) el51.h (RdT.tree mm) (fun _ => hy15) ?_
              refine s1 ?_
              refine D_load GC.none (OpV.t rfl) (fun hg => RdT.at (RdT.tree mm) (hy15).2) one9.h rfl ?_
              refine s6 ?_
              refine D_idxA (X := y3x0) (GC.some rfl rfl) (OpV.s rfl) (OpV.s rfl) el51.h (RdT.tree mm) (fun hg => hy18 hg.2) ?_
              refine s1 ?_
              refine D_load (GC.some rfl rfl) (OpV.s rfl) (fun hg => RdT.at (RdT.tree mm) (hy18 hg.2).2) one70.h rfl ?_
              refine s1 ?_
              refine D_idxAg (X := u18_2) (GC.some rfl rfl) (OpV.s rfl) (OpV.s rfl) el70.h (fun hg => (RdT.snd (RdT.of (RdT.tree mm) (hy18 hg.2).2))) (fun hg => hy19 hg.2) ?_
              refine s1 ?_
              refine D_load (GC.some rfl rfl) (OpV.s rfl) (fun hg => RdT.at (RdT.snd (RdT.of (RdT.tree mm) (hy18 hg.2).2)) (hy19 hg.2).2) one9.h rfl ?_
              refine s20 ?_
              refine s7 ?_
              refine kp [0, 3, 4, 5, 6, 7, 14, 15, 16, 17, 124] ?_
              refine W_cond rfl (fun hc20 => ?_) (fun hc20 => ?_)
              · replace hp := cond_t hc20 hp
                refine s5 ?_
                refine W_while (σ := ByteArray × Int) GT.dat (fun ((v21_0, v21_1) : ByteArray × Int) => [(15, .string v21_0), (18, .int .i64 v21_1)]) (fun ((v21_0, v21_1) : ByteArray × Int) => []) [(0, _), (3, _), (4, _), (5, _), (6, _), (7, _), (14, _), (16, _), (17, _)] [blk bk3 _ _, treeH y3x1, treeH y3x0] (v14_0, 0) hp sb ms ?_
                clear hp
                rintro ⟨v21_0, v21_1⟩ x21 hp hx21
                replace hp := dd hp
                refine kq [0, 3, 4, 5, 6, 7, 14, 15, 16, 17, 18] ?_
                refine s7 ?_
                replace hp := idx_bind hp; obtain ⟨u22, hy22, hp⟩ := hp
                obtain rfl : (u15_1, u15_2) = u22 := Option.some.inj (hy15.2.symm.trans hy22.2)
                refine L_idxA (X := y3x0) rfl rfl rfl el51.h (RdT.tree mm) hy15 ?_
                refine s1 ?_
                refine L_load rfl rfl (RdT.at (RdT.tree mm) (hy15).2) one70.h rfl ?_
                refine s1 ?_
                replace hp := idx_bind hp; obtain ⟨⟨u23_1, u23_2, u23_3⟩, hy23, hp⟩ := hp
                refine L_idxA (X := u15_2) rfl rfl rfl el70.h (RdT.snd (RdT.of (RdT.tree mm) (hy15).2)) hy23 ?_
                refine s1 ?_
                refine L_load rfl rfl (RdT.at (RdT.snd (RdT.of (RdT.tree mm) (hy15).2)) (hy23).2) one73.h rfl ?_
                refine s3 ?_
                refine kp [0, 3, 4, 5, 6, 7, 14, 15, 16, 17, 18, 137] ?_
                refine W_cond rfl (fun hc24 => ?_) (fun hc24 => ?_)
                · replace hp := cond_t hc24 hp
                  refine s9 ?_
                  replace hp := idx_bind hp; obtain ⟨u25, hy25, hp⟩ := hp
                  obtain rfl : (u15_1, u15_2) = u25 := Option.some.inj (hy15.2.symm.trans hy25.2)
                  refine L_idxA (X := y3x0) rfl rfl rfl el51.h (RdT.tree mm) hy15 ?_
                  refine s1 ?_
                  refine L_load rfl rfl (RdT.at (RdT.tree mm) (hy15).2) one70.h rfl ?_
                  refine s1 ?_
                  replace hp := idx_bind hp; obtain ⟨u26, hy26, hp⟩ := hp
                  obtain rfl : (u23_1, u23_2, u23_3) = u26 := Option.some.inj (hy23.2.symm.trans hy26.2)
                  refine L_idxA (X := u15_2) rfl rfl rfl el70.h (RdT.snd (RdT.of (RdT.tree mm) (hy15).2)) hy23 ?_
                  refine s1 ?_
                  refine L_load rfl rfl (RdT.at (RdT.snd (RdT.of (RdT.tree mm) (hy15).2)) (hy23).2) one73.h rfl ?_
                  refine s1 ?_
                  replace hp := idx_bind hp; obtain ⟨u27, hy27, hp⟩ := hp
                  refine L_idxA (X := u23_3) rfl rfl rfl el73.h (RdT.snd (RdT.snd (RdT.of (RdT.snd (RdT.of (RdT.tree mm) (hy15).2)) (hy23).2))) hy27 ?_
                  refine L_load0 rfl rfl (RdT.at (RdT.snd (RdT.snd (RdT.of (RdT.snd (RdT.of (RdT.tree mm) (hy15).2)) (hy23).2))) (hy27).2) one9.h rfl ?_
                  replace hp := ba hp; obtain ⟨y28, hy28, hp⟩ := hp
                  refine L_callR rfl fn27.h rfl (by exact fun w hw => i_Fetch_walk w y3x1 u27 (RdT.now (RdT.tree mm) hw) (RdT.now (RdT.old hg0) hw) _ hy28) ?_
                  rintro _ _ ⟨y28x0, y28x1, rfl, rfl, rfl⟩
                  refine sc ?_
                  replace hp := dd hp
                  refine s9 ?_
                  replace hp := ba hp; obtain ⟨y29, hy29, hp⟩ := hp
                  refine L_binV rfl rfl rfl (bv_saddP hy29) ?_
                  refine s7 ?_
                  exact ⟨(y29, IntKind.wrap .i64 (v21_1 + 1)), sb, (.sub ms), some_eq hp⟩
                · replace hp := cond_f hc24 hp
                  refine W_exit ?_
                  replace hp := map_any hp; obtain ⟨a30, hp, hx_a30⟩ := hp
                  obtain rfl := hx21 _ hx_a30
                  refine s5 ?_
                  exact ⟨(v21_0, IntKind.wrap .i64 (v14_1 + 1)), sb, (.sub ms), some_eq hp⟩
              · replace hp := cond_f hc20 hp
                refine s6 ?_
                exact ⟨(v14_0, IntKind.wrap .i64 (v14_1 + 1)), sb, (.sub ms), some_eq hp⟩
            · replace hp := cond_f hc16 hp
              refine W_exit ?_
              replace hp := map_any hp; obtain ⟨a31, hp, hx_a31⟩ := hp
              obtain rfl := hx14 _ hx_a31
              refine s5 ?_
              exact ⟨(v14_0, IntKind.wrap .i64 (v12_1 + 1)), sb, (.sub ms), some_eq hp⟩
          · replace hp := cond_f hc13 hp
            refine W_exit ?_
            replace hp := map_any hp; obtain ⟨a32, hp, hx_a32⟩ := hp
            obtain rfl := hx12 _ hx_a32
            refine s6 ?_
            refine kp [0, 14, 163] ?_
            refine W_cond rfl (fun hc33 => ?_) (fun hc33 => ?_)
            · replace hp := cond_t hc33 hp
              refine s4 ?_
              obtain rfl := Option.some.inj hp
              refine s1 ?_
              refine res1 rfl (ResOK.tmp rfl) ⟨rfl, rfl⟩ ms
            · replace hp := cond_f hc33 hp
              refine s4 ?_
              replace hp := ba hp; obtain ⟨y34, hy34, hp⟩ := hp
              refine L_callR rfl fn45.h rfl (by exact fun w hw => s_DrawWhole_walk w a0 (RdT.now (RdT.old h0) hw) _ hy34) ?_
              rintro _ _ ⟨y34x0, y34x1, rfl, rfl, rfl⟩
              refine sc ?_
              replace hp := dd hp
              refine s3 ?_
              refine al fun bk21 => ?_
              refine s4 ?_
              replace hp := ba hp; obtain ⟨y35, hy35, hp⟩ := hp
              replace hp := ba hp; obtain ⟨y36, hy36, hp⟩ := hp
              refine W_D0 [2] mix (by kernel_rfl) rfl ?_
              refine s2 ?_
              refine D_callX GC.none fn37.h (OpVs.cons (OpV.t rfl) (OpVs.cons (OpV.t rfl) (OpVs.nil))) (by exact fun hg w F hF hM => i_Whole_walk w y34x0 y34x1 (RdT.nowS (RdT.tree mm) hF hM) (RdT.nowS (RdT.tree mm) hF hM) (RdT.nowS (RdT.old hg0) hF hM) _ hy35) ?_
              refine s2 ?_
              refine D_callX GC.none fn36.h (OpVs.cons (OpV.t rfl) (OpVs.cons (OpV.t rfl) (OpVs.nil))) (by exact fun hg w F hF hM => s_Whole_walk w y34x0 y34x1 (RdT.nowS (RdT.tree mm) hF hM) (RdT.nowS (RdT.tree mm) hF hM) _ hy36) ?_
              refine s20 ?_
              refine s16 ?_
              obtain rfl := Option.some.inj hp
              refine s1 ?_
              refine res1 rfl (ResOK.tmp rfl) ⟨rfl, rfl⟩ ms
        · replace hp := cond_f hc11 hp
          refine s4 ?_
          replace hp := ba hp; obtain ⟨y37, hy37, hp⟩ := hp
          refine L_callR rfl fn45.h rfl (by exact fun w hw => s_DrawWhole_walk w a0 (RdT.now (RdT.old h0) hw) _ hy37) ?_
          rintro _ _ ⟨y37x0, y37x1, rfl, rfl, rfl⟩
          refine sc ?_
          replace hp := dd hp
          refine s3 ?_
          refine al fun bk21 => ?_
          refine s4 ?_
          replace hp := ba hp; obtain ⟨y38, hy38, hp⟩ := hp
          replace hp := ba hp; obtain ⟨y39, hy39, hp⟩ := hp
          refine W_D0 [2] mix (by kernel_rfl) rfl ?_
          refine s2 ?_
          refine D_callX GC.none fn37.h (OpVs.cons (OpV.t rfl) (OpVs.cons (OpV.t rfl) (OpVs.nil))) (by exact fun hg w F hF hM => i_Whole_walk w y37x0 y37x1 (RdT.nowS (RdT.tree mm) hF hM) (RdT.nowS (RdT.tree mm) hF hM) (RdT.nowS (RdT.old hg0) hF hM) _ hy38) ?_
          refine s2 ?_
          refine D_callX GC.none fn36.h (OpVs.cons (OpV.t rfl) (OpVs.cons (OpV.t rfl) (OpVs.nil))) (by exact fun hg w F hF hM => s_Whole_walk w y37x0 y37x1 (RdT.nowS (RdT.tree mm) hF hM) (RdT.nowS (RdT.tree mm) hF hM) _ hy39) ?_
          refine s20 ?_
          refine s16 ?_
          obtain rfl := Option.some.inj hp
          refine s1 ?_
          refine res1 rfl (ResOK.tmp rfl) ⟨rfl, rfl⟩ ms
end Go.Proofs.SL
namespace Go.Proofs.SL
open Go
/-- Byte k of a text is a small letter. -/
def letter (s : ByteArray) (k : Nat) : Bool := match sidx s (k : Int) with
  | some n => !(decide (n < 97) || decide (122 < n))
  | none => false
def isWordB (s : ByteArray) : Bool := decide (1 ≤ (s.size : Int) ∧ (s.size : Int) ≤ 8) && (List.range s.size).all (letter s)
theorem word_loop {β : Type} {s : ByteArray} {no yes : Option β} {f : Int → Option (Int ⊕ β)} (hl : s.size ≤ 9223372036854775807)
    (hf : ∀ (k : Nat) (n : Int), k < s.size → sidx s (k : Int) = some n → f (k : Int) = if !(decide (n < 97) || decide (122 < n)) then some (.inl (IntKind.wrap .i64 ((k : Int) + 1))) else no.map .inr) (hn : f (s.size : Int) = yes.map .inr) :
    whileP f 0 = if (List.range s.size).all (letter s) then yes else no := by
  refine whileP_all (letter s) no yes (fun k hk => ?_) hn
  obtain ⟨n, hs, _, _⟩ := sidx_lt hk
  rw [hf k n hk hs, wrap_succ (by omega)]
  unfold letter
  rw [hs]
theorem s_l4Word_eq {s : ByteArray} (hl : s.size ≤ 9223372036854775807) : s_l4Word s = some (isWordB s) := by
  unfold s_l4Word isWordB
  rw [l1In_eq]
  cases h : decide (1 ≤ (s.size : Int) ∧ (s.size : Int) ≤ 8) with
  | false => rfl
  | true =>
    simp only [Option.bind_some, Bool.not_true, cond_false, Bool.true_and]
    rw [word_loop (no := some false) (yes := some true) hl]
    · cases (List.range s.size).all (letter s) <;> rfl
    · intro k n hk hs
      simp only [lt_dec hk, cond_true, hs, Option.bind_some]
      rw [show ∀ (g : Bool) (q : Int → Option (Int ⊕ Bool)), gb g (some n) q = if g then q n else q default from fun g q => by cases g <;> rfl]
      cases decide (n < 97) <;> cases decide (122 < n) <;> rfl
    · simp only [ge_dec]; rfl
theorem i_isWord_eq {s : ByteArray} (hl : s.size ≤ 9223372036854775807) : i_isWord s = some (isWordB s) := by
  unfold i_isWord isWordB
  simp only [within_eq, Option.bind_some]
  rw [word_loop (no := some false) (yes := some (decide (1 ≤ (s.size : Int) ∧ (s.size : Int) ≤ 8))) hl]
  · cases (List.range s.size).all (letter s) <;> simp
  · intro k n hk hs
    simp only [lt_dec hk, cond_true, hs, Option.bind_some]
    rw [show ∀ (g : Bool) (q : Int → Option (Int ⊕ Bool)), gb g (some n) q = if g then q n else q default from fun g q => by cases g <;> rfl]
    cases decide (n < 97) <;> cases decide (122 < n) <;> rfl
  · simp only [ge_dec]; rfl
def areChunksB (l : List ByteArray) : Bool := l.all fun c => decide ((c.size : Int) = 8)
theorem i_areChunks_eq {l : List ByteArray} (hl : l.length ≤ 9223372036854775807) : i_areChunks l = some (areChunksB l) := by
  unfold i_areChunks areChunksB
  rw [each_loop (p := fun c => decide ((c.size : Int) = 8)) (no := some false) (yes := some true) hl]
  · cases l.all _ <;> rfl
  · intro k x hx
    simp only [lt_dec (List.getElem?_eq_some_iff.1 hx).1, cond_true, idx_nat, hx, Option.bind_some]
    cases decide ((x.size : Int) = 8) <;> rfl
  · simp only [ge_dec]; rfl
end Go.Proofs.SL
namespace Go.Proofs.SL
open Go
def wordIfB (s : ByteArray) (is : Bool) : Bool := if is then isWordB s else decide (s = ByteArray.empty)
theorem s_l4May_eq {s : ByteArray} {b : Bool} (hl : s.size ≤ 9223372036854775807) : s_l4May s b = some (wordIfB s b) := by
  unfold s_l4May wordIfB
  rw [s_l4Word_eq hl]
  cases b <;> rfl
theorem s_l4Texts_eq {a b : List ByteArray} (hl : a.length ≤ 9223372036854775807) : s_l4Texts a b = some (decide (a = b)) := by
  unfold s_l4Texts
  by_cases h : a.length = b.length
  · rw [show decide ((a.length : Int) = (b.length : Int)) = true by simp; omega]
    simp only [Bool.not_true, cond_false]
    rw [whileP_all (n := a.length) (fun k => decide (a[k]? = b[k]?)) (some false) (some true)]
    · by_cases e : a = b
      · subst e; simp
      · rw [decide_eq_false e]
        have : (List.range a.length).all (fun k => decide (a[k]? = b[k]?)) = false := by
          rw [Bool.eq_false_iff]
          intro hh
          refine e (List.ext_getElem? fun i => ?_)
          by_cases hi : i < a.length
          · simpa using List.all_eq_true.1 hh i (List.mem_range.2 hi)
          · rw [List.getElem?_eq_none (by omega), List.getElem?_eq_none (by omega)]
        rw [this]; rfl
    · intro k hk
      have h1 : a[k]? = some a[k] := List.getElem?_eq_getElem hk
      have h2 : b[k]? = some (b[k]'(by omega)) := List.getElem?_eq_getElem (by omega)
      simp only [lt_dec hk, cond_true, idx_nat, h1, h2, Option.bind_some, wrap_succ (show k < 9223372036854775807 by omega), Option.some.injEq]
      cases decide (a[k] = b[k]'(by omega)) <;> rfl
    · simp only [ge_dec]; rfl
  · rw [show decide ((a.length : Int) = (b.length : Int)) = false by simp; omega, decide_eq_false (fun e => h (by rw [e]))]; rfl
theorem s_SameCmd_eq {a b : D_Cmd} (ho : Ok.ok a) : s_SameCmd a b = some (pB (a = b)) := by
  obtain ⟨a1, a2, a3, a4, a5, a6, a7, a8⟩ := a
  obtain ⟨b1, b2, b3, b4, b5, b6, b7, b8⟩ := b
  have hl : a8.length ≤ 9223372036854775807 := ho.2.2.2.2.2.2.2.1
  unfold s_SameCmd
  rw [s_l4Texts_eq hl, gb_some (fun h => by rw [h]; simp)]
  congr 1
  rw [Bool.eq_iff_iff, pB_iff]
  simp [and_assoc]
def noCmd : D_Cmd := (0, 0, 0, ByteArray.empty, ByteArray.empty, ByteArray.empty, 0, [])
noncomputable def cmdOkB (c : D_Cmd) : Bool :=
  if c.1 = 0 then pB (c = noCmd) else
    decide (1 ≤ c.1 ∧ c.1 ≤ 7) && decide (1 ≤ c.2.1 ∧ c.2.1 ≤ 9) && decide (1 ≤ c.2.2.1 ∧ c.2.2.1 ≤ 1000) && wordIfB c.2.2.2.1 (!decide (c.1 = 7)) && wordIfB c.2.2.2.2.1 (decide (c.1 = 3) || decide (c.1 = 4)) && wordIfB c.2.2.2.2.2.1 (decide (c.1 = 4)) &&
    (decide (c.2.2.2.2.2.2.1 = 0) || (decide (c.1 = 5) && decide (0 ≤ c.2.2.2.2.2.2.1 ∧ c.2.2.2.2.2.2.1 ≤ 9))) && (if c.1 = 3 then decide (1 ≤ (c.2.2.2.2.2.2.2.length : Int) ∧ (c.2.2.2.2.2.2.2.length : Int) ≤ 4) && areChunksB c.2.2.2.2.2.2.2 else decide ((c.2.2.2.2.2.2.2.length : Int) = 0))
set_option maxHeartbeats 1000000 in
theorem s_CmdOk_eq {c : D_Cmd} (ho : Ok.ok c) : s_CmdOk c = some (cmdOkB c) := by
  have hl : c.2.2.2.2.2.2.2.length ≤ 9223372036854775807 := ho.2.2.2.2.2.2.2.1
  have h4 : c.2.2.2.1.size ≤ 9223372036854775807 := ho.2.2.2.1
  have h5 : c.2.2.2.2.1.size ≤ 9223372036854775807 := ho.2.2.2.2.1
  have h6 : c.2.2.2.2.2.1.size ≤ 9223372036854775807 := ho.2.2.2.2.2.1
  unfold s_CmdOk cmdOkB
  simp only [s_SameCmd_eq ho, l1In_eq, s_l4May_eq h4, s_l4May_eq h5, s_l4May_eq h6, Option.bind_some, gbs]
  rw [each_loop (p := fun c => decide ((c.size : Int) = 8)) (no := some false) (yes := some true) hl]
  rotate_left
  · intro k x hx
    simp only [lt_dec (List.getElem?_eq_some_iff.1 hx).1, cond_true, idx_nat, hx, Option.bind_some]
    cases decide ((x.size : Int) = 8) <;> rfl
  · simp only [ge_dec]; rfl
  by_cases h0 : c.1 = 0
  · rw [if_pos h0, decide_eq_true h0, decide_eq_true (show 0 ≤ c.1 ∧ c.1 ≤ 7 by omega)]; rfl
  · rw [if_neg h0, decide_eq_false h0]
    have e7 : decide (0 ≤ c.1 ∧ c.1 ≤ 7) = decide (1 ≤ c.1 ∧ c.1 ≤ 7) := by rw [Bool.eq_iff_iff]; simp; omega
    rw [e7]
    show _ = some (_ && (if c.1 = 3 then _ && c.2.2.2.2.2.2.2.all (fun c => decide ((c.size : Int) = 8)) else _))
    generalize wordIfB c.2.2.2.1 _ = W1
    generalize wordIfB c.2.2.2.2.1 _ = W2
    generalize wordIfB c.2.2.2.2.2.1 _ = W3
    generalize c.2.2.2.2.2.2.2.all _ = W4
    by_cases h5 : c.1 = 5
    · simp only [h5]
      cases decide (1 ≤ c.2.1 ∧ c.2.1 ≤ 9) <;> cases decide (1 ≤ c.2.2.1 ∧ c.2.2.1 ≤ 1000) <;> cases W1 <;> cases W2 <;> cases W3 <;> cases decide (c.2.2.2.2.2.2.1 = 0) <;> cases decide (0 ≤ c.2.2.2.2.2.2.1 ∧ c.2.2.2.2.2.2.1 ≤ 9) <;> simp
    · by_cases h3 : c.1 = 3
      · simp only [h3]
        cases decide (1 ≤ c.2.1 ∧ c.2.1 ≤ 9) <;> cases decide (1 ≤ c.2.2.1 ∧ c.2.2.1 ≤ 1000) <;> cases W1 <;> cases W2 <;> cases W3 <;> cases decide (c.2.2.2.2.2.2.1 = 0) <;> cases decide (1 ≤ (c.2.2.2.2.2.2.2.length : Int) ∧ (c.2.2.2.2.2.2.2.length : Int) ≤ 4) <;> cases W4 <;> simp
      · rw [decide_eq_false h5, decide_eq_false h3, if_neg h3]
        cases decide (1 ≤ c.1 ∧ c.1 ≤ 7) <;> cases decide (1 ≤ c.2.1 ∧ c.2.1 ≤ 9) <;> cases decide (1 ≤ c.2.2.1 ∧ c.2.2.1 ≤ 1000) <;> cases W1 <;> cases W2 <;> cases W3 <;> cases decide (c.2.2.2.2.2.2.1 = 0) <;> simp
end Go.Proofs.SL
namespace Go.Proofs.SL
open Go
end Go.Proofs.SL
namespace Go.Proofs.SL
open Go
def snapOkB (p : D_CSnap) : Bool := isWordB p.1 && (decide (p.2.1 = ByteArray.empty) || isWordB p.2.1) && decide (1 ≤ (p.2.2.length : Int) ∧ (p.2.2.length : Int) ≤ 4) && areChunksB p.2.2
def snapAt (s : D_CSet) (k : Nat) : Bool := match s.2[k]? with
  | none => false
  | some p => snapOkB p && decide (firstI (fun q : D_CSnap => decide (q.1 = p.1)) s.2 = (k : Int))
def setOkB (s : D_CSet) : Bool := isWordB s.1 && decide (s.2.length ≤ 5) && (List.range s.2.length).all (snapAt s)
def setAt (c : D_Catalog) (k : Nat) : Bool := match c[k]? with
  | none => false
  | some s => setOkB s && (decide (k = 0) || (c[k - 1]?).all fun r => sLt r.1 s.1)
def catOkB (c : D_Catalog) : Bool := decide (c.length ≤ 5) && (List.range c.length).all (setAt c)
theorem s_l15Snap_eq {p : D_CSnap} (ho : Ok.ok p) : s_l15Snap p = some (snapOkB p) := by
  have h1 : p.1.size ≤ 9223372036854775807 := ho.1
  have h2 : p.2.1.size ≤ 9223372036854775807 := ho.2.1
  have h3 : p.2.2.length ≤ 9223372036854775807 := ho.2.2.1
  unfold s_l15Snap snapOkB areChunksB
  rw [each_loop (p := fun c => decide ((c.size : Int) = 8)) (no := some false) (yes := some true) h3]
  · simp only [s_l4Word_eq h1, s_l4Word_eq h2, l1In_eq, Option.bind_some, gbs]
    cases isWordB p.1 <;> cases decide (p.2.1 = ByteArray.empty) <;> cases isWordB p.2.1 <;> cases decide (1 ≤ (p.2.2.length : Int) ∧ (p.2.2.length : Int) ≤ 4) <;> cases (p.2.2.all fun c => decide ((c.size : Int) = 8)) <;> rfl
  · intro k x hx
    simp only [lt_dec (List.getElem?_eq_some_iff.1 hx).1, cond_true, idx_nat, hx, Option.bind_some]
    cases decide ((x.size : Int) = 8) <;> rfl
  · simp only [ge_dec]; rfl
theorem s_l15Find_eq {s : D_CSet} {n : ByteArray} (h : s.2.length ≤ 9223372036854775807) : s_l15Find s n = some (firstI (fun q : D_CSnap => decide (q.1 = n)) s.2) := by
  unfold s_l15Find
  rw [whileP_find (fun q : D_CSnap => decide (q.1 = n)) some h]
  · intro k x hx
    simp only [lt_dec (List.getElem?_eq_some_iff.1 hx).1, cond_true, idx_nat, hx, Option.bind_some]
    cases decide (x.1 = n) <;> rfl
  · simp only [ge_dec]; rfl
theorem i_CSet_snap_eq {s : D_CSet} {n : ByteArray} (h : s.2.length ≤ 9223372036854775807) : i_CSet_snap s n = some (firstI (fun q : D_CSnap => decide (q.1 = n)) s.2) := by
  unfold i_CSet_snap sl_IndexFunc_implCSnapimplCSnap i_CSet_snap_c1
  rw [whileP_find (fun q : D_CSnap => decide (q.1 = n)) some h]
  · rfl
  · intro k x hx
    simp only [lt_dec (List.getElem?_eq_some_iff.1 hx).1, cond_true, idx_nat, hx, Option.bind_some]
    cases decide (x.1 = n) <;> rfl
  · simp only [ge_dec]; rfl
theorem i_setOk_eq {s : D_CSet} (ho : Ok.ok s) : i_setOk s = some (setOkB s) := by
  have h1 : s.1.size ≤ 9223372036854775807 := ho.1
  have h2 : s.2.length ≤ 9223372036854775807 := ho.2.1
  unfold i_setOk setOkB
  rw [whileP_all (n := s.2.length) (snapAt s) (some false) (some (isWordB s.1 && decide (s.2.length ≤ 5)))]
  · cases isWordB s.1 <;> cases decide (s.2.length ≤ 5) <;> cases (List.range s.2.length).all (snapAt s) <;> rfl
  · intro k hk
    have hx : s.2[k]? = some s.2[k] := List.getElem?_eq_getElem hk
    generalize s.2[k] = p at hx
    have hp : Ok.ok p := ho.2.2 p (List.mem_of_getElem? hx)
    have h3 : p.1.size ≤ 9223372036854775807 := hp.1
    have h4 : p.2.1.size ≤ 9223372036854775807 := hp.2.1
    have h5 : p.2.2.length ≤ 9223372036854775807 := hp.2.2.1
    simp only [lt_dec hk, cond_true, idx_nat, hx, Option.bind_some, i_isWord_eq h3, i_isWord_eq h4, within_eq, i_areChunks_eq h5, i_CSet_snap_eq (s := (s.1, s.2)) h2, gbs, wrap_succ (show k < 9223372036854775807 by omega)]
    unfold snapAt snapOkB
    simp only [hx]
    cases isWordB p.1 <;> cases decide (p.2.1 = ByteArray.empty) <;> cases isWordB p.2.1 <;> cases decide (1 ≤ (p.2.2.length : Int) ∧ (p.2.2.length : Int) ≤ 4) <;> cases areChunksB p.2.2 <;> cases decide (firstI (fun q : D_CSnap => decide (q.1 = p.1)) s.2 = (k : Int)) <;> simp
  · have h9 : decide ((s.2.length : Int) ≤ 5) = decide (s.2.length ≤ 5) := by rw [Bool.eq_iff_iff]; simp; omega
    simp only [ge_dec, cond_false, i_isWord_eq h1, Option.bind_some, h9]
theorem i_CatOk_eq {c : D_Catalog} (ho : Ok.ok c) : i_CatOk c = some (catOkB c) := by
  have hl : c.length ≤ 9223372036854775807 := ho.1
  unfold i_CatOk catOkB
  rw [whileP_all (n := c.length) (setAt c) (some false) (some (decide (c.length ≤ 5)))]
  · cases decide (c.length ≤ 5) <;> cases (List.range c.length).all (setAt c) <;> rfl
  · intro k hk
    have hx : c[k]? = some c[k] := List.getElem?_eq_getElem hk
    generalize c[k] = s at hx
    have hs : Ok.ok s := ho.2 s (List.mem_of_getElem? hx)
    simp only [lt_dec hk, cond_true, idx_nat, hx, Option.bind_some, Prod.eta, i_setOk_eq hs, wrap_succ (show k < 9223372036854775807 by omega)]
    unfold setAt
    simp only [hx]
    rcases Nat.eq_zero_or_pos k with h0 | h0
    · subst h0
      rw [gb_none _ _ _ (by simp)]
      cases setOkB s <;> simp
    · obtain ⟨r, hr1, hr2⟩ := prev_idx' hk hl h0
      have h5 : decide (0 < (k : Int)) = true := by simp; omega
      have h6 : decide (k = 0) = false := by simp; omega
      rw [hr1, hr2, h5, h6, gbs]
      simp only [Option.all_some]
      by_cases h7 : sLt r.1 s.1 = true <;> cases setOkB s <;> simp [h7]
  · have h9 : decide ((c.length : Int) ≤ 5) = decide (c.length ≤ 5) := by rw [Bool.eq_iff_iff]; simp; omega
    simp only [ge_dec, cond_false, h9]
theorem s_CatOk_eq {c : D_Catalog} (ho : Ok.ok c) : s_CatOk c = some (catOkB c) := by
  have hl : c.length ≤ 9223372036854775807 := ho.1
  unfold s_CatOk catOkB
  have h9 : decide (5 < (c.length : Int)) = !decide (c.length ≤ 5) := by rw [Bool.eq_iff_iff]; simp; omega
  rw [whileP_all (n := c.length) (setAt c) (some false) (some true), h9]
  · cases decide (c.length ≤ 5) <;> cases (List.range c.length).all (setAt c) <;> rfl
  · intro k hk
    have hx : c[k]? = some c[k] := List.getElem?_eq_getElem hk
    generalize c[k] = s at hx
    have hs : Ok.ok s := ho.2 s (List.mem_of_getElem? hx)
    have h1 : s.1.size ≤ 9223372036854775807 := hs.1
    have h2 : s.2.length ≤ 9223372036854775807 := hs.2.1
    simp only [lt_dec hk, cond_true, idx_nat, hx, Option.bind_some, Prod.eta, s_l4Word_eq h1]
    rw [whileP_all (n := s.2.length) (snapAt s) (some (.inr false)) (some (.inl ((k + 1 : Nat) : Int)))]
    · have h10 : decide (5 < (s.2.length : Int)) = !decide (s.2.length ≤ 5) := by rw [Bool.eq_iff_iff]; simp; omega
      unfold setAt setOkB
      simp only [hx, h10]
      rcases Nat.eq_zero_or_pos k with h0 | h0
      · subst h0
        rw [gb_none _ _ _ (by simp)]
        cases isWordB s.1 <;> cases decide (s.2.length ≤ 5) <;> cases (List.range s.2.length).all (snapAt s) <;> simp
      · obtain ⟨r, hr1, hr2⟩ := prev_idx' hk hl h0
        have h5 : decide (0 < (k : Int)) = true := by simp; omega
        have h6 : decide (k = 0) = false := by simp; omega
        rw [hr1, hr2, h5, h6, gbs]
        simp only [Option.all_some]
        by_cases h7 : sLt r.1 s.1 = true <;> cases isWordB s.1 <;> cases decide (s.2.length ≤ 5) <;> cases (List.range s.2.length).all (snapAt s) <;> simp [h7]
    · intro j hj
      have hy : s.2[j]? = some s.2[j] := List.getElem?_eq_getElem hj
      generalize s.2[j] = p at hy
      have hp : Ok.ok p := hs.2.2 p (List.mem_of_getElem? hy)
      simp only [lt_dec hj, cond_true, idx_nat, hy, Option.bind_some, Prod.eta, s_l15Snap_eq hp, gbs, wrap_succ (show j < 9223372036854775807 by omega)]
      unfold snapAt
      simp only [hy]
      cases snapOkB p with
      | false => rfl
      | true =>
        simp only [Bool.not_true, Bool.not_false, if_true, gb, Option.bind_some, s_l15Find_eq h2, Bool.true_and, Bool.false_or]
        cases decide (firstI (fun q : D_CSnap => decide (q.1 = p.1)) s.2 = (j : Int)) <;> rfl
    · simp only [ge_dec, cond_false, wrap_succ (show k < 9223372036854775807 by omega)]
  · simp only [ge_dec]; rfl
/-- What a right catalog holds. -/
theorem catOk_facts {c : D_Catalog} (h : catOkB c = true) : c.length ≤ 5 ∧ ∀ s, s ∈ c → s.2.length ≤ 5 ∧ ∀ p, p ∈ s.2 → p.2.2.length ≤ 4 ∧ ∀ x, x ∈ p.2.2 → x.size = 8 := by
  unfold catOkB at h
  simp only [Bool.and_eq_true, decide_eq_true_eq, List.all_eq_true, List.mem_range] at h
  refine ⟨h.1, fun s hs => ?_⟩
  obtain ⟨k, hk⟩ := List.getElem?_of_mem hs
  have h1 := h.2 k (List.getElem?_eq_some_iff.1 hk).1
  unfold setAt at h1
  rw [hk] at h1
  simp only [Bool.and_eq_true] at h1
  have h2 := h1.1
  unfold setOkB at h2
  simp only [Bool.and_eq_true, decide_eq_true_eq, List.all_eq_true, List.mem_range] at h2
  refine ⟨h2.1.2, fun p hp => ?_⟩
  obtain ⟨j, hj⟩ := List.getElem?_of_mem hp
  have h3 := h2.2 j (List.getElem?_eq_some_iff.1 hj).1
  unfold snapAt at h3
  rw [hj] at h3
  simp only [Bool.and_eq_true] at h3
  have h4 := h3.1
  unfold snapOkB areChunksB at h4
  simp only [Bool.and_eq_true, decide_eq_true_eq, List.all_eq_true] at h4
  exact ⟨by omega, fun x hx => by have := h4.2 x hx; omega⟩
end Go.Proofs.SL
namespace Go.Proofs.SL
open Go
theorem firstI_any {α : Type} (p : α → Bool) (l : List α) : decide (0 ≤ firstI p l) = l.any p := by
  rcases firstI_find p l with ⟨h1, h2⟩ | ⟨k, x, h1, h2, h3, _⟩
  · rw [h1]
    cases h : l.any p with
    | false => rfl
    | true =>
      obtain ⟨x, hx, hp⟩ := List.any_eq_true.1 h
      exact absurd hp (List.find?_eq_none.1 h2 x hx)
  · rw [h1, show decide (0 ≤ (k : Int)) = true by simp]
    symm
    exact List.any_eq_true.2 ⟨x, List.mem_of_getElem? h2, List.find?_some h3⟩
end Go.Proofs.SL
namespace Go.Proofs.SL
open Go
theorem loop_pass {α β τ σ : Type} {f : σ → Option (σ ⊕ α)} {l : List β} (mk : Nat → τ → σ) (h : τ → β → τ) (g : τ → Option α) (I : Nat → τ → Prop) (t0 : τ) {s0 : σ} (h0 : mk 0 t0 = s0) (hI : I 0 t0)
    (hs : ∀ k t x, l[k]? = some x → I k t → f (mk k t) = some (.inl (mk (k + 1) (h t x))) ∧ I (k + 1) (h t x)) (he : ∀ t, I l.length t → f (mk l.length t) = (g t).map .inr) : whileP f s0 = g (l.foldl h t0) := by
  rw [whileP_for (l := l) mk (fun t x => .inl (h t x)) g I t0 h0 hI (fun k t x hx hi => .inl ⟨_, rfl, hs k t x hx hi⟩) he, goE_fold]
/-! Names -/
theorem word_size {s : ByteArray} (h : isWordB s = true) : s.size ≤ 8 := by
  unfold isWordB at h
  simp only [Bool.and_eq_true, decide_eq_true_eq] at h
  omega
structure CBnd (c : D_Catalog) : Prop where
  len : c.length ≤ 6
  name : ∀ s, s ∈ c → s.1.size ≤ 8
  snaps : ∀ s, s ∈ c → s.2.length ≤ 6
  snap : ∀ s, s ∈ c → ∀ p, p ∈ s.2 → p.1.size ≤ 8 ∧ p.2.1.size ≤ 8 ∧ p.2.2.length ≤ 4 ∧ ∀ x, x ∈ p.2.2 → x.size ≤ 8
theorem CBnd.ok {c : D_Catalog} (h : CBnd c) : Ok.ok c :=
  ⟨by have := h.len; omega, fun s hs => ⟨by have := h.name s hs; show s.1.size ≤ _; omega, by have := h.snaps s hs; omega, fun p hp => by
    obtain ⟨h1, h2, h3, h4⟩ := h.snap s hs p hp
    exact ⟨by show p.1.size ≤ _; omega, by show p.2.1.size ≤ _; omega, by omega, fun x hx => by have := h4 x hx; show x.size ≤ _; omega⟩⟩⟩
theorem catOk_bnd {c : D_Catalog} (h : catOkB c = true) : CBnd c ∧ c.length ≤ 5 ∧ ∀ s, s ∈ c → s.2.length ≤ 5 := by
  have h0 := catOk_facts h
  unfold catOkB at h
  simp only [Bool.and_eq_true, decide_eq_true_eq, List.all_eq_true, List.mem_range] at h
  have hset : ∀ s, s ∈ c → setOkB s = true := fun s hs => by
    obtain ⟨k, hk⟩ := List.getElem?_of_mem hs
    have h1 := h.2 k (List.getElem?_eq_some_iff.1 hk).1
    unfold setAt at h1
    rw [hk] at h1
    simp only [Bool.and_eq_true] at h1
    exact h1.1
  refine ⟨⟨by omega, fun s hs => ?_, fun s hs => by have := (h0.2 s hs).1; omega, fun s hs p hp => ?_⟩, h0.1, fun s hs => (h0.2 s hs).1⟩
  · have h2 := hset s hs
    unfold setOkB at h2
    simp only [Bool.and_eq_true] at h2
    exact word_size h2.1.1
  · have h2 := hset s hs
    unfold setOkB at h2
    simp only [Bool.and_eq_true, decide_eq_true_eq, List.all_eq_true, List.mem_range] at h2
    obtain ⟨j, hj⟩ := List.getElem?_of_mem hp
    have h3 := h2.2 j (List.getElem?_eq_some_iff.1 hj).1
    unfold snapAt at h3
    rw [hj] at h3
    simp only [Bool.and_eq_true] at h3
    have h4 := h3.1
    unfold snapOkB areChunksB at h4
    simp only [Bool.and_eq_true, Bool.or_eq_true, decide_eq_true_eq, List.all_eq_true] at h4
    refine ⟨word_size h4.1.1.1, ?_, by omega, fun x hx => by have := h4.2 x hx; omega⟩
    rcases h4.1.1.2 with h5 | h5
    · rw [h5]; decide
    · exact word_size h5
/-! A copy -/
theorem s_l15Copy_eq {c : D_Catalog} (h : CBnd c) : s_l15Copy c = some c := by
  have hlen := h.len
  unfold s_l15Copy
  rw [loop_pass (l := c) (fun k (t : List D_CSet) => ((k : Int), t)) (fun t x => t ++ [x]) (fun t => some t) (fun k t => t.length ≤ k) [] (s0 := (0, [])) rfl (Nat.le_refl _)]
  · have : ∀ (xs acc : List D_CSet), xs.foldl (fun t x => t ++ [x]) acc = acc ++ xs := fun xs => by
      induction xs with
      | nil => intro acc; simp
      | cons x xs ih => intro acc; rw [List.foldl_cons, ih]; simp
    rw [this, List.nil_append]
  · intro k t s hs ht
    have hk := (List.getElem?_eq_some_iff.1 hs).1
    have hmem := List.mem_of_getElem? hs
    have hsl := h.snaps s hmem
    refine ⟨?_, by simp; omega⟩
    simp only [lt_dec hk, cond_true, idx_nat, hs, Option.bind_some]
    rw [loop_pass (l := s.2) (fun j (t : List D_CSnap) => ((j : Int), t)) (fun t x => t ++ [x]) (fun u => Option.bind (appP t [(s.1, u)]) fun y17 => some (.inl (IntKind.wrap .i64 ((k : Int) + 1), y17))) (fun k t => t.length ≤ k) [] (s0 := (0, [])) rfl (Nat.le_refl _)]
    · have : ∀ (xs acc : List D_CSnap), xs.foldl (fun t x => t ++ [x]) acc = acc ++ xs := fun xs => by
        induction xs with
        | nil => intro acc; simp
        | cons x xs ih => intro acc; rw [List.foldl_cons, ih]; simp
      rw [this, List.nil_append, appP_ok (by simp; omega), Option.bind_some, wrap_succ (by omega)]
    · intro j u p hp hu
      have hj := (List.getElem?_eq_some_iff.1 hp).1
      obtain ⟨_, _, h3, _⟩ := h.snap s hmem p (List.mem_of_getElem? hp)
      refine ⟨?_, by simp; omega⟩
      simp only [lt_dec hj, cond_true, idx_nat, hp, Option.bind_some]
      rw [appP_ok (by simp; omega), Option.bind_some, List.nil_append, appP_ok (by simp; omega), Option.bind_some, wrap_succ (by omega)]
    · intro u hu
      simp only [ge_dec, cond_false]
  · intro t ht
    simp only [ge_dec, cond_false]
/-! A new set -/
def gtN (s : D_CSet) (n : ByteArray) : Bool := !sLt s.1 n && !decide (s.1 = n)
def insSet (n : ByteArray) : List D_CSet → List D_CSet
  | [] => [(n, [])]
  | s :: r => if gtN s n then (n, []) :: s :: r else s :: insSet n r
def stepC (n : ByteArray) (t : List D_CSet × Bool) (s : D_CSet) : List D_CSet × Bool :=
  if !t.2 && gtN s n then (t.1 ++ [(n, [])] ++ [s], true) else (t.1 ++ [s], t.2)
theorem stepC_true (n : ByteArray) : ∀ (ys acc : List D_CSet), ys.foldl (stepC n) (acc, true) = (acc ++ ys, true)
  | [], acc => by simp
  | y :: ys, acc => by
    rw [List.foldl_cons, show stepC n (acc, true) y = (acc ++ [y], true) by simp [stepC], stepC_true n ys]; simp
theorem stepC_false (n : ByteArray) : ∀ (ys acc : List D_CSet), (if !(ys.foldl (stepC n) (acc, false)).2 then (ys.foldl (stepC n) (acc, false)).1 ++ [(n, [])] else (ys.foldl (stepC n) (acc, false)).1) = acc ++ insSet n ys
  | [], acc => by simp [insSet]
  | y :: ys, acc => by
    rw [List.foldl_cons]
    cases hg : gtN y n with
    | true =>
      rw [show stepC n (acc, false) y = (acc ++ [(n, [])] ++ [y], true) by simp [stepC, hg], stepC_true n ys]
      simp [insSet, hg]
    | false =>
      rw [show stepC n (acc, false) y = (acc ++ [y], false) by simp [stepC, hg], stepC_false n ys]
      simp [insSet, hg]
def tOk : ByteArray := ByteArray.mk #[111, 107]
def tExists : ByteArray := ByteArray.mk #[101, 120, 105, 115, 116, 115]
def tFull : ByteArray := ByteArray.mk #[102, 117, 108, 108]
def tNone : ByteArray := ByteArray.mk #[110, 111, 110, 101]
def createD (c : D_Catalog) (n : ByteArray) : D_Catalog × ByteArray := if c.any (fun s => decide (s.1 = n)) then (c, tExists) else if 5 ≤ c.length then (c, tFull) else (insSet n c, tOk)
theorem s_l15At_eq' {c : D_Catalog} {n : ByteArray} (h : c.length ≤ 9223372036854775807) : s_l15At c n = some (firstI (fun s : D_CSet => decide (s.1 = n)) c) := by
  unfold s_l15At
  rw [whileP_find (fun s : D_CSet => decide (s.1 = n)) (fun i => some i) h]
  · intro k x hx
    simp only [lt_dec (List.getElem?_eq_some_iff.1 hx).1, cond_true, idx_nat, hx, Option.bind_some]
    cases decide (x.1 = n) <;> rfl
  · simp only [ge_dec]; rfl
theorem s_l15Create_eq {c : D_Catalog} {n : ByteArray} (h : c.length ≤ 1000000) : s_l15Create c n = some (createD c n) := by
  unfold s_l15Create createD
  rw [s_l15At_eq' (by omega), Option.bind_some, firstI_any]
  cases c.any (fun s => decide (s.1 = n)) with
  | true => rfl
  | false =>
    by_cases h5 : 5 ≤ c.length
    · rw [if_neg (by simp), cond_false, decide_eq_true (show (5 : Int) ≤ (c.length : Int) by omega), if_pos h5]; rfl
    rw [if_neg (by simp), cond_false, decide_eq_false (show ¬ (5 : Int) ≤ (c.length : Int) by omega), if_neg h5, cond_false, Option.bind_some]
    rw [loop_pass (l := c) (fun k (t : List D_CSet × Bool) => (t.1, t.2, (k : Int))) (stepC n) (fun t => some ((if !t.2 then t.1 ++ [(n, [])] else t.1), tOk)) (fun k t => t.1.length ≤ 2 * k) ([], false) (s0 := ([], false, 0)) rfl (Nat.le_refl _)]
    · rw [stepC_false, List.nil_append]
    · intro k t s hs ht
      have hk := (List.getElem?_eq_some_iff.1 hs).1
      obtain ⟨acc, b⟩ := t
      dsimp only at ht ⊢
      simp only [lt_dec hk, cond_true, idx_nat, hs, Option.bind_some, gbs]
      constructor
      · unfold stepC gtN
        cases b with
        | true => simp only [Bool.not_true, Bool.false_and, cond_false]; rw [appP_ok (by simp; omega), Option.bind_some, wrap_succ (by omega)]; rfl
        | false =>
          simp only [Bool.not_false, Bool.true_and, if_true]
          cases hg : (!sLt s.1 n && !decide (s.1 = n)) with
          | true =>
            rw [cond_true, appP_ok (by simp; omega), Option.bind_some, appP_ok (by simp; omega), Option.bind_some, wrap_succ (by omega)]; rfl
          | false => rw [cond_false, appP_ok (by simp; omega), Option.bind_some, wrap_succ (by omega)]; rfl
      · unfold stepC
        split <;> simp <;> omega
    · intro t ht
      obtain ⟨acc, b⟩ := t
      simp only [ge_dec, cond_false]
      cases b with
      | true => rfl
      | false => simp only [Bool.not_false, cond_true, if_true]; rw [appP_ok (by simp at ht ⊢; omega)]; rfl
end Go.Proofs.SL
namespace Go.Proofs.SL
open Go
theorem whileP_step {σ α : Type} {f : σ → Option (σ ⊕ α)} {s s' : σ} (h : f s = some (.inl s')) : whileP f s = whileP f s' := by rw [whileP_eq, h]
theorem whileP_done {σ α : Type} {f : σ → Option (σ ⊕ α)} {s : σ} {a : α} (h : f s = some (.inr a)) : whileP f s = some a := by rw [whileP_eq, h]
def digit (k : Nat) : ByteArray := ByteArray.mk #[UInt8.ofNat (48 + k)]
theorem s_Dec_small : ∀ k : Nat, k ≤ 5 → s_Dec (k : Int) = some (digit k)
  | 0, _ => rfl
  | 1, _ => by unfold s_Dec; rw [decide_eq_false (by decide), cond_false, whileP_step (s' := (0, digit 1)) (by kernel_rfl), whileP_done (by kernel_rfl)]
  | 2, _ => by unfold s_Dec; rw [decide_eq_false (by decide), cond_false, whileP_step (s' := (0, digit 2)) (by kernel_rfl), whileP_done (by kernel_rfl)]
  | 3, _ => by unfold s_Dec; rw [decide_eq_false (by decide), cond_false, whileP_step (s' := (0, digit 3)) (by kernel_rfl), whileP_done (by kernel_rfl)]
  | 4, _ => by unfold s_Dec; rw [decide_eq_false (by decide), cond_false, whileP_step (s' := (0, digit 4)) (by kernel_rfl), whileP_done (by kernel_rfl)]
  | 5, _ => by unfold s_Dec; rw [decide_eq_false (by decide), cond_false, whileP_step (s' := (0, digit 5)) (by kernel_rfl), whileP_done (by kernel_rfl)]
  | n + 6, h => by omega
def tSp : ByteArray := ByteArray.mk #[32]
def tCol : ByteArray := ByteArray.mk #[58]
def readStep (t : Bool × ByteArray) (p : D_CSnap) : Bool × ByteArray := (true, (if t.1 then t.2 ++ tSp else t.2) ++ p.1 ++ tCol ++ p.2.1)
def readD (s : D_CSet) : ByteArray := (s.2.foldl readStep (false, ByteArray.empty)).2
theorem sz_sp : tSp.size = 1 := rfl
theorem sz_col : tCol.size = 1 := rfl
theorem s_l15Read_eq {s : D_CSet} (h : s.2.length ≤ 1000) (hp : ∀ p, p ∈ s.2 → p.1.size ≤ 8 ∧ p.2.1.size ≤ 8) : s_l15Read s = some (readD s) := by
  unfold s_l15Read readD
  rw [loop_pass (l := s.2) (fun k (t : Bool × ByteArray) => (t.2, (k : Int))) readStep (fun t => some t.2) (fun k t => t.1 = decide (0 < k) ∧ t.2.size ≤ 18 * k) (false, ByteArray.empty) (s0 := (ByteArray.empty, 0)) rfl ⟨rfl, Nat.le_refl _⟩]
  · intro k t p hx ht
    have hk := (List.getElem?_eq_some_iff.1 hx).1
    obtain ⟨b, a⟩ := t
    obtain ⟨rfl, ha⟩ := ht
    dsimp only at ha ⊢
    obtain ⟨h1, h2⟩ := hp p (List.mem_of_getElem? hx)
    simp only [lt_dec hk, cond_true, idx_nat, hx, Option.bind_some]
    rcases Nat.eq_zero_or_pos k with h0 | h0
    · subst h0
      rw [decide_eq_false (show ¬ (0 : Int) < ((0 : Nat) : Int) by omega), cond_false]
      show Option.bind (catP a p.1) _ = _ ∧ _
      rw [catP_ok (by omega), Option.bind_some, show (ByteArray.mk #[58]) = tCol from rfl, catP_ok (by simp [ByteArray.size_append, sz_col]; omega), Option.bind_some, catP_ok (by simp [ByteArray.size_append, sz_col]; omega), Option.bind_some, wrap_succ (by omega)]
      exact ⟨rfl, by simp [readStep], by simp [readStep, ByteArray.size_append, sz_col]; omega⟩
    · rw [decide_eq_true (show (0 : Int) < (k : Int) by omega), cond_true, show (ByteArray.mk #[32]) = tSp from rfl, catP_ok (by rw [sz_sp]; omega), Option.bind_some]
      show Option.bind (catP (a ++ tSp) p.1) _ = _ ∧ _
      rw [catP_ok (by simp [ByteArray.size_append, sz_sp]; omega), Option.bind_some, show (ByteArray.mk #[58]) = tCol from rfl, catP_ok (by simp [ByteArray.size_append, sz_col, sz_sp]; omega), Option.bind_some, catP_ok (by simp [ByteArray.size_append, sz_col, sz_sp]; omega), Option.bind_some, wrap_succ (by omega)]
      refine ⟨?_, by simp [readStep], ?_⟩
      · simp [readStep, decide_eq_true h0]
      · simp [readStep, decide_eq_true h0, ByteArray.size_append, sz_col, sz_sp]; omega
  · intro t ht
    simp only [ge_dec, cond_false]
def listStep (t : Bool × ByteArray) (p : D_CSet) : Bool × ByteArray := (true, (if t.1 then t.2 ++ tSp else t.2) ++ p.1)
def listD (c : D_Catalog) : ByteArray := (c.foldl listStep (false, ByteArray.empty)).2
/-! Pruning -/
def bareN (l : List D_CSnap) : Nat := (l.filter fun p => decide (p.2.1 = ByteArray.empty)).length
def pruneStep (n : Int) (t : Int × List D_CSnap) (p : D_CSnap) : Int × List D_CSnap :=
  if p.2.1 = ByteArray.empty then (if n ≤ t.1 - 1 then (t.1 - 1, t.2) else (t.1 - 1, t.2 ++ [p])) else (t.1, t.2 ++ [p])
def pruneD (l : List D_CSnap) (n : Int) : List D_CSnap := (l.foldl (pruneStep n) ((bareN l : Int), [])).2
theorem prune_len (n : Int) : ∀ (l : List D_CSnap) (t : Int × List D_CSnap), (l.foldl (pruneStep n) t).2.length ≤ t.2.length + l.length ∧ ∀ p, p ∈ (l.foldl (pruneStep n) t).2 → p ∈ t.2 ∨ p ∈ l
  | [], t => ⟨by simp, fun p hp => .inl hp⟩
  | x :: l, t => by
    rw [List.foldl_cons]
    obtain ⟨h1, h2⟩ := prune_len n l (pruneStep n t x)
    have h3 : (pruneStep n t x).2 = t.2 ∨ (pruneStep n t x).2 = t.2 ++ [x] := by unfold pruneStep; split <;> (try split) <;> simp
    refine ⟨?_, fun p hp => ?_⟩
    · rcases h3 with h3 | h3 <;> rw [h3] at h1 <;> simp at h1 ⊢ <;> omega
    · rcases h2 p hp with h4 | h4
      · rcases h3 with h3 | h3 <;> rw [h3] at h4
        · exact .inl h4
        · rcases List.mem_append.1 h4 with h5 | h5
          · exact .inl h5
          · exact .inr (by rw [List.mem_singleton.1 h5]; exact List.mem_cons_self ..)
      · exact .inr (List.mem_cons_of_mem _ h4)
theorem s_l15Prune_eq {l : List D_CSnap} {n : Int} (h : l.length ≤ 1000) : s_l15Prune l n = some (pruneD l n, ((l.length - (pruneD l n).length : Nat) : Int)) := by
  unfold s_l15Prune
  rw [loop_pass (l := l) (fun k (t : Nat) => ((t : Int), (k : Int))) (fun t p => if p.2.1 = ByteArray.empty then t + 1 else t) (fun t => if t = bareN l then some (pruneD l n, ((l.length - (pruneD l n).length : Nat) : Int)) else
      whileP (fun s8 : Int × (List D_CSnap) × Int => cond (decide (s8.2.2 < (l.length : Int))) (Option.bind (idx l s8.2.2) (fun y10 => cond (decide (y10.2.1 = ByteArray.empty)) (cond (decide (n ≤ IntKind.wrap .i64 (s8.1 - 1))) (some (.inl ((IntKind.wrap .i64 (s8.1 - 1), s8.2.1, IntKind.wrap .i64 (s8.2.2 + 1))))) (Option.bind (idx l s8.2.2) (fun y13 => Option.bind (appP s8.2.1 [(y13.1, y13.2.1, y13.2.2)]) (fun y15 => some (.inl ((IntKind.wrap .i64 (s8.1 - 1), y15, IntKind.wrap .i64 (s8.2.2 + 1)))))))) (Option.bind (idx l s8.2.2) (fun y16 => Option.bind (appP s8.2.1 [(y16.1, y16.2.1, y16.2.2)]) (fun y18 => some (.inl ((s8.1, y18, IntKind.wrap .i64 (s8.2.2 + 1))))))))) (Option.map .inr (some (s8.2.1, IntKind.wrap .i64 ((l.length : Int) - (s8.2.1.length : Int)))))) ((t : Int), [], 0))
      (fun k t => t ≤ k) 0 (s0 := (0, 0)) rfl (Nat.le_refl _)]
  · have hb : l.foldl (fun t p => if p.2.1 = ByteArray.empty then t + 1 else t) 0 = bareN l := by
      have : ∀ (l : List D_CSnap) (t : Nat), l.foldl (fun t p => if p.2.1 = ByteArray.empty then t + 1 else t) t = t + bareN l := fun l => by
        induction l with
        | nil => intro t; rfl
        | cons p l ih =>
          intro t
          rw [List.foldl_cons, ih]
          unfold bareN
          by_cases hp : p.2.1 = ByteArray.empty
          · rw [if_pos hp, List.filter_cons_of_pos (by simpa using hp), List.length_cons]; omega
          · rw [if_neg hp, List.filter_cons_of_neg (by simpa using hp)]
      rw [this, Nat.zero_add]
    rw [hb, if_pos rfl]
  · intro k t p hx ht
    have hk := (List.getElem?_eq_some_iff.1 hx).1
    simp only [lt_dec hk, cond_true, idx_nat, hx, Option.bind_some]
    by_cases hp : p.2.1 = ByteArray.empty
    · rw [decide_eq_true hp, cond_true, wrap_succ (by omega), wrap_succ (by omega), if_pos hp]; exact ⟨rfl, by omega⟩
    · rw [decide_eq_false hp, cond_false, wrap_succ (by omega), if_neg hp]; exact ⟨rfl, by omega⟩
  · intro t ht
    simp only [ge_dec, cond_false, Option.bind_some]
    congr 1
    split
    · rename_i hb
      subst hb
      have hbl : bareN l ≤ l.length := List.length_filter_le _ _
      rw [loop_pass (l := l) (fun k (t : Int × List D_CSnap) => (t.1, t.2, (k : Int))) (pruneStep n) (fun t => some (t.2, ((l.length - t.2.length : Nat) : Int))) (fun k t => -(k : Int) ≤ t.1 ∧ t.1 ≤ 1000 ∧ t.2.length ≤ k) ((bareN l : Int), []) (s0 := ((bareN l : Int), [], 0)) rfl ⟨by omega, by omega, Nat.le_refl _⟩]
      · rfl
      · intro k t p hx ht
        have hk := (List.getElem?_eq_some_iff.1 hx).1
        obtain ⟨b, a⟩ := t
        dsimp only at ht ⊢
        simp only [lt_dec hk, cond_true, idx_nat, hx, Option.bind_some]
        have hw : IntKind.wrap .i64 (b - 1) = b - 1 := wrap64_in (by unfold inR; omega)
        rw [hw, appP_ok (by simp; omega), wrap_succ (by omega)]
        unfold pruneStep
        by_cases hp : p.2.1 = ByteArray.empty
        · rw [decide_eq_true hp, cond_true, if_pos hp]
          by_cases hn : n ≤ b - 1
          · rw [decide_eq_true hn, cond_true, if_pos hn]; exact ⟨rfl, by dsimp only; omega⟩
          · rw [decide_eq_false hn, cond_false, if_neg hn]; exact ⟨rfl, by simp; omega⟩
        · rw [decide_eq_false hp, cond_false, if_neg hp]; exact ⟨rfl, by simp; omega⟩
      · intro t ht
        simp only [ge_dec, cond_false]
        rw [wrap64_in (by unfold inR; omega)]
        have e : (l.length : Int) - (t.2.length : Int) = ((l.length - t.2.length : Nat) : Int) := by omega
        rw [e]
    · rfl
end Go.Proofs.SL
namespace Go.Proofs.SL
open Go
abbrev Wd := BitVec 32
def iv (w : Wd) : Int := (w.toNat : Int)
def t32 (n : Int) : Wd := BitVec.ofInt 32 n
theorem iv_ge (w : Wd) : 0 ≤ iv w := by unfold iv; omega
theorem iv_lt (w : Wd) : iv w < 4294967296 := by unfold iv; have := w.isLt; omega
theorem t32_nat (n : Int) : ((t32 n).toNat : Int) = n % 4294967296 := by
  unfold t32; rw [BitVec.toNat_ofInt]; omega
theorem t32_of {a b : Int} (h : a % 4294967296 = b % 4294967296) : t32 a = t32 b := by
  apply BitVec.eq_of_toNat_eq
  have h1 := t32_nat a; have h2 := t32_nat b; omega
theorem iv_inj {a b : Wd} (h : iv a = iv b) : a = b := by
  apply BitVec.eq_of_toNat_eq; unfold iv at h; omega
theorem iv_t32 (n : Int) : iv (t32 n) = n % 4294967296 := t32_nat n
theorem t32_iv (w : Wd) : t32 (iv w) = w := by
  apply iv_inj; rw [iv_t32]; have := iv_ge w; have := iv_lt w; omega
theorem wrapu (n : Int) : IntKind.wrap .u32 n = iv (t32 n) := by rw [iv_t32, IntKind.wrap_u32]
theorem t32_wrap (n : Int) : t32 (IntKind.wrap .i64 n) = t32 n := t32_of (by rw [IntKind.wrap_i64]; omega)
theorem t32_add (a b : Int) : t32 (a + b) = t32 a + t32 b := by unfold t32; rw [BitVec.ofInt_add]
theorem t32_64 (n : Int) : (BitVec.ofInt 64 n).setWidth 32 = t32 n := by
  apply BitVec.eq_of_toNat_eq
  rw [BitVec.toNat_setWidth, BitVec.toNat_ofInt]
  have := t32_nat n
  omega
theorem t32_nat64 (x : BitVec 64) : t32 (x.toNat : Int) = x.setWidth 32 := by
  unfold t32; rw [BitVec.ofInt_natCast]; apply BitVec.eq_of_toNat_eq; rw [BitVec.toNat_ofNat, BitVec.toNat_setWidth]
theorem t32_xor (a b : Int) : t32 (bits .xor .i64 a b) = t32 a ^^^ t32 b := by
  show t32 (IntKind.wrap .i64 (((BitVec.ofInt 64 a) ^^^ (BitVec.ofInt 64 b)).toNat : Int)) = _
  rw [t32_wrap, t32_nat64, BitVec.setWidth_xor, t32_64, t32_64]
theorem t32_and (a b : Int) : t32 (bits .and .i64 a b) = t32 a &&& t32 b := by
  show t32 (IntKind.wrap .i64 (((BitVec.ofInt 64 a) &&& (BitVec.ofInt 64 b)).toNat : Int)) = _
  rw [t32_wrap, t32_nat64, BitVec.setWidth_and, t32_64, t32_64]
theorem t32_or (a b : Int) : t32 (bits .or .i64 a b) = t32 a ||| t32 b := by
  show t32 (IntKind.wrap .i64 (((BitVec.ofInt 64 a) ||| (BitVec.ofInt 64 b)).toNat : Int)) = _
  rw [t32_wrap, t32_nat64, BitVec.setWidth_or, t32_64, t32_64]
theorem wrapu_nat (w : Wd) : IntKind.wrap .u32 (w.toNat : Int) = iv w := by rw [wrapu, show (w.toNat : Int) = iv w from rfl, t32_iv]
theorem ofInt_iv (w : Wd) : BitVec.ofInt 32 (iv w) = w := t32_iv w
theorem xorU (a b : Wd) : bits .xor .u32 (iv a) (iv b) = iv (a ^^^ b) := by
  show IntKind.wrap .u32 (((BitVec.ofInt 32 (iv a)) ^^^ (BitVec.ofInt 32 (iv b))).toNat : Int) = _
  rw [ofInt_iv, ofInt_iv, wrapu_nat]
theorem andU (a b : Wd) : bits .and .u32 (iv a) (iv b) = iv (a &&& b) := by
  show IntKind.wrap .u32 (((BitVec.ofInt 32 (iv a)) &&& (BitVec.ofInt 32 (iv b))).toNat : Int) = _
  rw [ofInt_iv, ofInt_iv, wrapu_nat]
theorem orU (a b : Wd) : bits .or .u32 (iv a) (iv b) = iv (a ||| b) := by
  show IntKind.wrap .u32 (((BitVec.ofInt 32 (iv a)) ||| (BitVec.ofInt 32 (iv b))).toNat : Int) = _
  rw [ofInt_iv, ofInt_iv, wrapu_nat]
theorem addU (a b : Wd) : IntKind.wrap .u32 (iv a + iv b) = iv (a + b) := by rw [wrapu, t32_add, t32_iv, t32_iv]
theorem oM32 : (if IntKind.signed .u32 then (-1 : Int) else IntKind.max .u32) = iv (BitVec.allOnes 32) := rfl
theorem oM64 : t32 (if IntKind.signed .i64 then (-1 : Int) else IntKind.max .i64) = BitVec.allOnes 32 := by decide
theorem shr_iv (a : Wd) (n : Nat) : iv a / 2 ^ n = iv (a >>> n) := by
  unfold iv
  rw [BitVec.toNat_ushiftRight, Nat.shiftRight_eq_div_pow]
  simp
theorem t32_shl (a : Int) (n : Nat) : t32 (a * 2 ^ n) = t32 a <<< n := by
  apply iv_inj
  rw [iv_t32]; unfold iv
  rw [BitVec.toNat_shiftLeft, Nat.shiftLeft_eq]
  have h := t32_nat a
  have : ((((t32 a).toNat * 2 ^ n) % 2 ^ 32 : Nat) : Int) = ((((t32 a).toNat : Int) * 2 ^ n) % 4294967296) := by
    rw [Int.natCast_emod, Int.natCast_mul]; simp
  rw [this, h, Int.mul_emod a (2 ^ n), Int.mul_emod (a % 4294967296) (2 ^ n), Int.emod_emod_of_dvd a (Int.dvd_refl _)]
/-- An unsigned word that a wider number holds. -/
theorem or64_iv (a b : Wd) : bits .or .i64 (iv a) (iv b) = iv (a ||| b) := by
  show IntKind.wrap .i64 (((BitVec.ofInt 64 (iv a)) ||| (BitVec.ofInt 64 (iv b))).toNat : Int) = _
  have h : ∀ w : Wd, BitVec.ofInt 64 (iv w) = w.setWidth 64 := fun w => by
    apply BitVec.eq_of_toNat_eq
    rw [BitVec.toNat_ofInt, BitVec.toNat_setWidth]
    unfold iv
    omega
  rw [h, h, ← BitVec.setWidth_or]
  have h2 : (((a ||| b).setWidth 64).toNat : Int) = iv (a ||| b) := by
    rw [BitVec.toNat_setWidth]; unfold iv; have := (a ||| b).isLt; omega
  rw [h2, wrap64_in]
  unfold inR; have := iv_ge (a ||| b); have := iv_lt (a ||| b); omega
/-- Turning to the right. -/
def ror (a : Wd) (n : Nat) : Wd := a >>> n ||| a <<< (32 - n)
section
variable {σ τ α : Type}
def it (step : Nat → τ → τ) : Nat → τ → τ
  | 0, t => t
  | n + 1, t => step n (it step n t)
theorem whileP_n {F : σ → Option (σ ⊕ α)} (mk : Nat → τ → σ) (step : Nat → τ → τ) {n : Nat} {t0 : τ} {s0 : σ} (h0 : s0 = mk 0 t0)
    (hs : ∀ i t, i < n → F (mk i t) = some (.inl (mk (i + 1) (step i t)))) {o : Option α} (he : F (mk n (it step n t0)) = o.map .inr) : whileP F s0 = o := by
  have key : ∀ m, m ≤ n → whileP F (mk 0 t0) = whileP F (mk m (it step m t0)) := by
    intro m hm
    induction m with
    | zero => rfl
    | succ m ih =>
      rw [ih (by omega), whileP_eq, hs m _ (by omega)]
      rfl
  rw [h0, key n (Nat.le_refl _), whileP_eq, he]
  cases o <;> rfl
end
def arr (n : Nat) (f : Nat → Wd) : List Int := (List.range n).map fun j => iv (f j)
theorem arr_len (n : Nat) (f : Nat → Wd) : (arr n f).length = n := by unfold arr; simp
theorem arr_get {n j : Nat} (f : Nat → Wd) (h : j < n) : (arr n f)[j]? = some (iv (f j)) := by
  unfold arr; rw [List.getElem?_map, List.getElem?_range h]; rfl
theorem arr_idx {n j : Nat} (f : Nat → Wd) (h : j < n) : idx (arr n f) (j : Int) = some (iv (f j)) := by rw [idx_nat, arr_get f h]
def upd (f : Nat → Wd) (j : Nat) (v : Wd) : Nat → Wd := fun k => if k = j then v else f k
theorem arr_set (n j : Nat) (f : Nat → Wd) (v : Wd) : (arr n f).set j (iv v) = arr n (upd f j v) := by
  apply List.ext_getElem?
  intro k
  rw [List.getElem?_set]
  by_cases hk : k < n
  · rw [arr_get _ hk, arr_get _ hk, arr_len]
    unfold upd
    by_cases h : j = k
    · subst h; simp [hk]
    · rw [if_neg h, if_neg (fun h' => h h'.symm)]
  · have h1 : ∀ g, (arr n g)[k]? = none := fun g => List.getElem?_eq_none (by rw [arr_len]; omega)
    rw [h1, h1, arr_len]
    by_cases h : j = k
    · subst h; simp; omega
    · rw [if_neg h]
theorem arr_aset {n j : Nat} (f : Nat → Wd) (v : Wd) (h : j < n) : aset (arr n f) j (iv v) = some (arr n (upd f j v)) := by
  unfold aset; rw [if_pos (by rw [arr_len]; exact h), arr_set]
theorem arr_alen (n : Nat) (f : Nat → Wd) : alen n (arr n f) = some (arr n f) := by unfold alen; rw [if_pos (arr_len n f)]
theorem arr_congr {n : Nat} {f g : Nat → Wd} (h : ∀ j, j < n → f j = g j) : arr n f = arr n g := by
  unfold arr; exact List.map_congr_left fun j hj => by rw [h j (List.mem_range.1 hj)]
theorem ack_nat {n j : Nat} (h : j < n) : ack n (j : Int) = some j := by unfold ack; rw [if_pos (by omega)]; simp
/-- The bytes of a text. -/
def byt (s : ByteArray) (i : Nat) : UInt8 := if h : i < s.size then s[i] else 0
theorem sidx_byt {s : ByteArray} {i : Nat} (h : i < s.size) : sidx s (i : Int) = some ((byt s i).toNat : Int) := by
  unfold sidx byt; rw [dif_pos ⟨by omega, by simpa using h⟩, dif_pos h]; simp
def bw (b : UInt8) : Wd := BitVec.ofNat 32 b.toNat
theorem bw_iv (b : UInt8) : (b.toNat : Int) = iv (bw b) := by
  unfold iv bw; rw [BitVec.toNat_ofNat]; have := b.toNat_lt; omega
def wrd (s : ByteArray) (i : Nat) : Wd := bw (byt s i) <<< 24 ||| bw (byt s (i + 1)) <<< 16 ||| bw (byt s (i + 2)) <<< 8 ||| bw (byt s (i + 3))
theorem shlU (a : Wd) (n : Nat) : IntKind.wrap .u32 (iv a * 2 ^ n) = iv (a <<< n) := by rw [wrapu, t32_shl, t32_iv]
theorem wrapU_iv (a : Wd) : IntKind.wrap .u32 (iv a) = iv a := by rw [wrapu, t32_iv]
theorem wrap64_iv (a : Wd) : IntKind.wrap .i64 (iv a) = iv a := wrap64_in (by unfold inR; have := iv_ge a; have := iv_lt a; omega)
theorem shl64_byte (b : UInt8) (n : Nat) (hn : n ≤ 24) : IntKind.wrap .i64 (iv (bw b) * 2 ^ n) = iv (bw b <<< n) := by
  have h1 : iv (bw b) < 256 := by rw [← bw_iv]; have := b.toNat_lt; omega
  have h0 := iv_ge (bw b)
  have h2 : (2 : Int) ^ n ≤ 2 ^ 24 := by
    have : (2 : Nat) ^ n ≤ 2 ^ 24 := Nat.pow_le_pow_right (by omega) hn
    exact_mod_cast this
  have h3 : (0 : Int) < 2 ^ n := Int.pow_pos (by omega)
  have h4 : iv (bw b) * 2 ^ n < 4294967296 := by
    calc iv (bw b) * 2 ^ n ≤ 255 * 2 ^ n := Int.mul_le_mul_of_nonneg_right (by omega) (by omega)
      _ ≤ 255 * 2 ^ 24 := Int.mul_le_mul_of_nonneg_left h2 (by omega)
      _ < 4294967296 := by decide
  have h5 : 0 ≤ iv (bw b) * 2 ^ n := Int.mul_nonneg h0 (by omega)
  rw [wrap64_in (by unfold inR; omega)]
  have h6 := t32_shl (iv (bw b)) n
  rw [t32_iv] at h6
  rw [← h6, iv_t32, Int.emod_eq_of_lt h5 h4]
end Go.Proofs.SL
namespace Go.Proofs.SL
open Go
def kW (j : Nat) : Wd := t32 (gA0.getD j 0)
theorem gA0_arr : gA0 = arr 64 kW := by kernel_rfl
def sg0 (a : Wd) : Wd := ror a 7 ^^^ ror a 18 ^^^ a >>> 3
def sg1 (b : Wd) : Wd := ror b 17 ^^^ ror b 19 ^^^ b >>> 10
def sch1 (s : ByteArray) (i : Nat) (f : Nat → Wd) : Nat → Wd := upd f i (wrd s (4 * i))
def sch2 (i : Nat) (f : Nat → Wd) : Nat → Wd := upd f (i + 16) (f i + sg0 (f (i + 1)) + f (i + 9) + sg1 (f (i + 14)))
def bg1 (e : Wd) : Wd := ror e 6 ^^^ ror e 11 ^^^ ror e 25
def bg0 (e : Wd) : Wd := ror e 2 ^^^ ror e 13 ^^^ ror e 22
def chs (e f g : Wd) : Wd := (e &&& f) ^^^ ((BitVec.allOnes 32 ^^^ e) &&& g)
def mst (a b c : Wd) : Wd := (a &&& b) ^^^ (a &&& c) ^^^ (b &&& c)
def tmp (w : Nat → Wd) (i : Nat) (v : Nat → Wd) : Wd := v 7 + bg1 (v 4) + chs (v 4) (v 5) (v 6) + kW i + w i
def rnd (w : Nat → Wd) (i : Nat) (v : Nat → Wd) : Nat → Wd
  | 0 => tmp w i v + bg0 (v 0) + mst (v 0) (v 1) (v 2)
  | 1 => v 0
  | 2 => v 1
  | 3 => v 2
  | 4 => v 3 + tmp w i v
  | 5 => v 4
  | 6 => v 5
  | _ => v 6
def wAll (s : ByteArray) : Nat → Wd := it sch2 48 (it (sch1 s) 16 fun _ => 0)
def shaB (h : Nat → Wd) (s : ByteArray) : Nat → Wd := fun j => h j + it (rnd (wAll s)) 64 h j
theorem arr_zero (n : Nat) : List.replicate n (0 : Int) = arr n fun _ => 0 := by
  unfold arr
  apply List.ext_getElem?
  intro k
  by_cases h : k < n
  · rw [List.getElem?_replicate, if_pos h, List.getElem?_map, List.getElem?_range h]; rfl
  · rw [List.getElem?_replicate, if_neg h, List.getElem?_eq_none (by simp; omega)]
theorem arr8 (f : Nat → Wd) : arr 8 f = [iv (f 0), iv (f 1), iv (f 2), iv (f 3), iv (f 4), iv (f 5), iv (f 6), iv (f 7)] := rfl
section
variable {α β : Type}
theorem bnd {o : Option α} {a : α} {f : α → Option β} {r : Option β} (h : o = some a) (k : f a = r) : Option.bind o f = r := by rw [h]; exact k
theorem condT {b : Bool} {x y r : α} (h : b = true) (k : x = r) : cond b x y = r := by rw [h]; exact k
theorem condF {b : Bool} {x y r : α} (h : b = false) (k : y = r) : cond b x y = r := by rw [h]; exact k
end
theorem a8_0 : ack 8 0 = some 0 := rfl
theorem a8_1 : ack 8 1 = some 1 := rfl
theorem a8_2 : ack 8 2 = some 2 := rfl
theorem a8_3 : ack 8 3 = some 3 := rfl
theorem a8_4 : ack 8 4 = some 4 := rfl
theorem a8_5 : ack 8 5 = some 5 := rfl
theorem a8_6 : ack 8 6 = some 6 := rfl
theorem a8_7 : ack 8 7 = some 7 := rfl
theorem g8 (f : Nat → Wd) (j : Nat) (h : j < 8) : (arr 8 f)[j]? = some (iv (f j)) := arr_get f h
theorem i8 (f : Nat → Wd) (j : Nat) (h : j < 8) {i : Int} (hi : i = (j : Int)) : idx (arr 8 f) i = some (iv (f j)) := by subst hi; exact arr_idx f h
/-- A part of a text. -/
theorem byt_extract {s : ByteArray} {a b j : Nat} (h : a + j < b) (hb : b ≤ s.size) : byt (s.extract a b) j = byt s (a + j) := by
  unfold byt
  rw [dif_pos (by rw [ByteArray.size_extract]; omega), dif_pos (by omega)]
  exact ByteArray.getElem_extract ..
theorem wrd_extract {s : ByteArray} {a b : Nat} (h : a + 4 ≤ b) (hb : b ≤ s.size) : wrd (s.extract a b) 0 = wrd s a := by
  unfold wrd
  rw [byt_extract (by omega) hb, byt_extract (by omega) hb, byt_extract (by omega) hb, byt_extract (by omega) hb]
  rfl
theorem i3 : (3 : Int).toNat = 3 := rfl
theorem i8' : (8 : Int).toNat = 8 := rfl
theorem i10 : (10 : Int).toNat = 10 := rfl
theorem i16 : (16 : Int).toNat = 16 := rfl
theorem i24 : (24 : Int).toNat = 24 := rfl
end Go.Proofs.SL
namespace Go.Proofs.SL
open Go
noncomputable def i_sb1 {α : Type} (a1 : ByteArray) (s1 : Int × (List Int)) (kk : Option α) : Option ((Int × (List Int)) ⊕ α) :=
  cond (decide (s1.1 < 16)) (Option.bind (sslP a1 (IntKind.wrap .i64 (4 * s1.1)) (a1.size : Int)) (fun y3 => Option.bind (i_fourBytes y3) (fun y4 => Option.bind (ack 64 s1.1) (fun y5 => Option.bind (aset s1.2 y5 y4) (fun y6 => some (.inl ((IntKind.wrap .i64 (s1.1 + 1), y6)))))))) (Option.map .inr kk)
noncomputable def i_sb2 {α : Type}  (s8 : Int × (List Int)) (kk : Option α) : Option ((Int × (List Int)) ⊕ α) :=
  cond (decide (s8.1 < 64)) (Option.bind (ack 64 (IntKind.wrap .i64 (s8.1 - 15))) (fun y10 => Option.bind (s8.2[y10]?) (fun y11 => Option.bind (ack 64 (IntKind.wrap .i64 (s8.1 - 2))) (fun y12 => Option.bind (s8.2[y12]?) (fun y13 => Option.bind (x_bits_RotateLeft32 y11 (-7)) (fun y14 => Option.bind (x_bits_RotateLeft32 y11 (-18)) (fun y15 => Option.bind (x_bits_RotateLeft32 y13 (-17)) (fun y16 => Option.bind (x_bits_RotateLeft32 y13 (-19)) (fun y17 => Option.bind (ack 64 (IntKind.wrap .i64 (s8.1 - 16))) (fun y18 => Option.bind (s8.2[y18]?) (fun y19 => Option.bind (ack 64 (IntKind.wrap .i64 (s8.1 - 7))) (fun y20 => Option.bind (s8.2[y20]?) (fun y21 => Option.bind (ack 64 s8.1) (fun y22 => Option.bind (aset s8.2 y22 (IntKind.wrap .u32 (IntKind.wrap .u32 (IntKind.wrap .u32 (y19 + bits .xor .u32 (bits .xor .u32 y14 y15) (y11 / 2 ^ (3 : Int).toNat)) + y21) + bits .xor .u32 (bits .xor .u32 y16 y17) (y13 / 2 ^ (10 : Int).toNat)))) (fun y23 => some (.inl ((IntKind.wrap .i64 (s8.1 + 1), y23)))))))))))))))))) (Option.map .inr kk)
noncomputable def i_sb3 {α : Type} (s8 : Int × (List Int)) (s28 : Int × (List Int)) (kk : Option α) : Option ((Int × (List Int)) ⊕ α) :=
  cond (decide (s28.1 < 64)) (Option.bind (ack 8 0) (fun y30 => Option.bind (s28.2[y30]?) (fun y31 => Option.bind (ack 8 4) (fun y32 => Option.bind (s28.2[y32]?) (fun y33 => Option.bind (x_bits_RotateLeft32 y33 (-6)) (fun y34 => Option.bind (x_bits_RotateLeft32 y33 (-11)) (fun y35 => Option.bind (x_bits_RotateLeft32 y33 (-25)) (fun y36 => Option.bind (ack 8 5) (fun y37 => Option.bind (s28.2[y37]?) (fun y38 => Option.bind (ack 8 6) (fun y39 => Option.bind (s28.2[y39]?) (fun y40 => Option.bind (ack 8 7) (fun y41 => Option.bind (s28.2[y41]?) (fun y42 => Option.bind (ack 64 s28.1) (fun y43 => Option.bind (gA0[y43]?) (fun y44 => Option.bind (ack 64 s28.1) (fun y45 => Option.bind (s8.2[y45]?) (fun y46 => Option.bind (x_bits_RotateLeft32 y31 (-2)) (fun y47 => Option.bind (x_bits_RotateLeft32 y31 (-13)) (fun y48 => Option.bind (x_bits_RotateLeft32 y31 (-22)) (fun y49 => Option.bind (ack 8 1) (fun y50 => Option.bind (s28.2[y50]?) (fun y51 => Option.bind (ack 8 2) (fun y52 => Option.bind (s28.2[y52]?) (fun y53 => Option.bind (ack 8 1) (fun y54 => Option.bind (s28.2[y54]?) (fun y55 => Option.bind (ack 8 2) (fun y56 => Option.bind (s28.2[y56]?) (fun y57 => Option.bind (ack 8 0) (fun y58 => Option.bind (s28.2[y58]?) (fun y59 => Option.bind (ack 8 1) (fun y60 => Option.bind (s28.2[y60]?) (fun y61 => Option.bind (ack 8 2) (fun y62 => Option.bind (s28.2[y62]?) (fun y63 => Option.bind (ack 8 3) (fun y64 => Option.bind (s28.2[y64]?) (fun y65 => Option.bind (ack 8 4) (fun y66 => Option.bind (s28.2[y66]?) (fun y67 => Option.bind (ack 8 5) (fun y68 => Option.bind (s28.2[y68]?) (fun y69 => Option.bind (ack 8 6) (fun y70 => Option.bind (s28.2[y70]?) (fun y71 => Option.bind (alen 8 s28.2) (fun y72 => Option.bind (alen 8 ([IntKind.wrap .u32 (IntKind.wrap .u32 (IntKind.wrap .u32 (IntKind.wrap .u32 (IntKind.wrap .u32 (IntKind.wrap .u32 (y42 + bits .xor .u32 (bits .xor .u32 y34 y35) y36) + bits .xor .u32 (bits .and .u32 y33 y38) (bits .and .u32 (bits .xor .u32 (if IntKind.signed .u32 then -1 else IntKind.max .u32) y33) y40)) + y44) + y46) + bits .xor .u32 (bits .xor .u32 y47 y48) y49) + bits .xor .u32 (bits .xor .u32 (bits .and .u32 y31 y51) (bits .and .u32 y31 y53)) (bits .and .u32 y55 y57)), y59, y61, y63, IntKind.wrap .u32 (y65 + IntKind.wrap .u32 (IntKind.wrap .u32 (IntKind.wrap .u32 (IntKind.wrap .u32 (y42 + bits .xor .u32 (bits .xor .u32 y34 y35) y36) + bits .xor .u32 (bits .and .u32 y33 y38) (bits .and .u32 (bits .xor .u32 (if IntKind.signed .u32 then -1 else IntKind.max .u32) y33) y40)) + y44) + y46)), y67, y69, y71] : List Int)) (fun y73 => some (.inl ((IntKind.wrap .i64 (s28.1 + 1), ([IntKind.wrap .u32 (IntKind.wrap .u32 (IntKind.wrap .u32 (IntKind.wrap .u32 (IntKind.wrap .u32 (IntKind.wrap .u32 (y42 + bits .xor .u32 (bits .xor .u32 y34 y35) y36) + bits .xor .u32 (bits .and .u32 y33 y38) (bits .and .u32 (bits .xor .u32 (if IntKind.signed .u32 then -1 else IntKind.max .u32) y33) y40)) + y44) + y46) + bits .xor .u32 (bits .xor .u32 y47 y48) y49) + bits .xor .u32 (bits .xor .u32 (bits .and .u32 y31 y51) (bits .and .u32 y31 y53)) (bits .and .u32 y55 y57)), y59, y61, y63, IntKind.wrap .u32 (y65 + IntKind.wrap .u32 (IntKind.wrap .u32 (IntKind.wrap .u32 (IntKind.wrap .u32 (y42 + bits .xor .u32 (bits .xor .u32 y34 y35) y36) + bits .xor .u32 (bits .and .u32 y33 y38) (bits .and .u32 (bits .xor .u32 (if IntKind.signed .u32 then -1 else IntKind.max .u32) y33) y40)) + y44) + y46)), y67, y69, y71] : List Int))))))))))))))))))))))))))))))))))))))))))))))))) (Option.map .inr kk)
noncomputable def i_sb4 {α : Type} (s28 : Int × (List Int)) (s75 : Int × (List Int)) (kk : Option α) : Option ((Int × (List Int)) ⊕ α) :=
  cond (decide (s75.1 < 8)) (Option.bind (ack 8 s75.1) (fun y77 => Option.bind (s75.2[y77]?) (fun y78 => Option.bind (ack 8 s75.1) (fun y79 => Option.bind (s28.2[y79]?) (fun y80 => Option.bind (ack 8 s75.1) (fun y81 => Option.bind (aset s75.2 y81 (IntKind.wrap .u32 (y78 + y80))) (fun y82 => some (.inl ((IntKind.wrap .i64 (s75.1 + 1), y82)))))))))) (Option.map .inr kk)
theorem i_shaBlock_open (a0 : List Int) (a1 : ByteArray) : i_shaBlock a0 a1 =
  whileP (fun s1 : Int × (List Int) => i_sb1 a1 s1 (whileP (fun s8 : Int × (List Int) => i_sb2  s8 (Option.bind (alen 8 a0) (fun y25 => Option.bind (alen 8 (List.replicate 8 (0 : Int))) (fun y26 => Option.bind (alen 8 a0) (fun y27 => whileP (fun s28 : Int × (List Int) => i_sb3 s8 s28 (whileP (fun s75 : Int × (List Int) => i_sb4 s28 s75 (Option.bind (alen 8 s75.2) (fun y84 => Option.bind (alen 8 (List.replicate 8 (0 : Int))) (fun y85 => Option.bind (alen 8 s75.2) (fun y86 => Option.bind (alen 8 s75.2) (fun y87 => some s75.2)))))) (0, a0))) (0, a0)))))) (16, s1.2))) (0, (List.replicate 64 (0 : Int))) := rfl
theorem rotG (a : Wd) {c : Int} {n : Nat} (h : bits .and .u64 (IntKind.wrap .u64 c) 31 = ((32 - n : Nat) : Int)) (h0 : 0 < n) (hn : n < 32) : x_bits_RotateLeft32 (iv a) c = some (iv (ror a n)) := by
  unfold x_bits_RotateLeft32
  rw [h]
  refine bnd (a := iv (a <<< (32 - n))) ?_ (bnd (a := iv (a >>> n)) ?_ ?_)
  · unfold shlP
    rw [if_pos ⟨by omega, by show ((32 - n : Nat) : Int) ≤ 32; omega⟩, show ((32 - n : Nat) : Int).toNat = 32 - n by omega, shlU]
  · unfold shrP
    rw [IntKind.wrap_u64, show (32 - ((32 - n : Nat) : Int)) % 18446744073709551616 = (n : Int) by omega, if_pos ⟨by omega, by show (n : Int) ≤ 32; omega⟩, show (n : Int).toNat = n by omega, shr_iv]
  · show some (bits .or .u32 (iv (a <<< (32 - n))) (iv (a >>> n))) = _
    rw [orU, BitVec.or_comm]; rfl
theorem rot2 (a : Wd) : x_bits_RotateLeft32 (iv a) (-2) = some (iv (ror a 2)) := rotG a (by decide) (by omega) (by omega)
theorem rot6 (a : Wd) : x_bits_RotateLeft32 (iv a) (-6) = some (iv (ror a 6)) := rotG a (by decide) (by omega) (by omega)
theorem rot7 (a : Wd) : x_bits_RotateLeft32 (iv a) (-7) = some (iv (ror a 7)) := rotG a (by decide) (by omega) (by omega)
theorem rot11 (a : Wd) : x_bits_RotateLeft32 (iv a) (-11) = some (iv (ror a 11)) := rotG a (by decide) (by omega) (by omega)
theorem rot13 (a : Wd) : x_bits_RotateLeft32 (iv a) (-13) = some (iv (ror a 13)) := rotG a (by decide) (by omega) (by omega)
theorem rot17 (a : Wd) : x_bits_RotateLeft32 (iv a) (-17) = some (iv (ror a 17)) := rotG a (by decide) (by omega) (by omega)
theorem rot18 (a : Wd) : x_bits_RotateLeft32 (iv a) (-18) = some (iv (ror a 18)) := rotG a (by decide) (by omega) (by omega)
theorem rot19 (a : Wd) : x_bits_RotateLeft32 (iv a) (-19) = some (iv (ror a 19)) := rotG a (by decide) (by omega) (by omega)
theorem rot22 (a : Wd) : x_bits_RotateLeft32 (iv a) (-22) = some (iv (ror a 22)) := rotG a (by decide) (by omega) (by omega)
theorem rot25 (a : Wd) : x_bits_RotateLeft32 (iv a) (-25) = some (iv (ror a 25)) := rotG a (by decide) (by omega) (by omega)
theorem sidx_lit {s : ByteArray} (i : Nat) {n : Int} (hn : n = (i : Int)) (h : i < s.size) : sidx s n = some ((byt s i).toNat : Int) := by subst hn; exact sidx_byt h
theorem i_fourBytes_eq {t : ByteArray} (h : 4 ≤ t.size) : i_fourBytes t = some (iv (wrd t 0)) := by
  unfold i_fourBytes
  refine bnd (sidx_lit 0 rfl (by omega)) (bnd (sidx_lit 1 rfl (by omega)) (bnd (sidx_lit 2 rfl (by omega)) (bnd (sidx_lit 3 rfl (by omega)) ?_)))
  simp only [bw_iv, wrapU_iv, shlU, orU, i24, i16, i8']
  rfl
theorem i_sb1_step {α : Type} {s : ByteArray} (hs : s.size = 64) {i : Nat} (hi : i < 16) (f : Nat → Wd) (k : Option α) : i_sb1 s ((i : Int), arr 64 f) k = some (.inl (((i + 1 : Nat) : Int), arr 64 (sch1 s i f))) := by
  unfold i_sb1
  refine condT (decide_eq_true (by show (i : Int) < 16; omega)) ?_
  refine bnd (a := s.extract (4 * i) s.size) ?_ ?_
  · show sslP s (IntKind.wrap .i64 (4 * (i : Int))) (s.size : Int) = _
    rw [wrap64_in (by unfold inR; omega)]
    unfold sslP
    rw [if_pos (by omega), show (4 * (i : Int)).toNat = 4 * i by omega, show ((s.size : Int)).toNat = s.size by omega]
  refine bnd (i_fourBytes_eq (by rw [ByteArray.size_extract]; omega)) ?_
  rw [wrd_extract (by omega) (Nat.le_refl _)]
  refine bnd (ack_nat (by omega)) ?_
  refine bnd (arr_aset f _ (by omega)) ?_
  show some (Sum.inl (IntKind.wrap .i64 ((i : Int) + 1), _)) = _
  rw [wrap_succ (by omega)]
  rfl
theorem i_sb1_end {α : Type} (s : ByteArray) (l : List Int) (k : Option α) : i_sb1 s (((16 : Nat) : Int), l) k = k.map .inr := by
  unfold i_sb1
  exact condF (decide_eq_false (by show ¬ ((16 : Nat) : Int) < 16; omega)) rfl
theorem i_sb2_step {α : Type} {i : Nat} (hi : i < 48) (f : Nat → Wd) (k : Option α) : i_sb2 (((i + 16 : Nat) : Int), arr 64 f) k = some (.inl (((i + 1 + 16 : Nat) : Int), arr 64 (sch2 i f))) := by
  unfold i_sb2
  refine condT (decide_eq_true (by show ((i + 16 : Nat) : Int) < 64; omega)) ?_
  refine bnd (a := i + 1) (by show ack 64 (IntKind.wrap .i64 (((i + 16 : Nat) : Int) - 15)) = _; rw [wrap64_in (by unfold inR; omega), show ((i + 16 : Nat) : Int) - 15 = ((i + 1 : Nat) : Int) by omega]; exact ack_nat (by omega)) ?_
  refine bnd (arr_get f (by omega)) ?_
  refine bnd (a := i + 14) (by show ack 64 (IntKind.wrap .i64 (((i + 16 : Nat) : Int) - 2)) = _; rw [wrap64_in (by unfold inR; omega), show ((i + 16 : Nat) : Int) - 2 = ((i + 14 : Nat) : Int) by omega]; exact ack_nat (by omega)) ?_
  refine bnd (arr_get f (by omega)) ?_
  refine bnd (rot7 _) ?_
  refine bnd (rot18 _) ?_
  refine bnd (rot17 _) ?_
  refine bnd (rot19 _) ?_
  refine bnd (a := i + 0) (by show ack 64 (IntKind.wrap .i64 (((i + 16 : Nat) : Int) - 16)) = _; rw [wrap64_in (by unfold inR; omega), show ((i + 16 : Nat) : Int) - 16 = ((i + 0 : Nat) : Int) by omega]; exact ack_nat (by omega)) ?_
  refine bnd (arr_get f (by omega)) ?_
  refine bnd (a := i + 9) (by show ack 64 (IntKind.wrap .i64 (((i + 16 : Nat) : Int) - 7)) = _; rw [wrap64_in (by unfold inR; omega), show ((i + 16 : Nat) : Int) - 7 = ((i + 9 : Nat) : Int) by omega]; exact ack_nat (by omega)) ?_
  refine bnd (arr_get f (by omega)) ?_
  refine bnd (ack_nat (by omega)) ?_
  simp only [i3, i10, shr_iv, xorU, addU]
  refine bnd (arr_aset f _ (by omega)) ?_
  show some (Sum.inl (IntKind.wrap .i64 (((i + 16 : Nat) : Int) + 1), _)) = _
  rw [wrap_succ (by omega)]
  rfl
theorem i_sb2_end {α : Type} (l : List Int) (k : Option α) : i_sb2 (((48 + 16 : Nat) : Int), l) k = k.map .inr := by
  unfold i_sb2
  exact condF (decide_eq_false (by show ¬ ((48 + 16 : Nat) : Int) < 64; omega)) rfl
theorem alen_ok {n : Nat} {l : List Int} (h : l.length = n) : alen n l = some l := if_pos h
theorem rnd_0 (w v : Nat → Wd) (i : Nat) : rnd w i v 0 = v 7 + (ror (v 4) 6 ^^^ ror (v 4) 11 ^^^ ror (v 4) 25) + ((v 4 &&& v 5) ^^^ ((BitVec.allOnes 32 ^^^ v 4) &&& v 6)) + kW i + w i + (ror (v 0) 2 ^^^ ror (v 0) 13 ^^^ ror (v 0) 22) + ((v 0 &&& v 1) ^^^ (v 0 &&& v 2) ^^^ (v 1 &&& v 2)) := rfl
theorem rnd_4 (w v : Nat → Wd) (i : Nat) : rnd w i v 4 = v 3 + (v 7 + (ror (v 4) 6 ^^^ ror (v 4) 11 ^^^ ror (v 4) 25) + ((v 4 &&& v 5) ^^^ ((BitVec.allOnes 32 ^^^ v 4) &&& v 6)) + kW i + w i) := rfl
theorem rnd_1 (w v : Nat → Wd) (i : Nat) : rnd w i v 1 = v 0 := rfl
theorem rnd_2 (w v : Nat → Wd) (i : Nat) : rnd w i v 2 = v 1 := rfl
theorem rnd_3 (w v : Nat → Wd) (i : Nat) : rnd w i v 3 = v 2 := rfl
theorem rnd_5 (w v : Nat → Wd) (i : Nat) : rnd w i v 5 = v 4 := rfl
theorem rnd_6 (w v : Nat → Wd) (i : Nat) : rnd w i v 6 = v 5 := rfl
theorem rnd_7 (w v : Nat → Wd) (i : Nat) : rnd w i v 7 = v 6 := rfl
theorem i_sb3_step {α : Type} (w v : Nat → Wd) {i : Nat} (hi : i < 64) (c : Int) (k : Option α) : i_sb3 (c, arr 64 w) ((i : Int), arr 8 v) k = some (.inl (((i + 1 : Nat) : Int), arr 8 (rnd w i v))) := by
  unfold i_sb3
  refine condT (decide_eq_true (by show (i : Int) < 64; omega)) ?_
  refine bnd a8_0 ?_
  refine bnd (g8 v 0 (by omega)) ?_
  refine bnd a8_4 ?_
  refine bnd (g8 v 4 (by omega)) ?_
  refine bnd (rot6 _) ?_
  refine bnd (rot11 _) ?_
  refine bnd (rot25 _) ?_
  refine bnd a8_5 ?_
  refine bnd (g8 v 5 (by omega)) ?_
  refine bnd a8_6 ?_
  refine bnd (g8 v 6 (by omega)) ?_
  refine bnd a8_7 ?_
  refine bnd (g8 v 7 (by omega)) ?_
  refine bnd (ack_nat hi) ?_
  refine bnd (a := iv (kW i)) (by rw [gA0_arr]; exact arr_get kW hi) ?_
  refine bnd (ack_nat hi) ?_
  refine bnd (arr_get w hi) ?_
  refine bnd (rot2 _) ?_
  refine bnd (rot13 _) ?_
  refine bnd (rot22 _) ?_
  refine bnd a8_1 ?_
  refine bnd (g8 v 1 (by omega)) ?_
  refine bnd a8_2 ?_
  refine bnd (g8 v 2 (by omega)) ?_
  refine bnd a8_1 ?_
  refine bnd (g8 v 1 (by omega)) ?_
  refine bnd a8_2 ?_
  refine bnd (g8 v 2 (by omega)) ?_
  refine bnd a8_0 ?_
  refine bnd (g8 v 0 (by omega)) ?_
  refine bnd a8_1 ?_
  refine bnd (g8 v 1 (by omega)) ?_
  refine bnd a8_2 ?_
  refine bnd (g8 v 2 (by omega)) ?_
  refine bnd a8_3 ?_
  refine bnd (g8 v 3 (by omega)) ?_
  refine bnd a8_4 ?_
  refine bnd (g8 v 4 (by omega)) ?_
  refine bnd a8_5 ?_
  refine bnd (g8 v 5 (by omega)) ?_
  refine bnd a8_6 ?_
  refine bnd (g8 v 6 (by omega)) ?_
  refine bnd (arr_alen 8 v) ?_
  refine bnd (alen_ok rfl) ?_
  show some (Sum.inl (IntKind.wrap .i64 ((i : Int) + 1), _)) = _
  rw [wrap_succ (by omega), arr8, rnd_0, rnd_1, rnd_2, rnd_3, rnd_4, rnd_5, rnd_6, rnd_7]
  simp only [xorU, andU, oM32, addU]
theorem i_sb3_end {α : Type} (x : Int × List Int) (l : List Int) (k : Option α) : i_sb3 x (((64 : Nat) : Int), l) k = k.map .inr := by
  unfold i_sb3
  exact condF (decide_eq_false (by show ¬ ((64 : Nat) : Int) < 64; omega)) rfl
def sumS (v : Nat → Wd) (i : Nat) (g : Nat → Wd) : Nat → Wd := upd g i (g i + v i)
theorem it_sumS (v h : Nat → Wd) : ∀ n, it (sumS v) n h = fun j => if j < n then h j + v j else h j
  | 0 => by funext j; rfl
  | n + 1 => by
    show sumS v n (it (sumS v) n h) = _
    rw [it_sumS v h n]
    funext j
    unfold sumS upd
    by_cases h1 : j = n
    · subst h1; simp
    · by_cases h2 : j < n
      · rw [if_neg h1]; show (if j < n then _ else _) = _; rw [if_pos h2, if_pos (by omega)]
      · rw [if_neg h1]; show (if j < n then _ else _) = _; rw [if_neg h2, if_neg (by omega)]
theorem i_sb4_step {α : Type} (v g : Nat → Wd) {i : Nat} (hi : i < 8) (c : Int) (k : Option α) : i_sb4 (c, arr 8 v) ((i : Int), arr 8 g) k = some (.inl (((i + 1 : Nat) : Int), arr 8 (sumS v i g))) := by
  unfold i_sb4
  refine condT (decide_eq_true (by show (i : Int) < 8; omega)) ?_
  refine bnd (ack_nat hi) ?_
  refine bnd (arr_get g hi) ?_
  refine bnd (ack_nat hi) ?_
  refine bnd (arr_get v hi) ?_
  refine bnd (ack_nat hi) ?_
  simp only [addU]
  refine bnd (arr_aset g _ hi) ?_
  show some (Sum.inl (IntKind.wrap .i64 ((i : Int) + 1), _)) = _
  rw [wrap_succ (by omega)]
  rfl
theorem i_sb4_end {α : Type} (x : Int × List Int) (l : List Int) (k : Option α) : i_sb4 x (((8 : Nat) : Int), l) k = k.map .inr := by
  unfold i_sb4
  exact condF (decide_eq_false (by show ¬ ((8 : Nat) : Int) < 8; omega)) rfl
theorem i_shaBlock_eq {s : ByteArray} (hs : s.size = 64) (h : Nat → Wd) : i_shaBlock (arr 8 h) s = some (arr 8 (shaB h s)) := by
  rw [i_shaBlock_open, arr_zero 64]
  refine whileP_n (fun (i : Nat) f => ((i : Int), arr 64 f)) (sch1 s) (n := 16) (t0 := fun _ => 0) rfl (fun i t hi => i_sb1_step hs hi t _) ?_
  refine (i_sb1_end _ _ _).trans (congrArg (Option.map Sum.inr) ?_)
  refine whileP_n (fun (i : Nat) f => (((i + 16 : Nat) : Int), arr 64 f)) sch2 (n := 48) (t0 := it (sch1 s) 16 fun _ => 0) rfl (fun i t hi => i_sb2_step hi t _) ?_
  refine (i_sb2_end _ _).trans (congrArg (Option.map Sum.inr) ?_)
  refine bnd (arr_alen 8 h) (bnd (alen_ok rfl) (bnd (arr_alen 8 h) ?_))
  refine whileP_n (fun (i : Nat) f => ((i : Int), arr 8 f)) (rnd (wAll s)) (n := 64) (t0 := h) rfl (fun i t hi => i_sb3_step _ t hi _ _) ?_
  refine (i_sb3_end _ _ _).trans (congrArg (Option.map Sum.inr) ?_)
  refine whileP_n (fun (i : Nat) f => ((i : Int), arr 8 f)) (sumS (it (rnd (wAll s)) 64 h)) (n := 8) (t0 := h) rfl (fun i t hi => i_sb4_step _ t hi _ _) ?_
  refine (i_sb4_end _ _ _).trans (congrArg (Option.map Sum.inr) ?_)
  refine bnd (arr_alen 8 _) (bnd (alen_ok rfl) (bnd (arr_alen 8 _) (bnd (arr_alen 8 _) ?_)))
  rw [it_sumS]
  exact congrArg some (arr_congr fun j hj => by rw [if_pos hj]; rfl)
end Go.Proofs.SL
namespace Go.Proofs.SL
open Go
noncomputable def s_lb1 {α : Type} (a1 : ByteArray) (s3 : (List Int) × Int) (kk : Option α) : Option (((List Int) × Int) ⊕ α) :=
  cond (decide (s3.2 < 16)) (Option.bind (sidx a1 (IntKind.wrap .i64 (4 * s3.2))) (fun y5 => Option.bind (sidx a1 (IntKind.wrap .i64 (IntKind.wrap .i64 (4 * s3.2) + 1))) (fun y6 => Option.bind (sidx a1 (IntKind.wrap .i64 (IntKind.wrap .i64 (4 * s3.2) + 2))) (fun y7 => Option.bind (sidx a1 (IntKind.wrap .i64 (IntKind.wrap .i64 (4 * s3.2) + 3))) (fun y8 => Option.bind (idx s3.1 s3.2) (fun y9 => Option.bind (some (s3.1.set (s3.2.toNat) (bits .or .i64 (bits .or .i64 (bits .or .i64 (IntKind.wrap .i64 (IntKind.wrap .i64 y5 * 2 ^ (24 : Int).toNat)) (IntKind.wrap .i64 (IntKind.wrap .i64 y6 * 2 ^ (16 : Int).toNat))) (IntKind.wrap .i64 (IntKind.wrap .i64 y7 * 2 ^ (8 : Int).toNat))) (IntKind.wrap .i64 y8)))) (fun y10 => some (.inl ((y10, IntKind.wrap .i64 (s3.2 + 1))))))))))) (Option.map .inr kk)
noncomputable def s_lb2 {α : Type}  (s13 : (List Int) × Int) (kk : Option α) : Option (((List Int) × Int) ⊕ α) :=
  cond (decide (s13.2 < 64)) (Option.bind (idx s13.1 (IntKind.wrap .i64 (s13.2 - 15))) (fun y15 => Option.bind (s_l3Right y15 7) (fun y16 => Option.bind (idx s13.1 (IntKind.wrap .i64 (s13.2 - 15))) (fun y17 => Option.bind (s_l3Right y17 18) (fun y18 => Option.bind (idx s13.1 (IntKind.wrap .i64 (s13.2 - 15))) (fun y19 => Option.bind (idx s13.1 (IntKind.wrap .i64 (s13.2 - 2))) (fun y20 => Option.bind (s_l3Right y20 17) (fun y21 => Option.bind (idx s13.1 (IntKind.wrap .i64 (s13.2 - 2))) (fun y22 => Option.bind (s_l3Right y22 19) (fun y23 => Option.bind (idx s13.1 (IntKind.wrap .i64 (s13.2 - 2))) (fun y24 => Option.bind (idx s13.1 (IntKind.wrap .i64 (s13.2 - 16))) (fun y25 => Option.bind (idx s13.1 (IntKind.wrap .i64 (s13.2 - 7))) (fun y26 => Option.bind (s_l3Word (IntKind.wrap .i64 (IntKind.wrap .i64 (IntKind.wrap .i64 (y25 + bits .xor .i64 (bits .xor .i64 y16 y18) (y19 / 2 ^ (3 : Int).toNat)) + y26) + bits .xor .i64 (bits .xor .i64 y21 y23) (y24 / 2 ^ (10 : Int).toNat)))) (fun y27 => Option.bind (idx s13.1 s13.2) (fun y28 => Option.bind (some (s13.1.set (s13.2.toNat) y27)) (fun y29 => some (.inl ((y29, IntKind.wrap .i64 (s13.2 + 1)))))))))))))))))))) (Option.map .inr kk)
noncomputable def s_lb3 {α : Type} (a2 : List Int) (s13 : (List Int) × Int) (s36 : (List Int) × Int) (kk : Option α) : Option (((List Int) × Int) ⊕ α) :=
  cond (decide (s36.2 < 64)) (Option.bind (idx s36.1 4) (fun y38 => Option.bind (idx s36.1 0) (fun y39 => Option.bind (idx s36.1 7) (fun y40 => Option.bind (s_l3Right y38 6) (fun y41 => Option.bind (s_l3Right y38 11) (fun y42 => Option.bind (s_l3Right y38 25) (fun y43 => Option.bind (idx s36.1 5) (fun y44 => Option.bind (s_l3Word (bits .xor .i64 (if IntKind.signed .i64 then -1 else IntKind.max .i64) y38)) (fun y45 => Option.bind (idx s36.1 6) (fun y46 => Option.bind (idx a2 s36.2) (fun y47 => Option.bind (idx s13.1 s36.2) (fun y48 => Option.bind (s_l3Right y39 2) (fun y49 => Option.bind (s_l3Right y39 13) (fun y50 => Option.bind (s_l3Right y39 22) (fun y51 => Option.bind (idx s36.1 1) (fun y52 => Option.bind (idx s36.1 2) (fun y53 => Option.bind (idx s36.1 1) (fun y54 => Option.bind (idx s36.1 2) (fun y55 => Option.bind (s_l3Word (IntKind.wrap .i64 (IntKind.wrap .i64 (IntKind.wrap .i64 (IntKind.wrap .i64 (IntKind.wrap .i64 (y40 + bits .xor .i64 (bits .xor .i64 y41 y42) y43) + bits .xor .i64 (bits .and .i64 y38 y44) (bits .and .i64 y45 y46)) + y47) + y48) + IntKind.wrap .i64 (bits .xor .i64 (bits .xor .i64 y49 y50) y51 + bits .xor .i64 (bits .xor .i64 (bits .and .i64 y39 y52) (bits .and .i64 y39 y53)) (bits .and .i64 y54 y55))))) (fun y56 => Option.bind (idx s36.1 0) (fun y57 => Option.bind (idx s36.1 1) (fun y58 => Option.bind (idx s36.1 2) (fun y59 => Option.bind (idx s36.1 3) (fun y60 => Option.bind (s_l3Word (IntKind.wrap .i64 (y60 + IntKind.wrap .i64 (IntKind.wrap .i64 (IntKind.wrap .i64 (IntKind.wrap .i64 (y40 + bits .xor .i64 (bits .xor .i64 y41 y42) y43) + bits .xor .i64 (bits .and .i64 y38 y44) (bits .and .i64 y45 y46)) + y47) + y48)))) (fun y61 => Option.bind (idx s36.1 4) (fun y62 => Option.bind (idx s36.1 5) (fun y63 => Option.bind (idx s36.1 6) (fun y64 => Option.bind (some ([y56, y57, y58, y59, y61, y62, y63, y64] : List Int)) (fun y65 => some (.inl ((y65, IntKind.wrap .i64 (s36.2 + 1))))))))))))))))))))))))))))))))) (Option.map .inr kk)
noncomputable def s_lb4 {α : Type} (a0 : List Int) (s36 : (List Int) × Int) (s70 : (List Int) × Int) (kk : Option α) : Option (((List Int) × Int) ⊕ α) :=
  cond (decide (s70.2 < 8)) (Option.bind (idx a0 s70.2) (fun y72 => Option.bind (idx s36.1 s70.2) (fun y73 => Option.bind (s_l3Word (IntKind.wrap .i64 (y72 + y73))) (fun y74 => Option.bind (appP s70.1 [y74]) (fun y76 => some (.inl ((y76, IntKind.wrap .i64 (s70.2 + 1))))))))) (Option.map .inr kk)
theorem s_l3Block_open (a0 : List Int) (a1 : ByteArray) (a2 : List Int) : s_l3Block a0 a1 a2 =
  Option.bind (mkP 8 64 (0 : Int)) (fun y1 => whileP (fun s3 : (List Int) × Int => s_lb1 a1 s3 (whileP (fun s13 : (List Int) × Int => s_lb2  s13 (Option.bind (some ([] : List Int)) (fun y33 => Option.bind (appP y33 a0) (fun y35 => whileP (fun s36 : (List Int) × Int => s_lb3 a2 s13 s36 (Option.bind (some ([] : List Int)) (fun y69 => whileP (fun s70 : (List Int) × Int => s_lb4 a0 s36 s70 (some s70.1)) (y69, 0)))) (y35, 0))))) (s3.1, 16))) (y1, 0)) := rfl
theorem l3Word_eq (n : Int) : s_l3Word n = some (iv (t32 n)) := by
  unfold s_l3Word
  show some (IntKind.wrap .i64 (((BitVec.ofInt 64 n) &&& (BitVec.ofInt 64 4294967295)).toNat : Int)) = _
  have h : ((BitVec.ofInt 64 n) &&& (BitVec.ofInt 64 4294967295)).toNat = (t32 n).toNat := by
    rw [← t32_64, BitVec.toNat_setWidth, BitVec.toNat_and, show (BitVec.ofInt 64 4294967295).toNat = 2 ^ 32 - 1 by decide, Nat.and_two_pow_sub_one_eq_mod]
  rw [h]
  exact congrArg some (wrap64_iv (t32 n))
theorem l3Right_eq (a : Wd) (n : Nat) (h0 : 0 < n) (hn : n < 32) {c : Int} (hc : c = (n : Int)) : s_l3Right (iv a) c = some (iv (ror a n)) := by
  subst hc
  unfold s_l3Right
  refine bnd (a := iv (a >>> n)) ?_ (bnd (a := IntKind.wrap .i64 (iv a * 2 ^ (32 - n))) ?_ (bnd (l3Word_eq _) ?_))
  · unfold shrP
    rw [if_pos ⟨by omega, by show (n : Int) ≤ 64; omega⟩, show (n : Int).toNat = n by omega, shr_iv]
  · unfold shlP
    rw [IntKind.wrap_u64, show (32 - (n : Int)) % 18446744073709551616 = ((32 - n : Nat) : Int) by omega, if_pos ⟨by omega, by show ((32 - n : Nat) : Int) ≤ 64; omega⟩, show ((32 - n : Nat) : Int).toNat = 32 - n by omega]
  · rw [t32_or, t32_wrap, t32_shl, t32_iv, t32_iv]; rfl
theorem s_l3Keys_eq : s_l3Keys = some (arr 64 kW) := by rw [← gA0_arr]; rfl
theorem rnd_0s (w v : Nat → Wd) (i : Nat) : rnd w i v 0 = v 7 + (ror (v 4) 6 ^^^ ror (v 4) 11 ^^^ ror (v 4) 25) + ((v 4 &&& v 5) ^^^ ((BitVec.allOnes 32 ^^^ v 4) &&& v 6)) + kW i + w i + ((ror (v 0) 2 ^^^ ror (v 0) 13 ^^^ ror (v 0) 22) + ((v 0 &&& v 1) ^^^ (v 0 &&& v 2) ^^^ (v 1 &&& v 2))) := by rw [rnd_0, BitVec.add_assoc]
theorem s_lb1_step {α : Type} {s : ByteArray} (hs : s.size = 64) {i : Nat} (hi : i < 16) (f : Nat → Wd) (k : Option α) : s_lb1 s (arr 64 f, (i : Int)) k = some (.inl (arr 64 (sch1 s i f), ((i + 1 : Nat) : Int))) := by
  unfold s_lb1
  refine condT (decide_eq_true (by show (i : Int) < 16; omega)) ?_
  have h0 : IntKind.wrap .i64 (4 * (i : Int)) = ((4 * i : Nat) : Int) := by rw [wrap64_in (by unfold inR; omega)]; omega
  have h1 : ∀ d : Nat, d < 4 → IntKind.wrap .i64 (((4 * i : Nat) : Int) + (d : Int)) = ((4 * i + d : Nat) : Int) := fun d hd => by rw [wrap64_in (by unfold inR; omega)]; omega
  refine bnd (sidx_lit (4 * i) h0 (by omega)) ?_
  refine bnd (sidx_lit (4 * i + 1) ((congrArg (fun q => IntKind.wrap .i64 (q + 1)) h0).trans (h1 1 (by omega))) (by omega)) ?_
  refine bnd (sidx_lit (4 * i + 2) ((congrArg (fun q => IntKind.wrap .i64 (q + 2)) h0).trans (h1 2 (by omega))) (by omega)) ?_
  refine bnd (sidx_lit (4 * i + 3) ((congrArg (fun q => IntKind.wrap .i64 (q + 3)) h0).trans (h1 3 (by omega))) (by omega)) ?_
  refine bnd (arr_idx f (by omega)) ?_
  refine bnd (a := arr 64 (sch1 s i f)) ?_ ?_
  · simp only [bw_iv, wrap64_iv, i24, i16, i8']
    rw [shl64_byte _ 24 (by omega), shl64_byte _ 16 (by omega), shl64_byte _ 8 (by omega)]
    simp only [or64_iv]
    rw [show ((i : Int)).toNat = i by omega, arr_set]
    rfl
  show some (Sum.inl (_, IntKind.wrap .i64 ((i : Int) + 1))) = _
  rw [wrap_succ (by omega)]
theorem s_lb1_end {α : Type} (s : ByteArray) (l : List Int) (k : Option α) : s_lb1 s (l, ((16 : Nat) : Int)) k = k.map .inr := by
  unfold s_lb1
  exact condF (decide_eq_false (by show ¬ ((16 : Nat) : Int) < 16; omega)) rfl
theorem s_lb2_step {α : Type} {i : Nat} (hi : i < 48) (f : Nat → Wd) (k : Option α) : s_lb2 (arr 64 f, ((i + 16 : Nat) : Int)) k = some (.inl (arr 64 (sch2 i f), ((i + 1 + 16 : Nat) : Int))) := by
  unfold s_lb2
  refine condT (decide_eq_true (by show ((i + 16 : Nat) : Int) < 64; omega)) ?_
  refine bnd (a := iv (f (i + 1))) (by show idx (arr 64 f) (IntKind.wrap .i64 (((i + 16 : Nat) : Int) - 15)) = _; rw [wrap64_in (by unfold inR; omega), show ((i + 16 : Nat) : Int) - 15 = ((i + 1 : Nat) : Int) by omega]; exact arr_idx f (by omega)) ?_
  refine bnd (l3Right_eq _ 7 (by omega) (by omega) rfl) ?_
  refine bnd (a := iv (f (i + 1))) (by show idx (arr 64 f) (IntKind.wrap .i64 (((i + 16 : Nat) : Int) - 15)) = _; rw [wrap64_in (by unfold inR; omega), show ((i + 16 : Nat) : Int) - 15 = ((i + 1 : Nat) : Int) by omega]; exact arr_idx f (by omega)) ?_
  refine bnd (l3Right_eq _ 18 (by omega) (by omega) rfl) ?_
  refine bnd (a := iv (f (i + 1))) (by show idx (arr 64 f) (IntKind.wrap .i64 (((i + 16 : Nat) : Int) - 15)) = _; rw [wrap64_in (by unfold inR; omega), show ((i + 16 : Nat) : Int) - 15 = ((i + 1 : Nat) : Int) by omega]; exact arr_idx f (by omega)) ?_
  refine bnd (a := iv (f (i + 14))) (by show idx (arr 64 f) (IntKind.wrap .i64 (((i + 16 : Nat) : Int) - 2)) = _; rw [wrap64_in (by unfold inR; omega), show ((i + 16 : Nat) : Int) - 2 = ((i + 14 : Nat) : Int) by omega]; exact arr_idx f (by omega)) ?_
  refine bnd (l3Right_eq _ 17 (by omega) (by omega) rfl) ?_
  refine bnd (a := iv (f (i + 14))) (by show idx (arr 64 f) (IntKind.wrap .i64 (((i + 16 : Nat) : Int) - 2)) = _; rw [wrap64_in (by unfold inR; omega), show ((i + 16 : Nat) : Int) - 2 = ((i + 14 : Nat) : Int) by omega]; exact arr_idx f (by omega)) ?_
  refine bnd (l3Right_eq _ 19 (by omega) (by omega) rfl) ?_
  refine bnd (a := iv (f (i + 14))) (by show idx (arr 64 f) (IntKind.wrap .i64 (((i + 16 : Nat) : Int) - 2)) = _; rw [wrap64_in (by unfold inR; omega), show ((i + 16 : Nat) : Int) - 2 = ((i + 14 : Nat) : Int) by omega]; exact arr_idx f (by omega)) ?_
  refine bnd (a := iv (f (i + 0))) (by show idx (arr 64 f) (IntKind.wrap .i64 (((i + 16 : Nat) : Int) - 16)) = _; rw [wrap64_in (by unfold inR; omega), show ((i + 16 : Nat) : Int) - 16 = ((i + 0 : Nat) : Int) by omega]; exact arr_idx f (by omega)) ?_
  refine bnd (a := iv (f (i + 9))) (by show idx (arr 64 f) (IntKind.wrap .i64 (((i + 16 : Nat) : Int) - 7)) = _; rw [wrap64_in (by unfold inR; omega), show ((i + 16 : Nat) : Int) - 7 = ((i + 9 : Nat) : Int) by omega]; exact arr_idx f (by omega)) ?_
  refine bnd (l3Word_eq _) ?_
  refine bnd (arr_idx f (by omega)) ?_
  simp only [i3, i10, shr_iv, t32_wrap, t32_add, t32_xor, t32_iv]
  refine bnd (a := arr 64 (sch2 i f)) (by rw [show (((i + 16 : Nat) : Int)).toNat = i + 16 by omega, arr_set]; rfl) ?_
  show some (Sum.inl (_, IntKind.wrap .i64 (((i + 16 : Nat) : Int) + 1))) = _
  rw [wrap_succ (by omega)]
theorem s_lb2_end {α : Type} (l : List Int) (k : Option α) : s_lb2 (l, ((48 + 16 : Nat) : Int)) k = k.map .inr := by
  unfold s_lb2
  exact condF (decide_eq_false (by show ¬ ((48 + 16 : Nat) : Int) < 64; omega)) rfl
theorem s_lb3_step {α : Type} (w v : Nat → Wd) {i : Nat} (hi : i < 64) (c : Int) (k : Option α) : s_lb3 (arr 64 kW) (arr 64 w, c) (arr 8 v, (i : Int)) k = some (.inl (arr 8 (rnd w i v), ((i + 1 : Nat) : Int))) := by
  unfold s_lb3
  refine condT (decide_eq_true (by show (i : Int) < 64; omega)) ?_
  refine bnd (i8 v 4 (by omega) rfl) ?_
  refine bnd (i8 v 0 (by omega) rfl) ?_
  refine bnd (i8 v 7 (by omega) rfl) ?_
  refine bnd (l3Right_eq _ 6 (by omega) (by omega) rfl) ?_
  refine bnd (l3Right_eq _ 11 (by omega) (by omega) rfl) ?_
  refine bnd (l3Right_eq _ 25 (by omega) (by omega) rfl) ?_
  refine bnd (i8 v 5 (by omega) rfl) ?_
  refine bnd (l3Word_eq _) ?_
  refine bnd (i8 v 6 (by omega) rfl) ?_
  refine bnd (arr_idx kW hi) ?_
  refine bnd (arr_idx w hi) ?_
  refine bnd (l3Right_eq _ 2 (by omega) (by omega) rfl) ?_
  refine bnd (l3Right_eq _ 13 (by omega) (by omega) rfl) ?_
  refine bnd (l3Right_eq _ 22 (by omega) (by omega) rfl) ?_
  refine bnd (i8 v 1 (by omega) rfl) ?_
  refine bnd (i8 v 2 (by omega) rfl) ?_
  refine bnd (i8 v 1 (by omega) rfl) ?_
  refine bnd (i8 v 2 (by omega) rfl) ?_
  refine bnd (l3Word_eq _) ?_
  refine bnd (i8 v 0 (by omega) rfl) ?_
  refine bnd (i8 v 1 (by omega) rfl) ?_
  refine bnd (i8 v 2 (by omega) rfl) ?_
  refine bnd (i8 v 3 (by omega) rfl) ?_
  refine bnd (l3Word_eq _) ?_
  refine bnd (i8 v 4 (by omega) rfl) ?_
  refine bnd (i8 v 5 (by omega) rfl) ?_
  refine bnd (i8 v 6 (by omega) rfl) ?_
  refine bnd rfl ?_
  show some (Sum.inl (_, IntKind.wrap .i64 ((i : Int) + 1))) = _
  rw [wrap_succ (by omega), arr8, rnd_0s, rnd_1, rnd_2, rnd_3, rnd_4, rnd_5, rnd_6, rnd_7]
  simp only [t32_wrap, t32_add, t32_xor, t32_and, t32_iv, oM64]
theorem s_lb3_end {α : Type} (q : List Int) (x : List Int × Int) (l : List Int) (k : Option α) : s_lb3 q x (l, ((64 : Nat) : Int)) k = k.map .inr := by
  unfold s_lb3
  exact condF (decide_eq_false (by show ¬ ((64 : Nat) : Int) < 64; omega)) rfl
theorem arr_succ (n : Nat) (f : Nat → Wd) : arr (n + 1) f = arr n f ++ [iv (f n)] := by unfold arr; rw [List.range_succ, List.map_append]; rfl
theorem s_lb4_step {α : Type} (v h : Nat → Wd) {i : Nat} (hi : i < 8) (c : Int) (k : Option α) : s_lb4 (arr 8 h) (arr 8 v, c) (arr i (fun j => h j + v j), (i : Int)) k = some (.inl (arr (i + 1) (fun j => h j + v j), ((i + 1 : Nat) : Int))) := by
  unfold s_lb4
  refine condT (decide_eq_true (by show (i : Int) < 8; omega)) ?_
  refine bnd (arr_idx h hi) ?_
  refine bnd (arr_idx v hi) ?_
  refine bnd (l3Word_eq _) ?_
  simp only [t32_wrap, t32_add, t32_iv]
  refine bnd (appP_ok (by show (arr i _).length + 1 ≤ _; rw [arr_len]; omega)) ?_
  show some (Sum.inl (_, IntKind.wrap .i64 ((i : Int) + 1))) = _
  rw [wrap_succ (by omega), arr_succ]
theorem s_lb4_end {α : Type} (q : List Int) (x : List Int × Int) (l : List Int) (k : Option α) : s_lb4 q x (l, ((8 : Nat) : Int)) k = k.map .inr := by
  unfold s_lb4
  exact condF (decide_eq_false (by show ¬ ((8 : Nat) : Int) < 8; omega)) rfl
theorem s_l3Block_eq {s : ByteArray} (hs : s.size = 64) (h : Nat → Wd) : s_l3Block (arr 8 h) s (arr 64 kW) = some (arr 8 (shaB h s)) := by
  rw [s_l3Block_open]
  refine bnd (a := arr 64 fun _ => 0) (by unfold mkP; rw [if_pos (by decide), ← arr_zero]; rfl) ?_
  refine whileP_n (fun (i : Nat) f => (arr 64 f, (i : Int))) (sch1 s) (n := 16) (t0 := fun _ => 0) rfl (fun i t hi => s_lb1_step hs hi t _) ?_
  refine (s_lb1_end _ _ _).trans (congrArg (Option.map Sum.inr) ?_)
  refine whileP_n (fun (i : Nat) f => (arr 64 f, ((i + 16 : Nat) : Int))) sch2 (n := 48) (t0 := it (sch1 s) 16 fun _ => 0) rfl (fun i t hi => s_lb2_step hi t _) ?_
  refine (s_lb2_end _ _).trans (congrArg (Option.map Sum.inr) ?_)
  refine bnd rfl (bnd (a := arr 8 h) (by rw [appP_ok (by rw [arr_len]; decide)]; rfl) ?_)
  refine whileP_n (fun (i : Nat) f => (arr 8 f, (i : Int))) (rnd (wAll s)) (n := 64) (t0 := h) rfl (fun i t hi => s_lb3_step _ t hi _ _) ?_
  refine (s_lb3_end _ _ _ _).trans (congrArg (Option.map Sum.inr) ?_)
  refine bnd rfl ?_
  refine whileP_n (fun (i : Nat) (_ : Unit) => (arr i (fun j => h j + it (rnd (wAll s)) 64 h j), (i : Int))) (fun _ _ => ()) (n := 8) (t0 := ()) rfl (fun i t hi => s_lb4_step _ h hi _ _) ?_
  refine (s_lb4_end _ _ _ _).trans (congrArg (Option.map Sum.inr) ?_)
  rfl
end Go.Proofs.SL
namespace Go.Proofs.SL
open Go
noncomputable def i_fx1 {α : Type}  (s6 : Int × (List UInt8) × Int) (kk : Option α) : Option ((Int × (List UInt8) × Int) ⊕ α) :=
  cond (decide (0 ≤ s6.2.2)) (Option.bind (idx s6.2.1 s6.2.2) (fun y8 => Option.bind (u8P (IntKind.wrap .u8 (bits .and .i64 s6.1 255))) (fun y9 => Option.bind (some (s6.2.1.set (s6.2.2.toNat) y9)) (fun y10 => some (.inl (((s6.1 / 2 ^ (8 : Int).toNat), y10, IntKind.wrap .i64 (s6.2.2 - 1)))))))) (Option.map .inr kk)
theorem i_Fixed_open (a0 : Int) (a1 : Int) : i_Fixed a0 a1 =
  Option.bind (i_within a1 1 7) (fun y1 => gb (!((!y1) || (decide (a0 < 0)))) (shlP .i64 1 (IntKind.wrap .i64 (8 * a1))) (fun y2 => cond (((!y1) || (decide (a0 < 0))) || (decide (y2 ≤ a0))) (some ByteArray.empty) (Option.bind (mkP 1 a1 (0 : UInt8)) (fun y4 => whileP (fun s6 : Int × (List UInt8) × Int => i_fx1  s6 (some (strP s6.2.1))) (a0, y4, IntKind.wrap .i64 (a1 - 1)))))) := rfl
def be (k n : Nat) : List UInt8 := (List.range k).map fun j => UInt8.ofNat (n / 256 ^ (k - 1 - j))
theorem be_len (k n : Nat) : (be k n).length = k := by unfold be; simp
def fil (k n i : Nat) : List UInt8 := (List.range k).map fun j => if k - i ≤ j then UInt8.ofNat (n / 256 ^ (k - 1 - j)) else 0
theorem fil_len (k n i : Nat) : (fil k n i).length = k := by unfold fil; simp
theorem fil_get (k n i j : Nat) (h : j < k) : (fil k n i)[j]? = some (if k - i ≤ j then UInt8.ofNat (n / 256 ^ (k - 1 - j)) else 0) := by
  unfold fil; rw [List.getElem?_map, List.getElem?_range h]; rfl
theorem fil_set (k n i : Nat) (h : i < k) : (fil k n i).set (k - 1 - i) (UInt8.ofNat (n / 256 ^ i)) = fil k n (i + 1) := by
  apply List.ext_getElem?
  intro j
  rw [List.getElem?_set, fil_len]
  by_cases hj : j < k
  · rw [fil_get _ _ _ _ hj, fil_get _ _ _ _ hj]
    by_cases he : k - 1 - i = j
    · subst he
      rw [if_pos rfl, if_pos hj, if_pos (by omega), show k - 1 - (k - 1 - i) = i by omega]
    · rw [if_neg he]
      by_cases h1 : k - i ≤ j
      · rw [if_pos h1, if_pos (by omega)]
      · rw [if_neg h1, if_neg (by omega)]
  · have h1 : ∀ m, (fil k n m)[j]? = none := fun m => List.getElem?_eq_none (by rw [fil_len]; omega)
    rw [h1, h1, if_neg (by omega)]
theorem fil_all (k n : Nat) : fil k n k = be k n := by
  unfold fil be
  exact List.map_congr_left fun j hj => by rw [if_pos (by omega)]
theorem fil_zero (k n : Nat) : fil k n 0 = List.replicate k 0 := by
  apply List.ext_getElem?
  intro j
  by_cases hj : j < k
  · rw [fil_get _ _ _ _ hj, if_neg (by omega), List.getElem?_replicate, if_pos hj]
  · rw [List.getElem?_eq_none (by rw [fil_len]; omega), List.getElem?_eq_none (by simp; omega)]
theorem and255 {m : Nat} (h : m < 9223372036854775808) : bits .and .i64 (m : Int) 255 = ((m % 256 : Nat) : Int) := by
  show IntKind.wrap .i64 (((BitVec.ofInt 64 (m : Int)) &&& (BitVec.ofInt 64 255)).toNat : Int) = _
  rw [BitVec.toNat_and, show (BitVec.ofInt 64 255).toNat = 2 ^ 8 - 1 by decide, Nat.and_two_pow_sub_one_eq_mod, BitVec.toNat_ofInt]
  rw [wrap64_in (by unfold inR; omega)]
  omega
theorem u8_mod (m : Nat) : u8P (IntKind.wrap .u8 ((m % 256 : Nat) : Int)) = some (UInt8.ofNat m) := by
  rw [IntKind.wrap_u8, show ((m % 256 : Nat) : Int) % 256 = ((m % 256 : Nat) : Int) by omega]
  unfold u8P
  rw [if_pos (by omega), show (((m % 256 : Nat) : Int)).toNat = m % 256 by omega]
  congr 1
  apply UInt8.toNat_inj.1
  simp
theorem u8_and {m : Nat} (h : m < 9223372036854775808) : u8P (IntKind.wrap .u8 (bits .and .i64 (m : Int) 255)) = some (UInt8.ofNat m) := by rw [and255 h, u8_mod]
theorem i_fx1_step {α : Type} {k n i : Nat} (hi : i < k) (hk : k ≤ 7) (hn : n < 256 ^ k) (kk : Option α) :
    i_fx1 (((n / 256 ^ i : Nat) : Int), fil k n i, (k : Int) - 1 - (i : Int)) kk = some (.inl (((n / 256 ^ (i + 1) : Nat) : Int), fil k n (i + 1), (k : Int) - 1 - ((i + 1 : Nat) : Int))) := by
  have hn' : n < 9223372036854775808 := by
    have : (256 : Nat) ^ k ≤ 256 ^ 7 := Nat.pow_le_pow_right (by omega) hk
    have h7 : (256 : Nat) ^ 7 = 72057594037927936 := by decide
    omega
  unfold i_fx1
  refine condT (decide_eq_true (by show 0 ≤ (k : Int) - 1 - (i : Int); omega)) ?_
  have hx : (k : Int) - 1 - (i : Int) = ((k - 1 - i : Nat) : Int) := by omega
  refine bnd (a := if k - i ≤ k - 1 - i then UInt8.ofNat (n / 256 ^ (k - 1 - (k - 1 - i))) else 0) (by show idx (fil k n i) ((k : Int) - 1 - (i : Int)) = _; rw [hx, idx_nat]; exact fil_get _ _ _ _ (by omega)) ?_
  refine bnd (u8_and (Nat.lt_of_le_of_lt (Nat.div_le_self _ _) hn')) ?_
  refine bnd (a := fil k n (i + 1)) (by show some ((fil k n i).set ((k : Int) - 1 - (i : Int)).toNat _) = _; rw [hx, show (((k - 1 - i : Nat) : Int)).toNat = k - 1 - i by omega, fil_set _ _ _ hi]) ?_
  show some (Sum.inl ((((n / 256 ^ i : Nat) : Int) / 2 ^ (8 : Int).toNat), _, IntKind.wrap .i64 ((k : Int) - 1 - (i : Int) - 1))) = _
  rw [wrap64_in (by unfold inR; omega), show (k : Int) - 1 - (i : Int) - 1 = (k : Int) - 1 - ((i + 1 : Nat) : Int) by omega, i8', Nat.pow_succ, ← Nat.div_div_eq_div_mul]
  rfl
theorem i_fx1_end {α : Type} (m : Int) (l : List UInt8) {x : Int} (hx : x = -1) (kk : Option α) : i_fx1 (m, l, x) kk = kk.map .inr := by
  subst hx
  unfold i_fx1
  exact condF (decide_eq_false (by show ¬ (0 : Int) ≤ -1; omega)) rfl
theorem i_Fixed_eq {k n : Nat} (h0 : 0 < k) (hk : k ≤ 7) (hn : n < 256 ^ k) {a b : Int} (ha : a = (n : Int)) (hb : b = (k : Int)) : i_Fixed a b = some (strP (be k n)) := by
  subst ha hb
  rw [i_Fixed_open, within_eq]
  refine bnd rfl ?_
  rw [show decide (1 ≤ (k : Int) ∧ (k : Int) ≤ 7) = true from decide_eq_true (by omega), show decide ((n : Int) < 0) = false from decide_eq_false (by omega)]
  have h2 : shlP .i64 1 (IntKind.wrap .i64 (8 * (k : Int))) = some ((256 ^ k : Nat) : Int) := by
    rw [wrap64_in (by unfold inR; omega)]
    unfold shlP
    have h7 : (256 : Nat) ^ k ≤ 256 ^ 7 := Nat.pow_le_pow_right (by omega) hk
    have h77 : (256 : Nat) ^ 7 = 72057594037927936 := by decide
    have e : (256 : Nat) ^ k = 2 ^ (8 * k) := by rw [Nat.pow_mul]
    have e2 : (2 : Int) ^ (8 * k) = ((256 ^ k : Nat) : Int) := by rw [e]; simp
    rw [if_pos ⟨by omega, by show (8 * (k : Int)) ≤ 64; omega⟩, show (8 * (k : Int)).toNat = 8 * k by omega, Int.one_mul, e2, wrap64_in (by unfold inR; omega)]
  have gy : ∀ (o : Option Int) (q : Int → Option ByteArray), gb (!(!true || false)) o q = o.bind q := fun _ _ => rfl
  rw [h2, gy]
  refine bnd rfl ?_
  refine condF (by show ((!true || false) || decide (((256 ^ k : Nat) : Int) ≤ (n : Int))) = false; rw [decide_eq_false (by omega)]; rfl) ?_
  refine bnd (a := List.replicate k 0) (by unfold mkP; rw [if_pos (by omega), show ((k : Int)).toNat = k by omega]) ?_
  refine whileP_n (fun (i : Nat) (_ : Unit) => (((n / 256 ^ i : Nat) : Int), fil k n i, (k : Int) - 1 - (i : Int))) (fun _ _ => ()) (n := k) (t0 := ()) ?_ (fun i t hi => i_fx1_step hi hk hn _) ?_
  · rw [fil_zero, wrap64_in (by unfold inR; omega), Nat.pow_zero, Nat.div_one]
    simp
  · refine (i_fx1_end _ _ (by omega) _).trans ?_
    rw [fil_all]
end Go.Proofs.SL
