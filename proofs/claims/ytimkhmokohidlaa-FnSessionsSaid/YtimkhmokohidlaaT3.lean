/- The texts of the proof, part 3: the base, walks of functions, plain Lean. -/
import Derived.Test.YtimkhmokohidlaaT2
import Derived.Lib.Overlaps
import Derived.Lib.AppendZerosOnto
import Derived.Laws.Externs
import Derived.OrdersHeld
namespace Go.Proofs.SL
open Go
set_option maxHeartbeats 2000000
abbrev T_l1Cur := (TL UInt8) × Int × Int
abbrev D_l1Cur := (List UInt8) × Int × Int
instance one5 : OneF Try.prog 5 := ⟨by kernel_rfl⟩
instance bld144 : BldF Try.prog 144 [(0, 1), (1, 1), (2, 1)] [.slice none 0 0, .int .i64 0, .int .i64 0] := ⟨by kernel_rfl⟩
instance fld144_2 : FldF Try.prog 144 2 2 := ⟨by kernel_rfl⟩
instance fld144_1 : FldF Try.prog 144 1 1 := ⟨by kernel_rfl⟩
instance fld144_0 : FldF Try.prog 144 0 0 := ⟨by kernel_rfl⟩
instance one22 : OneF Try.prog 22 := ⟨by kernel_rfl⟩
instance fn120 : FnF Try.prog 120 := ⟨⟨_, Try.func120, by kernel_rfl, rfl⟩⟩
instance fn59 : FnF Try.prog 59 := ⟨⟨_, Try.func59, by kernel_rfl, rfl⟩⟩
noncomputable def w_big (a0 : List UInt8) : Option Bool :=
  some (decide (1048576 < (a0.length : Int)))
theorem w_big_walk (w : World) (a0 : TL UInt8) (h0 : GT.rd w [] a0) (r : Bool) (hp : w_big (GT.dat a0) = some r) : Spec Try.prog 9 [(TL.hdr a0)].toArray w [] (IsV (.bool r)) := by
  refine Spec.intro Try.func9 rfl Try.ntmps9 rfl ?_
  unfold w_big at hp
  replace hp := dd hp
  refine s11 ?_
  obtain rfl := Option.some.inj hp
  refine s1 ?_
  refine res1 rfl (ResOK.tmp rfl) ⟨rfl, rfl⟩ ms
noncomputable def w_at (a0 : List UInt8) (a1 : Int) : Option Int :=
  cond (decide (a1 < (a0.length : Int))) (Option.bind (idx a0 a1) (fun y2 => some (IntKind.wrap .i64 (y2.toNat : Int)))) (some ((IntKind.wrap .i64 (IntKind.wrap .i64 (a1 * 37) + IntKind.wrap .i64 ((a0.length : Int) * 11))).tmod 256))
theorem w_at_walk (w : World) (a0 : TL UInt8) (a1 : Int) (h0 : GT.rd w [] a0) (r : Int) (hp : w_at (GT.dat a0) a1 = some r) : Spec Try.prog 15 [(TL.hdr a0), .int .i64 a1].toArray w [] (IsV (.int .i64 r)) := by
  refine Spec.intro Try.func15 rfl Try.ntmps15 rfl ?_
  unfold w_at at hp
  replace hp := dd hp
  refine s12 ?_
  refine kp [0, 1, 8] ?_
  refine W_cond rfl (fun hc1 => ?_) (fun hc1 => ?_)
  · replace hp := cond_t hc1 hp
    refine s4 ?_
    replace hp := idx_bind hp; obtain ⟨u2, hy2, hp⟩ := hp
    refine L_idxA (X := a0) rfl rfl rfl el22.h (RdT.old h0) hy2 ?_
    refine L_load0 rfl rfl (RdT.at (RdT.old h0) (hy2).2) one5.h rfl ?_
    refine L_convInt rfl rfl und3.h (by rw [und5.h]; rfl) ?_
    refine s2 ?_
    obtain rfl := Option.some.inj hp
    refine s1 ?_
    refine res1 rfl (ResOK.tmp rfl) ⟨rfl, rfl⟩ ms
  · replace hp := cond_f hc1 hp
    refine s12 ?_
    obtain rfl := Option.some.inj hp
    refine s1 ?_
    refine res1 rfl (ResOK.tmp rfl) ⟨rfl, rfl⟩ ms
noncomputable def s_l1New (a0 : List UInt8) : Option D_l1Cur :=
  whileP (fun s1 : Int × Int => cond ((decide (s1.2 < (a0.length : Int))) && (decide (s1.2 < 4000))) (Option.bind (idx a0 s1.2) (fun y3 => some (.inl ((bits .and .i64 (IntKind.wrap .i64 (IntKind.wrap .i64 (IntKind.wrap .i64 (s1.1 * 131) + IntKind.wrap .i64 (y3.toNat : Int)) + 7)) 1073741823, IntKind.wrap .i64 (s1.2 + 1)))))) (Option.map .inr (some (a0, 0, s1.1)))) (IntKind.wrap .i64 (10101 + (a0.length : Int)), 0)
theorem s_l1New_walk (w : World) (a0 : TL UInt8) (h0 : GT.rd w [] a0) (r : D_l1Cur) (hp : s_l1New (GT.dat a0) = some r) : Spec Try.prog 58 [(TL.hdr a0)].toArray w [] (fun v M => ∃ (b : Nat) (x0 : T_l1Cur), v = .pointer (some ⟨b, 0, none⟩) ∧ GT.dat x0 = r ∧ M = [blk b (GT.cells x0) 144] ∧ x0.1 = a0) := by
  refine Spec.intro Try.func58 rfl Try.ntmps58 rfl ?_
  unfold s_l1New at hp
  replace hp := dd hp
  refine s17 ?_
  refine W_while (σ := Int × Int) GT.dat (fun ((v1_0, v1_1) : Int × Int) => [(3, .int .i64 v1_0), (4, .int .i64 v1_1)]) (fun ((v1_0, v1_1) : Int × Int) => []) [(0, _)] [] (IntKind.wrap .i64 (10101 + ((GT.dat a0).length : Int)), 0) hp sb ms ?_
  clear hp
  rintro ⟨v1_0, v1_1⟩ x1 hp hx1
  replace hp := dd hp
  refine kq [0, 3, 4] ?_
  refine s2 ?_
  refine W_D0 [15] mix (by kernel_rfl) rfl ?_
  refine s2 ?_
  refine D_lenP (X := a0) GC.none (OpV.t rfl) el22.h ?_
  refine s15 ?_
  refine kp [0, 3, 4, 15] ?_
  refine W_cond rfl (fun hc2 => ?_) (fun hc2 => ?_)
  · replace hp := cond_t hc2 hp
    refine s8 ?_
    replace hp := idx_bind hp; obtain ⟨u3, hy3, hp⟩ := hp
    refine L_idxA (X := a0) rfl rfl rfl el22.h (RdT.old h0) hy3 ?_
    refine L_load0 rfl rfl (RdT.at (RdT.old h0) (hy3).2) one5.h rfl ?_
    refine L_convInt rfl rfl und3.h (by rw [und5.h]; rfl) ?_
    refine s10 ?_
    exact ⟨(bits .and .i64 (IntKind.wrap .i64 (IntKind.wrap .i64 (IntKind.wrap .i64 (v1_0 * 131) + IntKind.wrap .i64 (u3.toNat : Int)) + 7)) 1073741823, IntKind.wrap .i64 (v1_1 + 1)), sb, (.sub ms), some_eq hp⟩
  · replace hp := cond_f hc2 hp
    refine W_exit ?_
    replace hp := map_any hp; obtain ⟨a4, hp, hx_a4⟩ := hp
    obtain rfl := hx1 _ hx_a4
    refine s4 ?_
    refine L_build (xs := [(0, .tmp 28), (2, .tmp 29)]) (cs := [(TL.hdr a0), .int .i64 0, .int .i64 v1_0]) rfl rfl bld144.h rfl ?_
    refine bx fun bk31 => ?_
    refine s2 ?_
    obtain rfl := Option.some.inj hp
    refine s1 ?_
    refine res1 rfl (ResOK.tmp rfl) ⟨bk31, (a0, 0, v1_0), rfl, rfl, rfl, rfl⟩ ms
noncomputable def s_l1Byte (a0 : D_l1Cur) : Option (Int × D_l1Cur) :=
  cond (decide (a0.2.1 < (a0.1.length : Int))) (Option.bind (idx a0.1 a0.2.1) (fun y2 => some (bits .and .i64 (IntKind.wrap .i64 (bits .and .i64 (bits .xor .i64 (IntKind.wrap .i64 (IntKind.wrap .i64 (a0.2.2 * 6364136223846793005) + 1442695040888963407) / 2 ^ (33 : Int).toNat) (IntKind.wrap .i64 (IntKind.wrap .i64 (a0.2.2 * 6364136223846793005) + 1442695040888963407) / 2 ^ (45 : Int).toNat)) 255 + IntKind.wrap .i64 (y2.toNat : Int))) 255, (a0.1, IntKind.wrap .i64 (a0.2.1 + 1), IntKind.wrap .i64 (IntKind.wrap .i64 (a0.2.2 * 6364136223846793005) + 1442695040888963407))))) (some (bits .and .i64 (bits .xor .i64 (IntKind.wrap .i64 (IntKind.wrap .i64 (a0.2.2 * 6364136223846793005) + 1442695040888963407) / 2 ^ (33 : Int).toNat) (IntKind.wrap .i64 (IntKind.wrap .i64 (a0.2.2 * 6364136223846793005) + 1442695040888963407) / 2 ^ (45 : Int).toNat)) 255, (a0.1, a0.2.1, IntKind.wrap .i64 (IntKind.wrap .i64 (a0.2.2 * 6364136223846793005) + 1442695040888963407))))
theorem s_l1Byte_walk (w : World) (b0_ : Nat) (a0 : T_l1Cur) (h0_0 : GT.rd w (fps [blk b0_ (GT.cells a0) 144]) a0.1) (r : Int × D_l1Cur) (hp : s_l1Byte (GT.dat a0) = some r) : Spec Try.prog 120 [Value.pointer (some ⟨b0_, 0, none⟩)].toArray w [blk b0_ (GT.cells a0) 144] (fun v M => ∃ (x0 : Int) (y0 : T_l1Cur), v = .int .i64 x0 ∧ (GT.dat x0, GT.dat y0) = r ∧ M = [blk b0_ (GT.cells y0) 144] ∧ y0.1 = a0.1) := by
  obtain ⟨a0_1, a0_2, a0_3⟩ := a0
  change Spec _ _ ([Value.pointer (some ⟨b0_, 0, none⟩)] : List Value).toArray w _ _
  refine Spec.intro Try.func120 rfl Try.ntmps120 rfl ?_
  unfold s_l1Byte at hp
  replace hp := dd hp
  refine s18 ?_
  refine W_D0 [3] mix (by kernel_rfl) rfl ?_
  refine s20 ?_
  refine s10 ?_
  refine W_D0 [34] mix (by kernel_rfl) rfl ?_
  refine s8 ?_
  refine D_lenP (X := a0_1) GC.none (OpV.t rfl) el22.h ?_
  refine s13 ?_
  refine kp [0, 3, 34] ?_
  refine W_cond rfl (fun hc1 => ?_) (fun hc1 => ?_)
  · replace hp := cond_t hc1 hp
    refine s1 ?_
    replace hp := idx_bind hp; obtain ⟨u2, hy2, hp⟩ := hp
    refine W_D0 [3] mix (by kernel_rfl) rfl ?_
    refine s9 ?_
    refine D_idxA (X := a0_1) GC.none (OpV.t rfl) (OpV.t rfl) el22.h (RdT.old h0_0) (fun _ => hy2) ?_
    refine D_load0 GC.none (OpV.t rfl) (fun hg => RdT.at (RdT.old h0_0) (hy2).2) one5.h rfl ?_
    refine D_convInt GC.none (OpV.t rfl) und3.h (by rw [und5.h]; rfl) ?_
    refine s20 ?_
    refine s16 ?_
    obtain rfl := Option.some.inj hp
    refine s1 ?_
    refine res1 rfl (ResOK.tmp rfl) ⟨bits .and .i64 (IntKind.wrap .i64 (bits .and .i64 (bits .xor .i64 (IntKind.wrap .i64 (IntKind.wrap .i64 (a0_3 * 6364136223846793005) + 1442695040888963407) / 2 ^ (33 : Int).toNat) (IntKind.wrap .i64 (IntKind.wrap .i64 (a0_3 * 6364136223846793005) + 1442695040888963407) / 2 ^ (45 : Int).toNat)) 255 + IntKind.wrap .i64 (u2.toNat : Int))) 255, (a0_1, IntKind.wrap .i64 (a0_2 + 1), IntKind.wrap .i64 (IntKind.wrap .i64 (a0_3 * 6364136223846793005) + 1442695040888963407)), rfl, rfl, rfl, rfl⟩ ms
  · replace hp := cond_f hc1 hp
    refine s6 ?_
    obtain rfl := Option.some.inj hp
    refine s1 ?_
    refine res1 rfl (ResOK.tmp rfl) ⟨bits .and .i64 (bits .xor .i64 (IntKind.wrap .i64 (IntKind.wrap .i64 (a0_3 * 6364136223846793005) + 1442695040888963407) / 2 ^ (33 : Int).toNat) (IntKind.wrap .i64 (IntKind.wrap .i64 (a0_3 * 6364136223846793005) + 1442695040888963407) / 2 ^ (45 : Int).toNat)) 255, (a0_1, a0_2, IntKind.wrap .i64 (IntKind.wrap .i64 (a0_3 * 6364136223846793005) + 1442695040888963407)), rfl, rfl, rfl, rfl⟩ ms
noncomputable def s_l1Below (a0 : D_l1Cur) (a1 : Int) : Option (Int × D_l1Cur) :=
  cond (decide (a1 ≤ 0)) (some (0, (a0.1, a0.2.1, a0.2.2))) (cond (decide (a1 ≤ 256)) (Option.bind (s_l1Byte (a0.1, a0.2.1, a0.2.2)) (fun y3 => Option.bind (remP y3.1 a1) (fun y4 => some (y4, (y3.2.1, y3.2.2.1, y3.2.2.2))))) (Option.bind (s_l1Byte (a0.1, a0.2.1, a0.2.2)) (fun y5 => Option.bind (s_l1Byte (y5.2.1, y5.2.2.1, y5.2.2.2)) (fun y6 => Option.bind (s_l1Byte (y6.2.1, y6.2.2.1, y6.2.2.2)) (fun y7 => Option.bind (s_l1Byte (y7.2.1, y7.2.2.1, y7.2.2.2)) (fun y8 => Option.bind (remP (IntKind.wrap .i64 (IntKind.wrap .i64 (IntKind.wrap .i64 (IntKind.wrap .i64 (y5.1 * 16777216) + IntKind.wrap .i64 (y6.1 * 65536)) + IntKind.wrap .i64 (y7.1 * 256)) + y8.1)) a1) (fun y9 => some (y9, (y8.2.1, y8.2.2.1, y8.2.2.2)))))))))
theorem s_l1Below_walk (w : World) (b0_ : Nat) (a0 : T_l1Cur) (a1 : Int) (h0_0 : GT.rd w (fps [blk b0_ (GT.cells a0) 144]) a0.1) (r : Int × D_l1Cur) (hp : s_l1Below (GT.dat a0) a1 = some r) : Spec Try.prog 59 [Value.pointer (some ⟨b0_, 0, none⟩), .int .i64 a1].toArray w [blk b0_ (GT.cells a0) 144] (fun v M => ∃ (x0 : Int) (y0 : T_l1Cur), v = .int .i64 x0 ∧ (GT.dat x0, GT.dat y0) = r ∧ M = [blk b0_ (GT.cells y0) 144] ∧ y0.1 = a0.1) := by
  obtain ⟨a0_1, a0_2, a0_3⟩ := a0
  change Spec _ _ ([Value.pointer (some ⟨b0_, 0, none⟩), .int .i64 a1] : List Value).toArray w _ _
  refine Spec.intro Try.func59 rfl Try.ntmps59 rfl ?_
  unfold s_l1Below at hp
  replace hp := dd hp
  refine s10 ?_
  refine kp [0, 1, 10] ?_
  refine W_cond rfl (fun hc1 => ?_) (fun hc1 => ?_)
  · replace hp := cond_t hc1 hp
    refine s4 ?_
    obtain rfl := Option.some.inj hp
    refine s1 ?_
    refine res1 rfl (ResOK.tmp rfl) ⟨0, (a0_1, a0_2, a0_3), rfl, rfl, rfl, rfl⟩ ms
  · replace hp := cond_f hc1 hp
    refine s7 ?_
    refine kp [0, 1, 12] ?_
    refine W_cond rfl (fun hc2 => ?_) (fun hc2 => ?_)
    · replace hp := cond_t hc2 hp
      refine s3 ?_
      replace hp := ba hp; obtain ⟨y3, hy3, hp⟩ := hp
      refine L_callM [blk b0_ _ _] _ rfl fn120.h rfl pc (by exact fun w hw => s_l1Byte_walk w b0_ (a0_1, a0_2, a0_3) ((RdX.old h0_0) w hw) _ hy3) ?_
      rintro _ _ ⟨y3x0, ⟨y3y0_1, y3y0_2, y3y0_3⟩, rfl, rfl, rfl, hey3_0⟩
      obtain rfl : a0_1 = y3y0_1 := hey3_0.symm
      refine sc ?_
      replace hp := dd hp
      refine s1 ?_
      replace hp := ba hp; obtain ⟨y4, hy4, hp⟩ := hp
      refine L_binV rfl rfl rfl (bv_remP hy4) ?_
      refine s2 ?_
      obtain rfl := Option.some.inj hp
      refine s1 ?_
      refine res1 rfl (ResOK.tmp rfl) ⟨y4, (a0_1, y3y0_2, y3y0_3), rfl, rfl, rfl, rfl⟩ ms
    · replace hp := cond_f hc2 hp
      refine s4 ?_
      replace hp := ba hp; obtain ⟨y5, hy5, hp⟩ := hp
      refine L_callM [blk b0_ _ _] _ rfl fn120.h rfl pc (by exact fun w hw => s_l1Byte_walk w b0_ (a0_1, a0_2, a0_3) ((RdX.old h0_0) w hw) _ hy5) ?_
      rintro _ _ ⟨y5x0, ⟨y5y0_1, y5y0_2, y5y0_3⟩, rfl, rfl, rfl, hey5_0⟩
      obtain rfl : a0_1 = y5y0_1 := hey5_0.symm
      refine sc ?_
      replace hp := dd hp
      refine s5 ?_
      replace hp := ba hp; obtain ⟨y6, hy6, hp⟩ := hp
      refine L_callM [blk b0_ _ _] _ rfl fn120.h rfl pc (by exact fun w hw => s_l1Byte_walk w b0_ (a0_1, y5y0_2, y5y0_3) ((RdX.old h0_0) w hw) _ hy6) ?_
      rintro _ _ ⟨y6x0, ⟨y6y0_1, y6y0_2, y6y0_3⟩, rfl, rfl, rfl, hey6_0⟩
      obtain rfl : a0_1 = y6y0_1 := hey6_0.symm
      refine sc ?_
      replace hp := dd hp
      refine s5 ?_
      replace hp := ba hp; obtain ⟨y7, hy7, hp⟩ := hp
      refine L_callM [blk b0_ _ _] _ rfl fn120.h rfl pc (by exact fun w hw => s_l1Byte_walk w b0_ (a0_1, y6y0_2, y6y0_3) ((RdX.old h0_0) w hw) _ hy7) ?_
      rintro _ _ ⟨y7x0, ⟨y7y0_1, y7y0_2, y7y0_3⟩, rfl, rfl, rfl, hey7_0⟩
      obtain rfl : a0_1 = y7y0_1 := hey7_0.symm
      refine sc ?_
      replace hp := dd hp
      refine s5 ?_
      replace hp := ba hp; obtain ⟨y8, hy8, hp⟩ := hp
      refine L_callM [blk b0_ _ _] _ rfl fn120.h rfl pc (by exact fun w hw => s_l1Byte_walk w b0_ (a0_1, y7y0_2, y7y0_3) ((RdX.old h0_0) w hw) _ hy8) ?_
      rintro _ _ ⟨y8x0, ⟨y8y0_1, y8y0_2, y8y0_3⟩, rfl, rfl, rfl, hey8_0⟩
      obtain rfl : a0_1 = y8y0_1 := hey8_0.symm
      refine sc ?_
      replace hp := dd hp
      refine s15 ?_
      replace hp := ba hp; obtain ⟨y9, hy9, hp⟩ := hp
      refine L_binV rfl rfl rfl (bv_remP hy9) ?_
      refine s2 ?_
      obtain rfl := Option.some.inj hp
      refine s1 ?_
      refine res1 rfl (ResOK.tmp rfl) ⟨y9, (a0_1, y8y0_2, y8y0_3), rfl, rfl, rfl, rfl⟩ ms
noncomputable def s_l1Once (a0 : D_l1Cur) (a1 : Int) : Option (Bool × D_l1Cur) :=
  Option.bind (s_l1Below (a0.1, a0.2.1, a0.2.2) a1) (fun y1 => some (decide (y1.1 = 0), (y1.2.1, y1.2.2.1, y1.2.2.2)))
theorem s_l1Once_walk (w : World) (b0_ : Nat) (a0 : T_l1Cur) (a1 : Int) (h0_0 : GT.rd w (fps [blk b0_ (GT.cells a0) 144]) a0.1) (r : Bool × D_l1Cur) (hp : s_l1Once (GT.dat a0) a1 = some r) : Spec Try.prog 89 [Value.pointer (some ⟨b0_, 0, none⟩), .int .i64 a1].toArray w [blk b0_ (GT.cells a0) 144] (fun v M => ∃ (x0 : Bool) (y0 : T_l1Cur), v = .bool x0 ∧ (GT.dat x0, GT.dat y0) = r ∧ M = [blk b0_ (GT.cells y0) 144] ∧ y0.1 = a0.1) := by
  obtain ⟨a0_1, a0_2, a0_3⟩ := a0
  change Spec _ _ ([Value.pointer (some ⟨b0_, 0, none⟩), .int .i64 a1] : List Value).toArray w _ _
  refine Spec.intro Try.func89 rfl Try.ntmps89 rfl ?_
  unfold s_l1Once at hp
  replace hp := dd hp
  refine s8 ?_
  replace hp := ba hp; obtain ⟨y1, hy1, hp⟩ := hp
  refine L_callM [blk b0_ _ _] _ rfl fn59.h rfl pc (by exact fun w hw => s_l1Below_walk w b0_ (a0_1, a0_2, a0_3) a1 ((RdX.old h0_0) w hw) _ hy1) ?_
  rintro _ _ ⟨y1x0, ⟨y1y0_1, y1y0_2, y1y0_3⟩, rfl, rfl, rfl, hey1_0⟩
  obtain rfl : a0_1 = y1y0_1 := hey1_0.symm
  refine sc ?_
  replace hp := dd hp
  refine s3 ?_
  obtain rfl := Option.some.inj hp
  refine s1 ?_
  refine res1 rfl (ResOK.tmp rfl) ⟨decide (y1x0 = 0), (a0_1, y1y0_2, y1y0_3), rfl, rfl, rfl, rfl⟩ ms
noncomputable def s_l1PickInt (a0 : D_l1Cur) (a1 : List Int) : Option (Int × D_l1Cur) :=
  Option.bind (s_l1Below (a0.1, a0.2.1, a0.2.2) (a1.length : Int)) (fun y1 => Option.bind (idx a1 y1.1) (fun y2 => some (y2, (y1.2.1, y1.2.2.1, y1.2.2.2))))
theorem s_l1PickInt_walk (w : World) (b0_ : Nat) (a0 : T_l1Cur) (a1 : TL Int) (h1 : GT.rd w (fps [blk b0_ (GT.cells a0) 144]) a1) (h0_0 : GT.rd w (fps [blk b0_ (GT.cells a0) 144]) a0.1) (r : Int × D_l1Cur) (hp : s_l1PickInt (GT.dat a0) (GT.dat a1) = some r) : Spec Try.prog 90 [Value.pointer (some ⟨b0_, 0, none⟩), (TL.hdr a1)].toArray w [blk b0_ (GT.cells a0) 144] (fun v M => ∃ (x0 : Int) (y0 : T_l1Cur), v = .int .i64 x0 ∧ (GT.dat x0, GT.dat y0) = r ∧ M = [blk b0_ (GT.cells y0) 144] ∧ y0.1 = a0.1) := by
  obtain ⟨a0_1, a0_2, a0_3⟩ := a0
  change Spec _ _ ([Value.pointer (some ⟨b0_, 0, none⟩), (TL.hdr a1)] : List Value).toArray w _ _
  refine Spec.intro Try.func90 rfl Try.ntmps90 rfl ?_
  unfold s_l1PickInt at hp
  replace hp := dd hp
  refine s10 ?_
  replace hp := ba hp; obtain ⟨y1, hy1, hp⟩ := hp
  refine L_callM [blk b0_ _ _] _ rfl fn59.h rfl pc (by exact fun w hw => s_l1Below_walk w b0_ (a0_1, a0_2, a0_3) ((GT.dat a1).length : Int) ((RdX.old h0_0) w hw) _ hy1) ?_
  rintro _ _ ⟨y1x0, ⟨y1y0_1, y1y0_2, y1y0_3⟩, rfl, rfl, rfl, hey1_0⟩
  obtain rfl : a0_1 = y1y0_1 := hey1_0.symm
  refine sc ?_
  replace hp := dd hp
  replace hp := idx_bind hp; obtain ⟨u2, hy2, hp⟩ := hp
  refine L_idxA (X := a1) rfl rfl rfl el34.h (RdT.old h1) hy2 ?_
  refine L_load0 rfl rfl (RdT.at (RdT.old h1) (hy2).2) one3.h rfl ?_
  refine s2 ?_
  obtain rfl := Option.some.inj hp
  refine s1 ?_
  refine res1 rfl (ResOK.tmp rfl) ⟨u2, (a0_1, y1y0_2, y1y0_3), rfl, rfl, rfl, rfl⟩ ms
noncomputable def s_l1Pick (a0 : D_l1Cur) (a1 : List ByteArray) : Option (ByteArray × D_l1Cur) :=
  Option.bind (s_l1Below (a0.1, a0.2.1, a0.2.2) (a1.length : Int)) (fun y1 => Option.bind (idx a1 y1.1) (fun y2 => some (y2, (y1.2.1, y1.2.2.1, y1.2.2.2))))
theorem s_l1Pick_walk (w : World) (b0_ : Nat) (a0 : T_l1Cur) (a1 : TL ByteArray) (h1 : GT.rd w (fps [blk b0_ (GT.cells a0) 144]) a1) (h0_0 : GT.rd w (fps [blk b0_ (GT.cells a0) 144]) a0.1) (r : ByteArray × D_l1Cur) (hp : s_l1Pick (GT.dat a0) (GT.dat a1) = some r) : Spec Try.prog 132 [Value.pointer (some ⟨b0_, 0, none⟩), (TL.hdr a1)].toArray w [blk b0_ (GT.cells a0) 144] (fun v M => ∃ (x0 : ByteArray) (y0 : T_l1Cur), v = .string x0 ∧ (GT.dat x0, GT.dat y0) = r ∧ M = [blk b0_ (GT.cells y0) 144] ∧ y0.1 = a0.1) := by
  obtain ⟨a0_1, a0_2, a0_3⟩ := a0
  change Spec _ _ ([Value.pointer (some ⟨b0_, 0, none⟩), (TL.hdr a1)] : List Value).toArray w _ _
  refine Spec.intro Try.func132 rfl Try.ntmps132 rfl ?_
  unfold s_l1Pick at hp
  replace hp := dd hp
  refine s10 ?_
  replace hp := ba hp; obtain ⟨y1, hy1, hp⟩ := hp
  refine L_callM [blk b0_ _ _] _ rfl fn59.h rfl pc (by exact fun w hw => s_l1Below_walk w b0_ (a0_1, a0_2, a0_3) ((GT.dat a1).length : Int) ((RdX.old h0_0) w hw) _ hy1) ?_
  rintro _ _ ⟨y1x0, ⟨y1y0_1, y1y0_2, y1y0_3⟩, rfl, rfl, rfl, hey1_0⟩
  obtain rfl : a0_1 = y1y0_1 := hey1_0.symm
  refine sc ?_
  replace hp := dd hp
  replace hp := idx_bind hp; obtain ⟨u2, hy2, hp⟩ := hp
  refine L_idxA (X := a1) rfl rfl rfl el25.h (RdT.old h1) hy2 ?_
  refine L_load0 rfl rfl (RdT.at (RdT.old h1) (hy2).2) one9.h rfl ?_
  refine s2 ?_
  obtain rfl := Option.some.inj hp
  refine s1 ?_
  refine res1 rfl (ResOK.tmp rfl) ⟨u2, (a0_1, y1y0_2, y1y0_3), rfl, rfl, rfl, rfl⟩ ms
noncomputable def s_l1Text (a0 : D_l1Cur) (a1 : Int) : Option (ByteArray × D_l1Cur) :=
  Option.bind (some ([] : List UInt8)) (fun y2 => Option.bind (s_l1Below (a0.1, a0.2.1, a0.2.2) 4) (fun y3 => Option.bind (s_l1Below (y3.2.1, y3.2.2.1, y3.2.2.2) (IntKind.wrap .i64 (a1 + 1))) (fun y4 => whileP (fun s5 : (List UInt8) × Int × Int × Int => cond (decide (0 < s5.2.1)) (Option.bind (s_l1Byte (y4.2.1, s5.2.2.1, s5.2.2.2)) (fun y7 => cond (decide (y3.1 = 1)) (cond (decide (y3.1 = 2)) (Option.bind (u8P (IntKind.wrap .u8 (IntKind.wrap .i64 (97 + ((y7.1).tmod 2).tmod 4)))) (fun y10 => Option.bind (appP s5.1 [y10]) (fun y12 => some (.inl ((y12, IntKind.wrap .i64 (s5.2.1 - 1), y7.2.2.1, y7.2.2.2)))))) (Option.bind (u8P (IntKind.wrap .u8 ((y7.1).tmod 2))) (fun y13 => Option.bind (appP s5.1 [y13]) (fun y15 => some (.inl ((y15, IntKind.wrap .i64 (s5.2.1 - 1), y7.2.2.1, y7.2.2.2))))))) (cond (decide (y3.1 = 2)) (Option.bind (u8P (IntKind.wrap .u8 (IntKind.wrap .i64 (97 + (y7.1).tmod 4)))) (fun y17 => Option.bind (appP s5.1 [y17]) (fun y19 => some (.inl ((y19, IntKind.wrap .i64 (s5.2.1 - 1), y7.2.2.1, y7.2.2.2)))))) (Option.bind (u8P (IntKind.wrap .u8 y7.1)) (fun y20 => Option.bind (appP s5.1 [y20]) (fun y22 => some (.inl ((y22, IntKind.wrap .i64 (s5.2.1 - 1), y7.2.2.1, y7.2.2.2))))))))) (Option.map .inr (some ((strP s5.1), (y4.2.1, s5.2.2.1, s5.2.2.2))))) (y2, y4.1, y4.2.2.1, y4.2.2.2))))
theorem s_l1Text_walk (w : World) (b0_ : Nat) (a0 : T_l1Cur) (a1 : Int) (h0_0 : GT.rd w (fps [blk b0_ (GT.cells a0) 144]) a0.1) (r : ByteArray × D_l1Cur) (hp : s_l1Text (GT.dat a0) a1 = some r) : Spec Try.prog 60 [Value.pointer (some ⟨b0_, 0, none⟩), .int .i64 a1].toArray w [blk b0_ (GT.cells a0) 144] (fun v M => ∃ (x0 : ByteArray) (y0 : T_l1Cur), v = .string x0 ∧ (GT.dat x0, GT.dat y0) = r ∧ M = [blk b0_ (GT.cells y0) 144] ∧ y0.1 = a0.1) := by
  obtain ⟨a0_1, a0_2, a0_3⟩ := a0
  change Spec _ _ ([Value.pointer (some ⟨b0_, 0, none⟩), .int .i64 a1] : List Value).toArray w _ _
  refine Spec.intro Try.func60 rfl Try.ntmps60 rfl ?_
  unfold s_l1Text at hp
  replace hp := dd hp
  refine s6 ?_
  replace hp := ba hp; obtain ⟨y2, hy2, hp⟩ := hp
  refine L_mk0 UInt8 rfl el22.h (fun X1 hdX1 => ?_)
  obtain rfl : GT.dat X1 = y2 := hdX1.trans (Option.some.inj hy2)
  clear hy2 hdX1
  refine s5 ?_
  replace hp := ba hp; obtain ⟨y3, hy3, hp⟩ := hp
  refine L_callM [blk b0_ _ _] _ rfl fn59.h rfl pc (by exact fun w hw => s_l1Below_walk w b0_ (a0_1, a0_2, a0_3) 4 ((RdX.old h0_0) w hw) _ hy3) ?_
  rintro _ _ ⟨y3x0, ⟨y3y0_1, y3y0_2, y3y0_3⟩, rfl, rfl, rfl, hey3_0⟩
  obtain rfl : a0_1 = y3y0_1 := hey3_0.symm
  refine sc ?_
  replace hp := dd hp
  refine s8 ?_
  replace hp := ba hp; obtain ⟨y4, hy4, hp⟩ := hp
  refine L_callM [blk b0_ _ _] _ rfl fn59.h rfl pc (by exact fun w hw => s_l1Below_walk w b0_ (a0_1, y3y0_2, y3y0_3) (IntKind.wrap .i64 (a1 + 1)) ((RdX.old h0_0) w hw) _ hy4) ?_
  rintro _ _ ⟨y4x0, ⟨y4y0_1, y4y0_2, y4y0_3⟩, rfl, rfl, rfl, hey4_0⟩
  obtain rfl : a0_1 = y4y0_1 := hey4_0.symm
  refine sc ?_
  replace hp := dd hp
  refine s3 ?_
  refine W_while (σ := (TL UInt8) × Int × Int × Int) GT.dat (fun ((v5_0, v5_1, v5_2, v5_3) : (TL UInt8) × Int × Int × Int) => [(5, (TL.hdr v5_0)), (7, .int .i64 v5_1)]) (fun ((v5_0, v5_1, v5_2, v5_3) : (TL UInt8) × Int × Int × Int) => [blk b0_ [(TL.hdr a0_1), .int .i64 v5_2, .int .i64 v5_3] 144, treeH v5_0]) [(0, _), (6, _)] [] (X1, y4x0, y4y0_2, y4y0_3) hp sb ms ?_
  clear hp
  rintro ⟨v5_0, v5_1, v5_2, v5_3⟩ x5 hp hx5
  replace hp := dd hp
  refine kq [0, 5, 6, 7] ?_
  refine s6 ?_
  refine kp [0, 5, 6, 7, 17] ?_
  refine W_cond rfl (fun hc6 => ?_) (fun hc6 => ?_)
  · replace hp := cond_t hc6 hp
    refine s6 ?_
    replace hp := ba hp; obtain ⟨y7, hy7, hp⟩ := hp
    refine L_callM [blk b0_ _ _] _ rfl fn120.h rfl pc (by exact fun w hw => s_l1Byte_walk w b0_ (a0_1, v5_2, v5_3) ((RdX.old h0_0) w hw) _ hy7) ?_
    rintro _ _ ⟨y7x0, ⟨y7y0_1, y7y0_2, y7y0_3⟩, rfl, rfl, rfl, hey7_0⟩
    obtain rfl : a0_1 = y7y0_1 := hey7_0.symm
    refine sc ?_
    replace hp := dd hp
    refine s8 ?_
    refine kp [0, 5, 6, 7, 8, 23] ?_
    refine W_cond rfl (fun hc8 => ?_) (fun hc8 => ?_)
    · replace hp := cond_t hc8 hp
      refine s11 ?_
      refine kp [0, 5, 6, 7, 8, 27] ?_
      refine W_cond rfl (fun hc9 => ?_) (fun hc9 => ?_)
      · replace hp := cond_t hc9 hp
        refine s9 ?_
        refine L_convInt rfl rfl und5.h (by rw [und3.h]; rfl) ?_
        replace hp := ba hp; obtain ⟨y10, hy10, hp⟩ := hp
        have ey10 := u8P_some hy10
        try simp only [ey10]
        refine L_buildSlice1 rfl rfl el22.h rfl (by decide) (by decide) rfl (fun bb34 => ?_)
        replace hp := ba hp; obtain ⟨y12, hy12, hp⟩ := hp
        refine L_app1F (X := v5_0) (y10 : UInt8) rfl rfl rfl el22.h rfl rfl pk mm  hy12 (by decide) (fun X11 hdX11 => ?_)
        subst hdX11
        refine s7 ?_
        exact ⟨(X11, IntKind.wrap .i64 (v5_1 - 1), y7y0_2, y7y0_3), sb, (.sub ms), some_eq hp⟩
      · replace hp := cond_f hc9 hp
        refine s4 ?_
        refine L_convInt rfl rfl und5.h (by rw [und3.h]; rfl) ?_
        replace hp := ba hp; obtain ⟨y13, hy13, hp⟩ := hp
        have ey13 := u8P_some hy13
        try simp only [ey13]
        refine L_buildSlice1 rfl rfl el22.h rfl (by decide) (by decide) rfl (fun bb34 => ?_)
        replace hp := ba hp; obtain ⟨y15, hy15, hp⟩ := hp
        refine L_app1F (X := v5_0) (y13 : UInt8) rfl rfl rfl el22.h rfl rfl pk mm  hy15 (by decide) (fun X14 hdX14 => ?_)
        subst hdX14
        refine s7 ?_
        exact ⟨(X14, IntKind.wrap .i64 (v5_1 - 1), y7y0_2, y7y0_3), sb, (.sub ms), some_eq hp⟩
    · replace hp := cond_f hc8 hp
      refine s7 ?_
      refine kp [0, 5, 6, 7, 8, 27] ?_
      refine W_cond rfl (fun hc16 => ?_) (fun hc16 => ?_)
      · replace hp := cond_t hc16 hp
        refine s9 ?_
        refine L_convInt rfl rfl und5.h (by rw [und3.h]; rfl) ?_
        replace hp := ba hp; obtain ⟨y17, hy17, hp⟩ := hp
        have ey17 := u8P_some hy17
        try simp only [ey17]
        refine L_buildSlice1 rfl rfl el22.h rfl (by decide) (by decide) rfl (fun bb34 => ?_)
        replace hp := ba hp; obtain ⟨y19, hy19, hp⟩ := hp
        refine L_app1F (X := v5_0) (y17 : UInt8) rfl rfl rfl el22.h rfl rfl pk mm  hy19 (by decide) (fun X18 hdX18 => ?_)
        subst hdX18
        refine s7 ?_
        exact ⟨(X18, IntKind.wrap .i64 (v5_1 - 1), y7y0_2, y7y0_3), sb, (.sub ms), some_eq hp⟩
      · replace hp := cond_f hc16 hp
        refine s4 ?_
        refine L_convInt rfl rfl und5.h (by rw [und3.h]; rfl) ?_
        replace hp := ba hp; obtain ⟨y20, hy20, hp⟩ := hp
        have ey20 := u8P_some hy20
        try simp only [ey20]
        refine L_buildSlice1 rfl rfl el22.h rfl (by decide) (by decide) rfl (fun bb34 => ?_)
        replace hp := ba hp; obtain ⟨y22, hy22, hp⟩ := hp
        refine L_app1F (X := v5_0) (y20 : UInt8) rfl rfl rfl el22.h rfl rfl pk mm  hy22 (by decide) (fun X21 hdX21 => ?_)
        subst hdX21
        refine s7 ?_
        exact ⟨(X21, IntKind.wrap .i64 (v5_1 - 1), y7y0_2, y7y0_3), sb, (.sub ms), some_eq hp⟩
  · replace hp := cond_f hc6 hp
    refine W_exit ?_
    replace hp := map_any hp; obtain ⟨a23, hp, hx_a23⟩ := hp
    obtain rfl := hx5 _ hx_a23
    refine s3 ?_
    refine L_toStr (X := v5_0) rfl rfl und22.h und5.h und9.h (RdT.tree mm) ?_
    refine s2 ?_
    obtain rfl := Option.some.inj hp
    refine s1 ?_
    refine res1 rfl (ResOK.tmp rfl) ⟨(strP (GT.dat v5_0)), (a0_1, v5_2, v5_3), rfl, rfl, rfl, rfl⟩ ms
end Go.Proofs.SL
namespace Go.Proofs.SL
open Go
def CurOk (d : D_l1Cur) : Prop := 0 ≤ d.2.1 ∧ d.2.1 ≤ (d.1.length : Int) ∧ d.1.length ≤ 4611686018427387904
theorem and255i (x : Int) : 0 ≤ bits .and .i64 x 255 ∧ bits .and .i64 x 255 ≤ 255 := and_mask x 255 (by omega)
theorem byte_ok {d : D_l1Cur} (h : CurOk d) : ∃ n d', s_l1Byte d = some (n, d') ∧ (0 ≤ n ∧ n ≤ 255) ∧ CurOk d' ∧ d'.1 = d.1 := by
  obtain ⟨b, i, q⟩ := d
  obtain ⟨h1, h2, h3⟩ := h
  dsimp only at h1 h2 h3
  unfold s_l1Byte
  dsimp only
  by_cases hi : i < (b.length : Int)
  · obtain ⟨k, rfl⟩ := Int.eq_ofNat_of_zero_le h1
    have hk : b[k]? = some (b[k]'(by omega)) := List.getElem?_eq_getElem _
    rw [decide_eq_true hi, cond_true, idx_nat, hk]
    refine ⟨_, _, rfl, and255i _, ⟨?_, ?_, h3⟩, rfl⟩
    · dsimp only; rw [wrap_succ (by omega)]; omega
    · dsimp only; rw [wrap_succ (by omega)]; omega
  · rw [decide_eq_false hi, cond_false]
    exact ⟨_, _, rfl, and255i _, ⟨h1, h2, h3⟩, rfl⟩
theorem tmod_lt {a n : Int} (h : 0 ≤ a) (hn : 0 < n) : 0 ≤ a.tmod n ∧ a.tmod n < n := by
  rw [Int.tmod_eq_emod_of_nonneg h]
  exact ⟨Int.emod_nonneg _ (by omega), Int.emod_lt_of_pos _ hn⟩
theorem below_ok {d : D_l1Cur} (h : CurOk d) (n : Int) : ∃ x d', s_l1Below d n = some (x, d') ∧ (0 ≤ x ∧ (0 < n → x < n) ∧ (n ≤ 0 → x = 0)) ∧ CurOk d' := by
  unfold s_l1Below
  simp only [Prod.eta]
  by_cases h0 : n ≤ 0
  · rw [decide_eq_true h0, cond_true]
    exact ⟨_, _, rfl, ⟨Int.le_refl _, fun h => by omega, fun _ => rfl⟩, h⟩
  · rw [decide_eq_false h0, cond_false]
    have hr : ∀ a, 0 ≤ a → ∃ x, remP a n = some x ∧ (0 ≤ x ∧ (0 < n → x < n) ∧ (n ≤ 0 → x = 0)) := fun a ha => by
      have := tmod_lt ha (show 0 < n by omega)
      exact ⟨_, by unfold remP; rw [if_neg (by omega)], this.1, fun _ => this.2, fun h => by omega⟩
    by_cases h1 : n ≤ 256
    · rw [decide_eq_true h1, cond_true]
      obtain ⟨y, d1, e1, g1, c1, _⟩ := byte_ok h
      obtain ⟨x, ex, gx⟩ := hr y g1.1
      rw [e1, Option.bind_some]
      dsimp only
      rw [ex]
      exact ⟨x, d1, rfl, gx, c1⟩
    · rw [decide_eq_false h1, cond_false]
      obtain ⟨y1, d1, e1, g1, c1, _⟩ := byte_ok h
      obtain ⟨y2, d2, e2, g2, c2, _⟩ := byte_ok c1
      obtain ⟨y3, d3, e3, g3, c3, _⟩ := byte_ok c2
      obtain ⟨y4, d4, e4, g4, c4, _⟩ := byte_ok c3
      simp only [e1, e2, e3, e4, Option.bind_some]
      obtain ⟨x, ex, gx⟩ := hr (IntKind.wrap .i64 (IntKind.wrap .i64 (IntKind.wrap .i64 (IntKind.wrap .i64 (y1 * 16777216) + IntKind.wrap .i64 (y2 * 65536)) + IntKind.wrap .i64 (y3 * 256)) + y4)) (by
        rw [wrap64_in (n := y1 * 16777216) (by unfold inR; omega), wrap64_in (n := y2 * 65536) (by unfold inR; omega), wrap64_in (n := y3 * 256) (by unfold inR; omega), wrap64_in (n := y1 * 16777216 + y2 * 65536) (by unfold inR; omega), wrap64_in (n := y1 * 16777216 + y2 * 65536 + y3 * 256) (by unfold inR; omega), wrap64_in (by unfold inR; omega)]
        omega)
      rw [ex]
      exact ⟨x, d4, rfl, gx, c4⟩
theorem below_ok' {d : D_l1Cur} (h : CurOk d) (n : Int) : ∃ x d', s_l1Below d n = some (x, d') ∧ (0 ≤ x ∧ (0 < n → x < n) ∧ (n ≤ 0 → x = 0)) ∧ CurOk d' ∧ d'.1 = d.1 := by
  unfold s_l1Below
  simp only [Prod.eta]
  by_cases h0 : n ≤ 0
  · rw [decide_eq_true h0, cond_true]
    exact ⟨_, _, rfl, ⟨Int.le_refl _, fun h => by omega, fun _ => rfl⟩, h, rfl⟩
  · rw [decide_eq_false h0, cond_false]
    have hr : ∀ a, 0 ≤ a → ∃ x, remP a n = some x ∧ (0 ≤ x ∧ (0 < n → x < n) ∧ (n ≤ 0 → x = 0)) := fun a ha => by
      have := tmod_lt ha (show 0 < n by omega)
      exact ⟨_, by unfold remP; rw [if_neg (by omega)], this.1, fun _ => this.2, fun h => by omega⟩
    by_cases h1 : n ≤ 256
    · rw [decide_eq_true h1, cond_true]
      obtain ⟨y, d1, e1, g1, c1, f1⟩ := byte_ok h
      obtain ⟨x, ex, gx⟩ := hr y g1.1
      rw [e1, Option.bind_some]
      dsimp only
      rw [ex]
      exact ⟨x, d1, rfl, gx, c1, f1⟩
    · rw [decide_eq_false h1, cond_false]
      obtain ⟨y1, d1, e1, g1, c1, f1⟩ := byte_ok h
      obtain ⟨y2, d2, e2, g2, c2, f2⟩ := byte_ok c1
      obtain ⟨y3, d3, e3, g3, c3, f3⟩ := byte_ok c2
      obtain ⟨y4, d4, e4, g4, c4, f4⟩ := byte_ok c3
      simp only [e1, e2, e3, e4, Option.bind_some]
      obtain ⟨x, ex, gx⟩ := hr (IntKind.wrap .i64 (IntKind.wrap .i64 (IntKind.wrap .i64 (IntKind.wrap .i64 (y1 * 16777216) + IntKind.wrap .i64 (y2 * 65536)) + IntKind.wrap .i64 (y3 * 256)) + y4)) (by
        rw [wrap64_in (n := y1 * 16777216) (by unfold inR; omega), wrap64_in (n := y2 * 65536) (by unfold inR; omega), wrap64_in (n := y3 * 256) (by unfold inR; omega), wrap64_in (n := y1 * 16777216 + y2 * 65536) (by unfold inR; omega), wrap64_in (n := y1 * 16777216 + y2 * 65536 + y3 * 256) (by unfold inR; omega), wrap64_in (by unfold inR; omega)]
        omega)
      rw [ex]
      exact ⟨x, d4, rfl, gx, c4, by rw [f4, f3, f2, f1]⟩
theorem once_ok {d : D_l1Cur} (h : CurOk d) (n : Int) : ∃ x d', s_l1Once d n = some (x, d') ∧ CurOk d' := by
  unfold s_l1Once
  simp only [Prod.eta]
  obtain ⟨x, d', e, _, c⟩ := below_ok h n
  rw [e]
  exact ⟨_, d', rfl, c⟩
theorem u8P_wrap (z : Int) : ∃ b, u8P (IntKind.wrap .u8 z) = some b := by
  rw [IntKind.wrap_u8]
  exact ⟨_, if_pos ⟨Int.emod_nonneg _ (by omega), Int.emod_lt_of_pos _ (by omega)⟩⟩
theorem text_ok' {d : D_l1Cur} (h : CurOk d) {n : Int} (h0 : 0 ≤ n) (hn : n ≤ 1000000) : ∃ s d', s_l1Text d n = some (s, d') ∧ (s.size : Int) ≤ n ∧ CurOk d' ∧ d'.1 = d.1 := by
  unfold s_l1Text
  simp only [Prod.eta, Option.bind_some]
  obtain ⟨y3, d3, e3, _, c3, f3⟩ := below_ok' h 4
  rw [e3, Option.bind_some]
  dsimp only
  rw [wrap64_in (by unfold inR; omega)]
  obtain ⟨y4, d4, e4, g4, c4, f4⟩ := below_ok' c3 (n + 1)
  rw [e4, Option.bind_some]
  dsimp only
  have hy := g4.2.1 (by omega)
  refine (fun ⟨r, hr, hq⟩ => ⟨r.1, r.2, hr, hq⟩ : (∃ r : ByteArray × D_l1Cur, _ = some r ∧ ((r.1.size : Int) ≤ n ∧ CurOk r.2 ∧ r.2.1 = d.1)) → _) (whileP_rule (fun s : List UInt8 × Int × Int × Int => 0 ≤ s.2.1 ∧ (s.1.length : Int) + s.2.1 ≤ n ∧ CurOk (d4.1, s.2.2.1, s.2.2.2)) (fun s => s.2.1.toNat) _ ?_ ([], y4, d4.2.1, d4.2.2) ⟨g4.1, by simp; omega, c4⟩)
  · rintro ⟨out, k, i, q⟩ ⟨h1, h2, h3⟩
    dsimp only at h1 h2 h3 ⊢
    by_cases hk : 0 < k
    · left
      obtain ⟨y7, d7, e7, g7, c7, e71⟩ := byte_ok h3
      simp only [decide_eq_true hk, cond_true, e7, Option.bind_some]
      have ho : ∀ b : UInt8, appP out [b] = some (out ++ [b]) := fun b => appP_ok (by simp; omega)
      have hfin : ∀ b : UInt8, 0 ≤ IntKind.wrap .i64 (k - 1) ∧ (((out ++ [b]).length : Nat) : Int) + IntKind.wrap .i64 (k - 1) ≤ n ∧ CurOk (d4.1, d7.2.1, d7.2.2) := fun b => by
        rw [wrap64_in (by unfold inR; omega), List.length_append]
        refine ⟨by omega, by simp; omega, ?_⟩
        have := c7
        unfold CurOk at this ⊢
        dsimp only at e71 ⊢
        rw [e71] at this
        exact this
      have hm : (IntKind.wrap .i64 (k - 1)).toNat < k.toNat := by rw [wrap64_in (by unfold inR; omega)]; omega
      have fin : ∀ z : Int, ∃ s', (Option.bind (u8P (IntKind.wrap .u8 z)) fun y => Option.bind (appP out [y]) fun y' => some (Sum.inl (β := ByteArray × D_l1Cur) (y', IntKind.wrap .i64 (k - 1), d7.2.1, d7.2.2))) = some (.inl s') ∧ (0 ≤ s'.2.1 ∧ (s'.1.length : Int) + s'.2.1 ≤ n ∧ CurOk (d4.1, s'.2.2.1, s'.2.2.2)) ∧ s'.2.1.toNat < k.toNat := fun z => by
        obtain ⟨b, hb⟩ := u8P_wrap z
        rw [hb, Option.bind_some, ho, Option.bind_some]
        exact ⟨_, rfl, hfin b, hm⟩
      cases decide (y3 = 1) <;> cases decide (y3 = 2) <;> exact fin _
    · right
      simp only [decide_eq_false hk, cond_false]
      refine ⟨_, rfl, ?_, h3, by dsimp only; rw [f4, f3]⟩
      dsimp only
      show ((out.length : Nat) : Int) ≤ n
      omega
theorem new_ok {l : List UInt8} (h : l.length ≤ 1048576) : ∃ d, s_l1New l = some d ∧ CurOk d := by
  unfold s_l1New
  refine whileP_rule (fun s : Int × Int => 0 ≤ s.2 ∧ s.2 ≤ (l.length : Int)) (fun s => (l.length - s.2.toNat)) (fun d : D_l1Cur => CurOk d) ?_ (IntKind.wrap .i64 (10101 + (l.length : Int)), 0) ⟨by simp, by simp⟩
  · rintro ⟨q, i⟩ ⟨h1, h2⟩
    dsimp only at h1 h2 ⊢
    by_cases hi : i < (l.length : Int)
    · rw [decide_eq_true hi, Bool.true_and]
      by_cases h4 : i < 4000
      · left
        obtain ⟨k, rfl⟩ := Int.eq_ofNat_of_zero_le h1
        have hk : l[k]? = some (l[k]'(by omega)) := List.getElem?_eq_getElem _
        rw [decide_eq_true h4, cond_true, idx_nat, hk]
        refine ⟨_, rfl, ?_, ?_⟩
        · dsimp only; rw [wrap_succ (by omega)]; omega
        · dsimp only; rw [wrap_succ (by omega)]; omega
      · right
        rw [decide_eq_false h4, cond_false]
        exact ⟨_, rfl, by dsimp only; simp, by dsimp only; simp, by dsimp only; omega⟩
    · right
      rw [decide_eq_false hi, Bool.false_and, cond_false]
      exact ⟨_, rfl, by dsimp only; simp, by dsimp only; simp, by dsimp only; omega⟩
end Go.Proofs.SL
namespace Go.Proofs.SL
open Go
theorem whileP_is {σ α : Type} {f : σ → Option (σ ⊕ α)} {r : α} {s : σ} (I : σ → Prop) (μ : σ → Nat) (h : ∀ s, I s → (∃ s', f s = some (.inl s') ∧ I s' ∧ μ s' < μ s) ∨ f s = some (.inr r)) (hs : I s) : whileP f s = some r := by
  obtain ⟨a, ha, rfl⟩ := whileP_rule I μ (· = r) (fun s hs => (h s hs).imp id fun h => ⟨r, h, rfl⟩) s hs
  exact ha
theorem pickint_ok {d : D_l1Cur} (h : CurOk d) {l : List Int} (hl : 0 < l.length) : ∃ x d', s_l1PickInt d l = some (x, d') ∧ x ∈ l ∧ CurOk d' := by
  unfold s_l1PickInt
  simp only [Prod.eta]
  obtain ⟨y, d1, e1, g1, c1⟩ := below_ok h (l.length : Int)
  rw [e1, Option.bind_some]
  dsimp only
  obtain ⟨k, rfl⟩ := Int.eq_ofNat_of_zero_le g1.1
  have hk : k < l.length := by have := g1.2.1 (by omega); omega
  rw [idx_nat, List.getElem?_eq_getElem hk, Option.bind_some]
  exact ⟨_, _, rfl, List.getElem_mem hk, c1⟩
theorem at_ok {l : List UInt8} {i : Int} (h : l.length ≤ 1048576) (h0 : 0 ≤ i) (h1 : i ≤ 1000) : ∃ x, w_at l i = some x ∧ 0 ≤ x := by
  unfold w_at
  obtain ⟨k, rfl⟩ := Int.eq_ofNat_of_zero_le h0
  by_cases hi : (k : Int) < (l.length : Int)
  · have hk : l[k]? = some (l[k]'(by omega)) := List.getElem?_eq_getElem _
    rw [decide_eq_true hi, cond_true, idx_nat, hk]
    refine ⟨_, rfl, ?_⟩
    have := (l[k]'(by omega)).toNat_lt
    rw [wrap64_in (by unfold inR; omega)]; omega
  · rw [decide_eq_false hi, cond_false]
    refine ⟨_, rfl, (tmod_lt ?_ (by omega)).1⟩
    rw [wrap64_in (n := (k : Int) * 37) (by unfold inR; omega), wrap64_in (n := (l.length : Int) * 11) (by unfold inR; omega), wrap64_in (by unfold inR; omega)]
    omega
end Go.Proofs.SL
namespace Go.Proofs.SL
open Go
variable {Γ : Cx} {l : Envl} {M M' M1 M2 F : List HP} {Q : Post} {K : Kont} {w0 w : World} {S0 : List Nat} {P : Program}
variable {rest : List Oper} {d : Nat} {ty : TypeId} {pos : String} {af : Array Edge}
theorem Spec.pre {f : FuncId} {args : Array Value} {R : Value → List HP → Prop} (hc : ∀ w1 S, Holds w1 S M w → Holds w1 S M' w) (h : Spec P f args w M' R) : Spec P f args w M R := fun hw => by
  have h2 : Holds w (fps M) (M' ++ []) w := by simpa using hc _ _ hw
  exact (h (Holds.split h2)).mono fun e w'' ⟨v, M'', h3, h4, h5⟩ => ⟨v, M'', h3, h4, by simpa using Holds.frame h2 h5⟩
section
variable {ops : Array Oper} {Msh pool pool' : List HP} {E : Fl} {rs : List (Option Nat × Rel)} {cs0 : List Nat} {KD : RKont}
end
end Go.Proofs.SL
namespace Go.Proofs.SL
open Go
variable {Γ : Cx} {l l' : Envl} {M M' M1 M2 F A : List HP} {Qp : Post} {K : Kont} {w0 w : World} {S0 : List Nat}
variable {ops : Array Oper} {fuel : Nat} {listed : Array Bool} {i d : Nat} {o : Oper}
theorem wp_put {P : Program} {a : Act} {next : Act → World → Prop} {Q1 Q2 : Exit → Act → World → Prop} (h1 : ∀ e a w, e ≠ .normal → ¬ Q1 e a w) (hd : ∀ a w, next a w → a.defers = [])
    (h : o.wp P a w next Q1) : o.wp P a w (fun a' w' => (∃ u, a' = a.put o.dst u) ∧ next a' w') Q2 := by
  unfold Oper.wp at h ⊢
  generalize (execOp a.eval o).run P w = r at h ⊢
  cases r with
  | ok n w' =>
    cases n <;> simp only [Oper.upon] at h ⊢
    case value u => exact ⟨⟨u, rfl⟩, h⟩
    case skip => exact ⟨⟨_, rfl⟩, h⟩
    case defer df =>
      have := hd _ _ h
      cases hh : o.dst <;> simp [Act.put, hh] at this
    case enter f args =>
      refine Calls.mono h fun e w'' he => ?_
      cases e with
      | returned u => exact ⟨⟨u, rfl⟩, he⟩
      | panicked c => exact (h1 _ _ _ (by simp) he).elim
      | outgrown =>
        obtain ⟨a, w, hq⟩ := he
        exact (h1 _ _ _ (by simp) hq).elim
    case row row args => exact Rows.mono h fun u w'' he => ⟨⟨u, rfl⟩, he⟩
  | halt x w' =>
    cases x <;> simp only [Oper.upon] at h ⊢
    case panic v => exact (h1 _ _ _ (by simp) h).elim
theorem L_one (h : L Γ [o] l M K) (hg : o.guard = none) {a : Act} (ha : Env a Γ.n l) (hw : Holds Γ.w0 Γ.S0 M w) {Q2 : Exit → Act → World → Prop} :
    o.wp Γ.P a w (fun a' w' => (∃ u, a' = a.put o.dst u) ∧ ∃ l' M', Env a' Γ.n l' ∧ Holds Γ.w0 Γ.S0 M' w' ∧ K l' M') Q2 := by
  have h1 := h #[] a w (fun e a' w' => e = .normal ∧ ∃ l' M', Env a' Γ.n l' ∧ Holds Γ.w0 Γ.S0 M' w' ∧ K l' M') ha hw (fun a' w' l' M' q1 q2 q3 => ⟨rfl, l', M', q1, q2, q3⟩)
  unfold wpList at h1
  simp only [Region.wanted, hg, if_true] at h1
  rcases h1 with h1 | ⟨_, a, w, h1⟩
  · refine Oper.wp_mono (fun a' w' h2 => ⟨h2.1, h2.2.2⟩) (wp_put (fun e a w he hq => he hq.1) (fun a w hq => ?_) h1)
    obtain ⟨_, l', M', h3, _⟩ := hq
    exact h3.defers
  · cases h1.1
def AllIn : List HP → List HP → Prop
  | [], _ => True
  | h :: hs, M => h ∈ M ∧ AllIn hs M
theorem AllIn.mem : ∀ {A M : List HP}, AllIn A M → ∀ x, x ∈ A → x ∈ M
  | _ :: _, _, h, x, hx => by
    rcases List.mem_cons.1 hx with rfl | hx
    · exact h.1
    · exact AllIn.mem h.2 x hx
theorem AllIn.of_mem : ∀ {A M : List HP}, (∀ x, x ∈ A → x ∈ M) → AllIn A M
  | [], _, _ => trivial
  | _ :: _, _, h => ⟨h _ (List.mem_cons_self ..), AllIn.of_mem fun x hx => h x (List.mem_cons_of_mem _ hx)⟩
/-- An operation that yields a value, in whatever world bears the parts A, and does nothing else. -/
structure Pu (Γ : Cx) (A : List HP) (l : Envl) (o : Oper) (d : Nat) (v : Value) : Prop where
  dst : o.dst = some d
  lt : d < Γ.n
  gd : o.guard = none
  pu : ∀ a w, Env a Γ.n l → Sees Γ.w0 Γ.S0 A w → (execOp a.eval o).run Γ.P w = .ok (.value v) w
def AH (Γ : Cx) (ops : Array Oper) (A : List HP) (Qp : Post) (fuel : Nat) (listed : Array Bool) (l : Envl) (M : List HP) : Prop :=
  ∀ a w, Env a Γ.n l → Holds Γ.w0 Γ.S0 M w → wpAnyH Γ.P .any ops (liftQ Γ Qp) (Sees Γ.w0 Γ.S0 A) fuel listed a w
theorem W_AH (A : List HP) {id : Nat} (hm : Γ.P.follows .mixedOrders = true) (h : AH Γ ops A Qp ops.size (Array.replicate ops.size false) l M) : W Γ (.region id ops true) l M Qp := fun a w ha hw =>
  wp_region_held hm (h a w.drew ha hw.drew)
theorem AH_done (hr : Region.ready .any ops listed = []) (h : Qp .normal l M) : AH Γ ops A Qp fuel listed l M := fun _ _ ha hw => wpAnyH_done hr ⟨l, M, ha, hw, h⟩ fuel
theorem AH_take {v : Value} (i : Nat) (hi : ops[i]? = some o) (hp : Pu Γ A l o d v) (hs : Region.noSelect ops = true) (hf : Region.free .any ops listed i = true) (hr : (Region.ready .any ops listed).contains i = true)
    (hA : AllIn A M) (hk : AH Γ ops A Qp fuel (listed.setIfInBounds i true) ((d, v) :: l) M) : AH Γ ops A Qp (fuel + 1) listed l M := fun a w ha hw =>
  wpAnyH_take hi hs hf hr (fun _ _ _ h => h) (.inl ⟨by simp [Region.wanted, hp.gd], fun w hw => hp.pu a w ha hw⟩) (hw.seesSub hA.mem) (hk _ w (by rw [hp.dst]; exact ha.put hp.lt) hw)
theorem drop_get {α : Type} {xs : Array α} {i : Nat} {o : α} {rest : List α} (h : xs.toList.drop i = o :: rest) : xs[i]? = some o := by
  rw [← Array.getElem?_toList]
  have := congrArg (fun l => l[0]?) h
  simpa [List.getElem?_drop] using this
theorem AH_one (i : Nat) {rest' : List Oper} (hi : ops.toList.drop i = o :: rest') (hg : o.guard = none) (hr : Region.ready .any ops listed = [i])
    (h : L Γ [o] l M (fun l' M' => AllIn A M' ∧ AH Γ ops A Qp fuel (listed.setIfInBounds i true) l' M')) : AH Γ ops A Qp (fuel + 1) listed l M := fun a w ha hw =>
  wpAnyH_all hr (by simp) fun j hj => by
    rw [List.mem_singleton.1 hj]
    unfold wpOp
    rw [drop_get hi]
    simp only [Region.wanted, hg, if_true]
    refine .inl (Oper.wp_mono (fun a' w' h1 => ?_) (L_one h hg ha hw))
    obtain ⟨_, l', M', h1, h2, h3, h4⟩ := h1
    exact ⟨h2.seesSub h3.mem, h4 a' w' h1 h2⟩
def emH : HP := ⟨[], fun _ => True, fun _ _ _ h => h⟩
theorem Holds.em (h : Holds w0 S0 M w) : Holds w0 S0 (emH :: M) w := h.reFp (List.Perm.of_eq (by rw [fps_cons]; rfl)) fun x hx => by
  rcases List.mem_cons.1 hx with rfl | hx
  · trivial
  · exact h.prs x hx
/-- The same in two states: an allocation (number al) has not come yet, or it has. -/
def AP (Γ : Cx) (ops : Array Oper) (A : List HP) (Qp : Post) (al da : Nat) (z : List Value) (T : TypeId) (fuel : Nat) (listed : Array Bool) (l : Envl) (M : List HP) : Prop :=
  AH Γ ops A Qp (fuel + 1) listed l M ∧ ∀ b, AH Γ ops A Qp fuel (listed.setIfInBounds al true) ((da, .pointer (some ⟨b, 0, none⟩)) :: l) (blk b z T :: M)
theorem sub_new {da : Nat} {v : Value} (h : l.lookup da = none) : Sub l ((da, v) :: l) := fun t u ht => by
  rw [List.lookup_cons]
  cases hb : t == da with
  | true => have : t = da := by simpa using hb
            subst this; rw [h] at ht; cases ht
  | false => exact ht
variable {al da : Nat} {z : List Value} {T : TypeId}
theorem W_AP (A : List HP) (al da : Nat) (z : List Value) (T : TypeId) (n : Nat) {id : Nat} (hm : Γ.P.follows .mixedOrders = true) (hn : ops.size = n + 1) (h : AP Γ ops A Qp al da z T n (Array.replicate (n + 1) false) l M) : W Γ (.region id ops true) l M Qp :=
  W_AH A hm (by rw [hn]; exact h.1)
theorem AP_take {v : Value} (i : Nat) (hi : ops[i]? = some o) (hp : Pu Γ A l o d v) (hs : Region.noSelect ops = true) (hf : Region.free .any ops listed i = true) (hr : (Region.ready .any ops listed).contains i = true)
    (hf2 : Region.free .any ops (listed.setIfInBounds al true) i = true) (hr2 : (Region.ready .any ops (listed.setIfInBounds al true)).contains i = true) (hda : l.lookup da = none) (hne : Nat.beq d da = false) (hia : Nat.beq i al = false)
    (hA : AllIn A M) (hk : AP Γ ops A Qp al da z T fuel (listed.setIfInBounds i true) ((d, v) :: l) M) : AP Γ ops A Qp al da z T (fuel + 1) listed l M := by
  have hne' : d ≠ da := fun e => by subst e; rw [Nat.beq_refl] at hne; cases hne
  have hia' : i ≠ al := fun e => by subst e; rw [Nat.beq_refl] at hia; cases hia
  refine ⟨AH_take i hi hp hs hf hr hA hk.1, fun b => ?_⟩
  refine AH_take i hi (v := v) (d := d) ⟨hp.dst, hp.lt, hp.gd, fun a w ha hw => hp.pu a w (ha.sub (sub_new hda)) hw⟩ hs hf2 hr2 (AllIn.of_mem fun x hx => List.mem_cons_of_mem _ (hA.mem x hx)) ?_
  rw [Array.setIfInBounds_comm _ _ (Ne.symm hia')]
  intro a w ha hw
  refine hk.2 b a w (ha.sub fun t u ht => ?_) hw
  simp only [List.lookup_cons] at ht ⊢
  cases h1 : t == da with
  | true =>
    have : t = da := by simpa using h1
    subst this
    rw [h1] at ht
    cases h2 : t == d with
    | true => exact (hne' (by simpa using h2 : t = d).symm).elim
    | false => exact ht
  | false => rw [h1] at ht; exact ht
theorem AP_step (i : Nat) {rest' : List Oper} (hi0 : ops.toList.drop i = o :: rest') (hg : o.guard = none) (hr1 : Region.ready .any ops listed = [i, al] ∨ Region.ready .any ops listed = [al, i]) (hr2 : Region.ready .any ops (listed.setIfInBounds al true) = [i])
    (hia : Nat.beq i al = false) (hdst : (o.dst == some da) = false) (hda : l.lookup da = none) {oal : Oper} (hoa : ops[al]? = some oal) (hga : oal.guard = none)
    (hal : ∀ l M, L Γ [oal] l M (fun l' M' => ∃ b, l' = (da, .pointer (some ⟨b, 0, none⟩)) :: l ∧ M' = blk b z T :: M)) (hA : AllIn A M)
    (h : ∀ X, L Γ [o] l (X :: M) (fun l' M' => ∃ M1, Pick X M' M1 ∧ AllIn A M1 ∧ l'.lookup da = none ∧ AP Γ ops A Qp al da z T fuel (listed.setIfInBounds i true) l' M1)) :
    AP Γ ops A Qp al da z T (fuel + 1) listed l M := by
  have hi := drop_get hi0
  have hia' : i ≠ al := fun e => by subst e; rw [Nat.beq_refl] at hia; cases hia
  have two : ∀ b, AH Γ ops A Qp (fuel + 1) (listed.setIfInBounds al true) ((da, .pointer (some ⟨b, 0, none⟩)) :: l) (blk b z T :: M) := fun b a w ha hw =>
    wpAnyH_all hr2 (by simp) fun j hj => by
      rw [List.mem_singleton.1 hj]
      unfold wpOp
      rw [hi]
      simp only [Region.wanted, hg, if_true]
      refine .inl (Oper.wp_mono (fun a' w' h1 => ?_) (L_one (h (blk b z T)) hg (ha.sub (sub_new hda)) hw))
      obtain ⟨⟨u, rfl⟩, l', M', h1, h2, M1, h3, h4, h5, h6⟩ := h1
      have h7 := h2.perm h3.perm
      refine ⟨h7.seesSub fun x hx => List.mem_cons_of_mem _ (h4.mem x hx), ?_⟩
      rw [Array.setIfInBounds_comm _ _ (Ne.symm hia')]
      refine h6.2 b _ w' ⟨h1.size, h1.defers, fun t v ht => ?_⟩ h7
      rw [List.lookup_cons] at ht
      cases hb : t == da with
      | true =>
        have : t = da := by simpa using hb
        subst this
        rw [hb] at ht
        cases ht
        have h8 := ha.get t (.pointer (some ⟨b, 0, none⟩)) (by simp [List.lookup_cons])
        cases hd : o.dst with
        | none => exact h8
        | some d =>
          have hne : d ≠ t := fun e => by subst e; rw [hd] at hdst; simp at hdst
          simp only [Act.put]
          rw [Array.getElem?_setIfInBounds_ne hne]
          exact h8
      | false => rw [hb] at ht; exact h1.get t v ht
  have one : ∀ a w, Env a Γ.n l → Holds Γ.w0 Γ.S0 M w → ∀ j, j = i ∨ j = al → wpOp Γ.P ops (liftQ Γ Qp) j (fun a' w' => Sees Γ.w0 Γ.S0 A w' ∧ wpAnyH Γ.P .any ops (liftQ Γ Qp) (Sees Γ.w0 Γ.S0 A) (fuel + 1) (listed.setIfInBounds j true) a' w') a w := fun a w ha hw j hj => by
    rcases hj with rfl | rfl
    · unfold wpOp
      rw [hi]
      simp only [Region.wanted, hg, if_true]
      refine .inl (Oper.wp_mono (fun a' w' h1 => ?_) (L_one (h emH) hg ha hw.em))
      obtain ⟨_, l', M', h1, h2, M1, h3, h4, h5, h6⟩ := h1
      have h7 := (h2.perm h3.perm).sub (M' := M1) ⟨[emH], List.perm_append_comm (l₁ := [emH])⟩
      exact ⟨h7.seesSub h4.mem, h6.1 a' w' h1 h7⟩
    · unfold wpOp
      rw [hoa]
      simp only [Region.wanted, hga, if_true]
      refine .inl (Oper.wp_mono (fun a' w' h1 => ?_) (L_one (hal l M) hga ha hw))
      obtain ⟨_, l', M', h1, h2, b, rfl, rfl⟩ := h1
      exact ⟨h2.seesSub fun x hx => List.mem_cons_of_mem _ (hA.mem x hx), two b a' w' h1 h2⟩
  refine ⟨fun a w ha hw => ?_, two⟩
  rcases hr1 with hr | hr
  · exact wpAnyH_all hr (by simp) fun j hj => one a w ha hw j (by simpa using hj)
  · exact wpAnyH_all hr (by simp) fun j hj => one a w ha hw j ((by simpa using hj : j = al ∨ j = i).symm)
theorem AP_end (hr : Region.ready .any ops listed = [al]) {oal : Oper} {rest' : List Oper} (hoa : ops.toList.drop al = oal :: rest') (hga : oal.guard = none)
    (hal : ∀ l M, L Γ [oal] l M (fun l' M' => ∃ b, l' = (da, .pointer (some ⟨b, 0, none⟩)) :: l ∧ M' = blk b z T :: M)) (hA : AllIn A M)
    (h : ∀ b, AH Γ ops A Qp fuel (listed.setIfInBounds al true) ((da, .pointer (some ⟨b, 0, none⟩)) :: l) (blk b z T :: M)) : AP Γ ops A Qp al da z T fuel listed l M :=
  ⟨AH_one al hoa hga hr fun ops' a w Q ha hw hq => hal l M ops' a w Q ha hw fun a' w' l' M' h1 h2 ⟨b, h3, h4⟩ => hq a' w' l' M' h1 h2 (by
    subst h3; subst h4
    exact ⟨AllIn.of_mem fun x hx => List.mem_cons_of_mem _ (hA.mem x hx), h b⟩), h⟩
/-! Small steps that may be taken first -/
section
variable {ty : TypeId} {pos : String} {af : Array Edge} {P : Program}
theorem PU_pure {op : Op} {v : Value} (hn : Nat.blt d Γ.n = true) (he : ∀ a w, Env a Γ.n l → Sees Γ.w0 Γ.S0 A w → (execOp a.eval { dst := some d, op, type := ty, pos, after := af, guard := none }).run Γ.P w = .ok (.value v) w) :
    Pu Γ A l { dst := some d, op, type := ty, pos, after := af, guard := none } d v := ⟨rfl, Nat.le_of_ble_eq_true hn, rfl, he⟩
theorem PU_move {x : Operand} {v : Value} (hn : Nat.blt d Γ.n = true) (hx : ev l x = some v) : Pu Γ A l { dst := some d, op := .move x, type := ty, pos, after := af, guard := none } d v :=
  PU_pure hn fun a w ha _ => by simp [execOp, ha.eval hx]
theorem PU_binV {op : BinOp} {T U : TypeId} {x y : Operand} {u v r : Value} (hn : Nat.blt d Γ.n = true) (hx : ev l x = some u) (hy : ev l y = some v) (h : BinV Γ.P op T x y u v r) :
    Pu Γ A l { dst := some d, op := .binOp op T x y U, type := ty, pos, after := af, guard := none } d r :=
  PU_pure hn fun a w ha _ => by
    simp only [execOp, ha.eval hx, ha.eval hy]
    rw [Sem.run_bind, h w]; rfl
theorem PU_extract {x : Operand} {i : Nat} {vs : Array Value} {v : Value} (hn : Nat.blt d Γ.n = true) (hx : ev l x = some (.tuple vs)) (hv : vs[i]? = some v) :
    Pu Γ A l { dst := some d, op := .extract x i, type := ty, pos, after := af, guard := none } d v :=
  PU_pure hn fun a w ha _ => by simp [execOp, ha.eval hx, Instr.extract, hv]
theorem PU_fieldAddr {x : Operand} {T f fo g o : Nat} (hn : Nat.blt d Γ.n = true) (hx : ev l x = some (.pointer (some ⟨g, o, none⟩))) (ht : fldOf Γ.P T f = some fo) :
    Pu Γ A l { dst := some d, op := .fieldAddr T x f, type := ty, pos := pos, after := af, guard := none } d (.pointer (some ⟨g, o + fo, none⟩)) :=
  PU_pure hn fun a w ha hw => by
    unfold fldOf at ht
    split at ht <;> (try cases ht)
    rename_i fs hfs
    split at ht <;> (try cases ht)
    rename_i x' hx'
    split at ht <;> (try cases ht)
    rename_i i hi
    split at ht <;> cases ht
    rename_i hsz
    simp [execOp, ha.eval hx, Instr.fieldAt, underlying, hfs, hx', Instr.sureAddr, fieldPlace, sizeOf, typeInfo, hi, hsz, addr_add]
theorem PU_load {x : Operand} {T g off fo : Nat} {cs : List Value} {v : Value} (hn : Nat.blt d Γ.n = true) (hx : ev l x = some (.pointer (some ⟨g, off + fo, none⟩))) (hc : RdC Γ A g off cs) (ht : oneOf Γ.P T = true)
    (hv : cs[fo]? = some v) : Pu Γ A l { dst := some d, op := .load T x, type := ty, pos := pos, after := af, guard := none } d v :=
  PU_pure hn fun a' w ha hw => by simp [execOp, ha.eval hx, Instr.loadAt, Instr.sureAddr, loadVar, run_isAgg_one ht, hc w hw fo v hv]
theorem PU_loadW {x : Operand} {T g off : Nat} {cs : List Value} (hn : Nat.blt d Γ.n = true) (hx : ev l x = some (.pointer (some ⟨g, off, none⟩))) (hc : RdC Γ A g off cs) (ht : aggOf Γ.P T = some cs.length) :
    Pu Γ A l { dst := some d, op := .load T x, type := ty, pos := pos, after := af, guard := none } d (.agg cs.toArray) :=
  PU_pure hn fun a' w ha hw => by
    have hl := run_loadCells_at (P := Γ.P) (hc w hw)
    simp [execOp, ha.eval hx, Instr.loadAt, Instr.sureAddr, loadVar, run_isAgg_agg ht, hl]
section
variable {τ δ : Type} [GT τ δ]
end
end
/-- From here on more is to be kept for the small steps. -/
theorem wpAnyH_S {P : Program} {Q : Exit → Act → World → Prop} {S S' : World → Prop} (hs : ∀ w, S' w → S w) : ∀ (fuel : Nat) (listed : Array Bool) (a : Act) (w : World), wpAnyH P .any ops Q S' fuel listed a w → wpAnyH P .any ops Q S fuel listed a w
  | 0, _, _, _, h => h
  | fuel + 1, _, _, _, h => ⟨h.1, fun i hi => wpOp_mono (fun a' w' h' => ⟨hs _ h'.1, wpAnyH_S hs fuel _ a' w' h'.2⟩) (h.2 i hi)⟩
theorem AH_A (A' : List HP) (hs : AllIn A A') (h : AH Γ ops A' Qp fuel listed l M) : AH Γ ops A Qp fuel listed l M := fun a w ha hw =>
  wpAnyH_S (fun w h => ⟨h.old, fun x hx => h.prs x (hs.mem x hx)⟩) _ _ _ _ (h a w ha hw)
theorem AP_A (A' : List HP) (hs : AllIn A A') (h : AP Γ ops A' Qp al da z T fuel listed l M) : AP Γ ops A Qp al da z T fuel listed l M := ⟨AH_A A' hs h.1, fun b => AH_A A' hs (h.2 b)⟩
end Go.Proofs.SL
namespace Go.Proofs.SL
open Go
variable {Γ : Cx} {l l' : Envl} {M M' M1 M2 F A : List HP} {Qp : Post} {K : Kont} {w0 w : World} {S0 : List Nat}
variable {ops : Array Oper} {fuel : Nat} {listed : Array Bool} {i d : Nat} {o : Oper}
/-- An operation waits for another. -/
def waits (ops : Array Oper) (k c : Nat) : Bool := match ops[k]? with
  | none => false
  | some o => o.after.toList.any fun e => e.on == c && Region.binds .any e
/-- From an operation down to one for which it waits in the end. -/
def chain (ops : Array Oper) (i : Nat) : Nat → List Nat → Bool
  | k, [] => waits ops k i
  | k, c :: cs => waits ops k c && chain ops i c cs
/-- What has come up has had all that it waits for. -/
def Closed (ops : Array Oper) (listed : Array Bool) : Prop := ∀ k o, ops[k]? = some o → listed.getD k false = true → ∀ e, e ∈ o.after → Region.binds .any e = true → listed.getD e.on false = true
def closedB (ops : Array Oper) (listed : Array Bool) : Bool := (List.range ops.size).all fun k => !listed.getD k false || match ops[k]? with
  | none => true
  | some o => o.after.toList.all fun e => !Region.binds .any e || listed.getD e.on false
theorem closed_of (h : closedB ops listed = true) : Closed ops listed := fun k o hk hl e he hb => by
  unfold closedB at h
  rw [List.all_eq_true] at h
  have h1 := h k (List.mem_range.2 (Array.getElem?_eq_some_iff.1 hk).1)
  rw [hk, hl] at h1
  simp only [Bool.not_true, Bool.false_or, List.all_eq_true] at h1
  have h2 := h1 e (by simpa using he)
  rw [hb] at h2
  simpa using h2
theorem waits_spec {k c : Nat} (h : waits ops k c = true) : ∃ o e, ops[k]? = some o ∧ e ∈ o.after ∧ e.on = c ∧ Region.binds .any e = true := by
  unfold waits at h
  split at h
  · cases h
  · rename_i o ho
    rw [List.any_eq_true] at h
    obtain ⟨e, he, h1⟩ := h
    rw [Bool.and_eq_true] at h1
    exact ⟨o, e, ho, by simpa using he, by simpa using h1.1, h1.2⟩
theorem waits_listed (hc : Closed ops listed) {k c : Nat} (h : waits ops k c = true) (hk : listed.getD k false = true ∨ k ∈ Region.ready .any ops listed) : listed.getD c false = true := by
  obtain ⟨o, e, ho, he, rfl, hb⟩ := waits_spec h
  rcases hk with hk | hk
  · exact hc k o ho hk e he hb
  · obtain ⟨_, o', ho', hall⟩ := mem_ready.1 hk
    rw [ho] at ho'; cases ho'
    exact hall e he hb
theorem chain_listed (hc : Closed ops listed) : ∀ (cs : List Nat) {k : Nat}, chain ops i k cs = true → (listed.getD k false = true ∨ k ∈ Region.ready .any ops listed) → listed.getD i false = true
  | [], _, h, hk => waits_listed hc h hk
  | c :: cs, k, h, hk => by
    have h1 := Bool.and_eq_true_iff.1 h
    exact chain_listed hc cs h1.2 (.inl (waits_listed hc h1.1 hk))
theorem Closed.set (hc : Closed ops listed) {j : Nat} (hj : j ∈ Region.ready .any ops listed) : Closed ops (listed.setIfInBounds j true) := fun k o hk hl e he hb => by
  by_cases h : j = k
  · subst h
    obtain ⟨_, o', ho', hall⟩ := mem_ready.1 hj
    rw [hk] at ho'; cases ho'
    exact getD_set_true (hall e he hb)
  · rw [getD_set_ne false h] at hl
    exact getD_set_true (hc k o hk hl e he hb)
/-- Whatever order is picked, and S holds behind every operation until number last has come. -/
def wpG (P : Program) (ops : Array Oper) (Q : Exit → Act → World → Prop) (last : Nat) (S : World → Prop) : Nat → Array Bool → Act → World → Prop
  | 0, listed, a, w => Region.ready .any ops listed = [] ∧ Q .normal a w
  | fuel + 1, listed, a, w => (Region.ready .any ops listed = [] → Q .normal a w) ∧
    ∀ i ∈ Region.ready .any ops listed, wpOp P ops Q i (fun a' w' => ((listed.setIfInBounds i true).getD last false = false → S w') ∧ wpG P ops Q last S fuel (listed.setIfInBounds i true) a' w') a w
theorem wpAny_of_G {P : Program} {Q : Exit → Act → World → Prop} {last : Nat} {S : World → Prop} : ∀ (fuel : Nat) (listed : Array Bool) (a : Act) (w : World), wpG P ops Q last S fuel listed a w → wpAny P .any ops Q fuel listed a w
  | 0, _, _, _, h => h
  | fuel + 1, _, _, _, h => ⟨h.1, fun i hi => wpOp_mono (fun a' w' h' => wpAny_of_G fuel _ a' w' h'.2) (h.2 i hi)⟩
theorem ready_un (h : i ∈ Region.ready .any ops listed) : listed.getD i false = false := by
  have h0 := (mem_ready.1 h).1
  rcases Nat.lt_or_ge i listed.size with h' | h'
  · simp [h'] at h0 ⊢; exact h0
  · simp [Array.getElem?_eq_none h'] at h0
theorem wpG_first {P : Program} {Q : Exit → Act → World → Prop} {last : Nat} {S : World → Prop} {oi : Oper} {v : Value} {cs : List Nat} (hi : ops[i]? = some oi) (hsel : ∀ (j : Nat) (o : Oper) cs b, ops[j]? = some o → o.op ≠ .select cs b)
    (hQ : ∀ c a w, Q (.panic c) (a.put oi.dst v) w → Q (.panic c) a w) (hch : chain ops i last cs = true) (hil : i ≠ last) : ∀ (fuel : Nat) (listed : Array Bool) (a : Act) (w : World), Closed ops listed →
      (∀ j oj, ops[j]? = some oj → j ≠ i → listed.getD j true = false → (∀ e ∈ oj.after, Region.binds .any e = true → e.on ≠ i) → oi.apart ops oj = true) →
      i ∈ Region.ready .any ops listed → YieldsIf P ops S oi v a → S w →
      wpG P ops Q last S fuel (listed.setIfInBounds i true) (a.put oi.dst v) w → wpG P ops Q last S (fuel + 1) listed a w := by
  intro fuel
  induction fuel with
  | zero =>
    intro listed a w hc _ hr hy hS H
    refine ⟨fun h => (by rw [h] at hr; cases hr), fun j hj => ?_⟩
    by_cases hji : j = i
    · subst hji; exact hy.wpOp hi hS ⟨fun _ => hS, H⟩
    · have := ready_mono hj hji
      rw [H.1] at this
      cases this
  | succ fuel ih =>
    intro listed a w hc hfree hr hy hS H
    refine ⟨fun h => (by rw [h] at hr; cases hr), fun j hj => ?_⟩
    by_cases hji : j = i
    · subst hji; exact hy.wpOp hi hS ⟨fun _ => hS, H⟩
    · have h1 := H.2 j (ready_mono hj hji)
      obtain ⟨hjun, oj, hoj, hall⟩ := mem_ready.1 hj
      have hun := ready_un hr
      have hnot : ∀ e ∈ oj.after, Region.binds .any e = true → e.on ≠ i := fun e he hb heq => by
        have h1 := hall e he hb
        rw [heq, hun] at h1
        cases h1
      have hjl : j ≠ last := fun e => by
        subst e
        have := chain_listed hc cs hch (.inr hj)
        rw [hun] at this; cases this
      have hll : listed.getD last false = false := by
        cases hl : listed.getD last false with
        | false => rfl
        | true =>
          have := chain_listed hc cs hch (.inl hl)
          rw [hun] at this; cases this
      have h2 := wpOp_putIf hoj (hfree j oj hoj hji hjun hnot) (fun cs b => hsel i oi cs b hi) (fun cs b => hsel j oj cs b hoj) hQ hy h1
      have hfree' : ∀ k ok, ops[k]? = some ok → k ≠ i → (listed.setIfInBounds j true).getD k true = false →
          (∀ e ∈ ok.after, Region.binds .any e = true → e.on ≠ i) → oi.apart ops ok = true := fun k ok hk hki hun hno => by
        refine hfree k ok hk hki ?_ hno
        by_cases hjk : j = k
        · subst hjk; exact hjun
        · rw [getD_set_ne true hjk] at hun; exact hun
      have hfl : ((listed.setIfInBounds i true).setIfInBounds j true).getD last false = false := by
        rw [getD_set_ne false hjl, getD_set_ne false hil]; exact hll
      refine wpOp_mono (fun a' w' h3 => ⟨fun _ => h3.2.1 hfl, ih (listed.setIfInBounds j true) a' w' (hc.set hj) hfree' (ready_mono hr (Ne.symm hji)) h3.1 (h3.2.1 hfl) ?_⟩) h2
      rw [Array.setIfInBounds_comm _ _ hji]
      exact h3.2.2
theorem wpG_done {P : Program} {Q : Exit → Act → World → Prop} {last : Nat} {S : World → Prop} {a : Act} {w : World} (hr : Region.ready .any ops listed = []) (h : Q .normal a w) : ∀ fuel, wpG P ops Q last S fuel listed a w
  | 0 => ⟨hr, h⟩
  | _ + 1 => ⟨fun _ => h, by rw [hr]; simp⟩
theorem wpG_S {P : Program} {Q : Exit → Act → World → Prop} {last : Nat} {S S' : World → Prop} (hs : ∀ w, S' w → S w) : ∀ (fuel : Nat) (listed : Array Bool) (a : Act) (w : World), wpG P ops Q last S' fuel listed a w → wpG P ops Q last S fuel listed a w
  | 0, _, _, _, h => h
  | fuel + 1, _, _, _, h => ⟨h.1, fun i hi => wpOp_mono (fun a' w' h' => ⟨fun hf => hs _ (h'.1 hf), wpG_S hs fuel _ a' w' h'.2⟩) (h.2 i hi)⟩
/-- Behind number last S no longer counts. -/
theorem wpG_flag {P : Program} {Q : Exit → Act → World → Prop} {last : Nat} {S S' : World → Prop} : ∀ (fuel : Nat) (listed : Array Bool) (a : Act) (w : World), listed.getD last false = true → wpG P ops Q last S' fuel listed a w → wpG P ops Q last S fuel listed a w
  | 0, _, _, _, _, h => h
  | fuel + 1, _, _, _, hl, h => ⟨h.1, fun i hi => wpOp_mono (fun a' w' h' => ⟨fun hf => (by rw [getD_set_true hl] at hf; cases hf), wpG_flag fuel _ a' w' (getD_set_true hl) h'.2⟩) (h.2 i hi)⟩
def AG (Γ : Cx) (ops : Array Oper) (A : List HP) (Qp : Post) (last fuel : Nat) (listed : Array Bool) (l : Envl) (M : List HP) : Prop :=
  ∀ a w, Env a Γ.n l → Holds Γ.w0 Γ.S0 M w → wpG Γ.P ops (liftQ Γ Qp) last (Sees Γ.w0 Γ.S0 A) fuel listed a w
variable {last : Nat}
theorem W_AG (A : List HP) (last : Nat) {id : Nat} (hm : Γ.P.follows .mixedOrders = true) (h : AG Γ ops A Qp last ops.size (Array.replicate ops.size false) l M) : W Γ (.region id ops true) l M Qp := fun a w ha hw =>
  wp_region_any hm (wpAny_of_G _ _ _ _ (h a w.drew ha hw.drew))
theorem AG_done (hr : Region.ready .any ops listed = []) (h : Qp .normal l M) : AG Γ ops A Qp last fuel listed l M := fun _ _ ha hw => wpG_done hr ⟨l, M, ha, hw, h⟩ fuel
theorem AG_take {v : Value} (i : Nat) (cs : List Nat) (hi : ops[i]? = some o) (hp : Pu Γ A l o d v) (hs : Region.noSelect ops = true) (hf : Region.free .any ops listed i = true) (hr : (Region.ready .any ops listed).contains i = true)
    (hch : chain ops i last cs = true) (hil : Nat.beq i last = false) (hcl : closedB ops listed = true)
    (hA : AllIn A M) (hk : AG Γ ops A Qp last fuel (listed.setIfInBounds i true) ((d, v) :: l) M) : AG Γ ops A Qp last (fuel + 1) listed l M := fun a w ha hw =>
  wpG_first hi (Region.noSelect_spec hs) (fun _ _ _ h => h) hch (fun e => by subst e; rw [Nat.beq_refl] at hil; cases hil) fuel listed a w (closed_of hcl) (Region.free_spec hi hf) (by simpa using hr)
    (.inl ⟨by simp [Region.wanted, hp.gd], fun w hw => hp.pu a w ha hw⟩) (hw.seesSub hA.mem) (hk _ w (by rw [hp.dst]; exact ha.put hp.lt) hw)
theorem AG_one (i : Nat) {rest : List Oper} (hi : ops.toList.drop i = o :: rest) (hg : o.guard = none) (hr : Region.ready .any ops listed = [i])
    (h : L Γ [o] l M (fun l' M' => AllIn A M' ∧ AG Γ ops A Qp last fuel (listed.setIfInBounds i true) l' M')) : AG Γ ops A Qp last (fuel + 1) listed l M := fun a w ha hw => by
  refine ⟨fun h0 => (by rw [hr] at h0; cases h0), fun j hj => ?_⟩
  rw [hr] at hj
  rw [List.mem_singleton.1 hj]
  unfold wpOp
  rw [drop_get hi]
  simp only [Region.wanted, hg, if_true]
  refine .inl (Oper.wp_mono (fun a' w' h1 => ?_) (L_one h hg ha hw))
  obtain ⟨_, l', M', h1, h2, h3, h4⟩ := h1
  exact ⟨fun _ => h2.seesSub h3.mem, h4 a' w' h1 h2⟩
/-- The one that writes: nothing need be kept from here on. -/
theorem AG_last (i : Nat) {rest : List Oper} (hi : ops.toList.drop i = o :: rest) (hg : o.guard = none) (hr : Region.ready .any ops listed = [i]) (hil : (listed.setIfInBounds i true).getD last false = true)
    (h : L Γ [o] l M (fun l' M' => AG Γ ops [] Qp last fuel (listed.setIfInBounds i true) l' M')) : AG Γ ops A Qp last (fuel + 1) listed l M := fun a w ha hw => by
  refine ⟨fun h0 => (by rw [hr] at h0; cases h0), fun j hj => ?_⟩
  rw [hr] at hj
  rw [List.mem_singleton.1 hj]
  unfold wpOp
  rw [drop_get hi]
  simp only [Region.wanted, hg, if_true]
  refine .inl (Oper.wp_mono (fun a' w' h1 => ?_) (L_one h hg ha hw))
  obtain ⟨_, l', M', h1, h2, h4⟩ := h1
  refine ⟨fun hf => (by rw [hil] at hf; cases hf), ?_⟩
  exact wpG_flag fuel _ a' w' hil (h4 a' w' h1 h2)
theorem AG_A (A' : List HP) (hs : AllIn A A') (h : AG Γ ops A' Qp last fuel listed l M) : AG Γ ops A Qp last fuel listed l M := fun a w ha hw =>
  wpG_S (fun w h => ⟨h.old, fun x hx => h.prs x (hs.mem x hx)⟩) _ _ _ _ (h a w ha hw)
end Go.Proofs.SL
namespace Go.Proofs.SL
open Go
set_option maxHeartbeats 2000000
instance fn128 : FnF Try.prog 128 := ⟨⟨_, Try.func128, by kernel_rfl, rfl⟩⟩
instance fn129 : FnF Try.prog 129 := ⟨⟨_, Try.func129, by kernel_rfl, rfl⟩⟩
instance fn130 : FnF Try.prog 130 := ⟨⟨_, Try.func130, by kernel_rfl, rfl⟩⟩
instance fn60 : FnF Try.prog 60 := ⟨⟨_, Try.func60, by kernel_rfl, rfl⟩⟩
instance fn131 : FnF Try.prog 131 := ⟨⟨_, Try.func131, by kernel_rfl, rfl⟩⟩
instance fn89 : FnF Try.prog 89 := ⟨⟨_, Try.func89, by kernel_rfl, rfl⟩⟩
instance fn90 : FnF Try.prog 90 := ⟨⟨_, Try.func90, by kernel_rfl, rfl⟩⟩
instance fn132 : FnF Try.prog 132 := ⟨⟨_, Try.func132, by kernel_rfl, rfl⟩⟩
instance fn58 : FnF Try.prog 58 := ⟨⟨_, Try.func58, by kernel_rfl, rfl⟩⟩
instance fn78 : FnF Try.prog 78 := ⟨⟨_, Try.func78, by kernel_rfl, rfl⟩⟩
instance fn9 : FnF Try.prog 9 := ⟨⟨_, Try.func9, by kernel_rfl, rfl⟩⟩
instance fn15 : FnF Try.prog 15 := ⟨⟨_, Try.func15, by kernel_rfl, rfl⟩⟩
instance fn17 : FnF Try.prog 17 := ⟨⟨_, Try.func17, by kernel_rfl, rfl⟩⟩
instance fn18 : FnF Try.prog 18 := ⟨⟨_, Try.func18, by kernel_rfl, rfl⟩⟩
instance fn19 : FnF Try.prog 19 := ⟨⟨_, Try.func19, by kernel_rfl, rfl⟩⟩
instance und4 : UndF Try.prog 4 (.bool) := ⟨by kernel_rfl⟩
instance fn20 : FnF Try.prog 20 := ⟨⟨_, Try.func20, by kernel_rfl, rfl⟩⟩
instance fn22 : FnF Try.prog 22 := ⟨⟨_, Try.func22, by kernel_rfl, rfl⟩⟩
instance fn24 : FnF Try.prog 24 := ⟨⟨_, Try.func24, by kernel_rfl, rfl⟩⟩
instance fn25 : FnF Try.prog 25 := ⟨⟨_, Try.func25, by kernel_rfl, rfl⟩⟩
instance fn23 : FnF Try.prog 23 := ⟨⟨_, Try.func23, by kernel_rfl, rfl⟩⟩
noncomputable def s_l29Some (a0 : D_l1Cur) : Option (D_Desks × D_l1Cur) :=
  Option.bind (s_l1Below (a0.1, a0.2.1, a0.2.2) 18) (fun y1 => whileP (fun s2 : Int × Int × Int × Int × Int × (List D_Sess) => cond (decide (0 < s2.1)) (Option.bind (s_l1Below (y1.2.1, s2.2.1, s2.2.2.1) 8) (fun y4 => jbind (cond (decide (y4.1 = 0)) (some (.inl (decide (y4.1 = 0)))) (cond (decide (y4.1 = 1)) (some (.inl (decide (y4.1 = 1)))) (some (.inl (decide (y4.1 = 2)))))) (fun s5 : Bool => cond s5 (Option.bind (s_l1Below (y4.2.1, y4.2.2.1, y4.2.2.2) 3) (fun y10 => Option.bind (s_l1Below (y10.2.1, y10.2.2.1, y10.2.2.2) 30) (fun y12 => Option.bind (s_SessOpen (s2.2.2.2.1, s2.2.2.2.2.1, s2.2.2.2.2.2) (IntKind.wrap .i64 (1 + y10.1)) (IntKind.wrap .i64 (1 + y12.1))) (fun y14 => some (.inl ((IntKind.wrap .i64 (s2.1 - 1), y12.2.2.1, y12.2.2.2, y14.1.1, y14.1.2.1, y14.1.2.2))))))) (cond (decide (y4.1 = 3)) (Option.bind (s_l1Below (y4.2.1, y4.2.2.1, y4.2.2.2) 9) (fun y17 => Option.bind (s_SessTick (s2.2.2.2.1, s2.2.2.2.2.1, s2.2.2.2.2.2) (IntKind.wrap .i64 (1 + y17.1))) (fun y19 => some (.inl ((IntKind.wrap .i64 (s2.1 - 1), y17.2.2.1, y17.2.2.2, y19.1.1, y19.1.2.1, y19.1.2.2)))))) (cond (decide (y4.1 = 4)) (Option.bind (s_l1Below (y4.2.1, y4.2.2.1, y4.2.2.2) 6) (fun y21 => Option.bind (s_SessEnd (s2.2.2.2.1, s2.2.2.2.2.1, s2.2.2.2.2.2) (IntKind.wrap .i64 (1 + y21.1))) (fun y22 => some (.inl ((IntKind.wrap .i64 (s2.1 - 1), y21.2.2.1, y21.2.2.2, y22.1.1, y22.1.2.1, y22.1.2.2)))))) (Option.bind (s_l1Below (y4.2.1, y4.2.2.1, y4.2.2.2) 6) (fun y25 => Option.bind (s_l1Text (y25.2.1, y25.2.2.1, y25.2.2.2) 5) (fun y27 => Option.bind (catP (ByteArray.mk #[112]) y27.1) (fun y28 => Option.bind (s_SessPut (s2.2.2.2.1, s2.2.2.2.2.1, s2.2.2.2.2.2) (IntKind.wrap .i64 (1 + y25.1)) y28) (fun y30 => some (.inl ((IntKind.wrap .i64 (s2.1 - 1), y27.2.2.1, y27.2.2.2, y30.1.1, y30.1.2.1, y30.1.2.2))))))))))))) (Option.map .inr (Option.bind (s_l1Once (y1.2.1, s2.2.1, s2.2.2.1) 10) (fun y32 => cond y32.1 (Option.bind (s_l1Below (y32.2.1, y32.2.2.1, y32.2.2.2) 4) (fun y34 => cond (decide (y34.1 = 0)) (Option.bind (some ([(-1), 0, 100000, 100001] : List Int)) (fun y36 => Option.bind (s_l1PickInt (y34.2.1, y34.2.2.1, y34.2.2.2) y36) (fun y38 => some ((y38.1, s2.2.2.2.2.1, s2.2.2.2.2.2), (y38.2.1, y38.2.2.1, y38.2.2.2))))) (cond (decide (y34.1 = 1)) (Option.bind (some ([0, 1, 1000, 1001] : List Int)) (fun y40 => Option.bind (s_l1PickInt (y34.2.1, y34.2.2.1, y34.2.2.2) y40) (fun y42 => some ((s2.2.2.2.1, y42.1, s2.2.2.2.2.2), (y42.2.1, y42.2.2.1, y42.2.2.2))))) (cond (decide (y34.1 = 2)) (Option.bind (s_l1Below (y34.2.1, y34.2.2.1, y34.2.2.2) 9) (fun y44 => Option.bind (s_l1Below (y44.2.1, y44.2.2.1, y44.2.2.2) 11) (fun y45 => Option.bind (appP s2.2.2.2.2.2 [(y44.1, y45.1, IntKind.wrap .i64 (s2.2.2.2.1 + 5), ([] : List ByteArray))]) (fun y47 => some ((s2.2.2.2.1, s2.2.2.2.2.1, y47), (y45.2.1, y45.2.2.1, y45.2.2.2)))))) (cond (decide (0 < (s2.2.2.2.2.2.length : Int))) (Option.bind (idx s2.2.2.2.2.2 0) (fun y49 => Option.bind (some ([ByteArray.empty, (ByteArray.mk #[49, 50, 51, 52, 53, 54, 55, 56, 57, 48, 49]), (ByteArray.mk #[111, 107])] : List ByteArray)) (fun y50 => Option.bind (s_l1Pick (y34.2.1, y34.2.2.1, y34.2.2.2) y50) (fun y52 => Option.bind (appP y49.2.2.2 [y52.1]) (fun y53 => Option.bind (idx s2.2.2.2.2.2 0) (fun y55 => Option.bind (some (s2.2.2.2.2.2.set ((0 : Int).toNat) (y49.1, y49.2.1, y49.2.2.1, y53))) (fun y56 => some ((s2.2.2.2.1, s2.2.2.2.2.1, y56), (y52.2.1, y52.2.2.1, y52.2.2.2))))))))) (some ((s2.2.2.2.1, s2.2.2.2.2.1, s2.2.2.2.2.2), (y34.2.1, y34.2.2.1, y34.2.2.2)))))))) (some ((s2.2.2.2.1, s2.2.2.2.2.1, s2.2.2.2.2.2), (y32.2.1, y32.2.2.1, y32.2.2.2))))))) (y1.1, y1.2.2.1, y1.2.2.2, 0, 1, ([] : List D_Sess)))
theorem s_l29Some_walk (w : World) (b0_ : Nat) (a0 : T_l1Cur) (h0_0 : GT.rd w (fps [blk b0_ (GT.cells a0) 144]) a0.1) (r : D_Desks × D_l1Cur) (hp : s_l29Some (GT.dat a0) = some r) : Spec Try.prog 78 [Value.pointer (some ⟨b0_, 0, none⟩)].toArray w [blk b0_ (GT.cells a0) 144] (fun v M => ∃ (x0 : T_Desks) (y0 : T_l1Cur), v = .agg (GT.cells x0).toArray ∧ (GT.dat x0, GT.dat y0) = r ∧ M = [treeH x0, blk b0_ (GT.cells y0) 144] ∧ y0.1 = a0.1) := by
  obtain ⟨a0_1, a0_2, a0_3⟩ := a0
  change Spec _ _ ([Value.pointer (some ⟨b0_, 0, none⟩)] : List Value).toArray w _ _
  refine Spec.intro Try.func78 rfl Try.ntmps78 rfl ?_
  unfold s_l29Some at hp
  replace hp := dd hp
  refine s2 ?_
  refine al fun bk2 => ?_
  refine s3 ?_
  refine L_build (xs := [(1, .const (.int .i64 1))]) (cs := [.int .i64 0, .int .i64 1, (TL.hdr (TL.nil T_Sess 0))]) rfl rfl bld33.h rfl ?_
  refine al fun bk3 => ?_
  refine s6 ?_
  replace hp := ba hp; obtain ⟨y1, hy1, hp⟩ := hp
  refine L_callM [blk b0_ _ _] _ rfl fn59.h rfl pc (by exact fun w hw => s_l1Below_walk w b0_ (a0_1, a0_2, a0_3) 18 ((RdX.old h0_0) w hw) _ hy1) ?_
  rintro _ _ ⟨y1x0, ⟨y1y0_1, y1y0_2, y1y0_3⟩, rfl, rfl, rfl, hey1_0⟩
  obtain rfl : a0_1 = y1y0_1 := hey1_0.symm
  refine sc ?_
  replace hp := dd hp
  refine s3 ?_
  refine W_conv (M' := treeH (TL.nil T_Sess 0) :: _) (fun w h => addNilT (τ := T_Sess) 0 h) ?_
  refine W_while (σ := Int × Int × Int × Int × Int × (TL T_Sess)) GT.dat (fun ((v2_0, v2_1, v2_2, v2_3, v2_4, v2_5) : Int × Int × Int × Int × Int × (TL T_Sess)) => [(4, .int .i64 v2_0)]) (fun ((v2_0, v2_1, v2_2, v2_3, v2_4, v2_5) : Int × Int × Int × Int × Int × (TL T_Sess)) => [blk b0_ [(TL.hdr a0_1), .int .i64 v2_1, .int .i64 v2_2] 144, blk bk3 [.int .i64 v2_3, .int .i64 v2_4, (TL.hdr v2_5)] 33, treeH v2_5]) [(0, _), (2, _), (3, _)] [blk bk2 _ _] (y1x0, y1y0_2, y1y0_3, 0, 1, (TL.nil T_Sess 0)) hp sb ms ?_
  clear hp
  rintro ⟨v2_0, v2_1, v2_2, v2_3, v2_4, v2_5⟩ x2 hp hx2
  replace hp := dd hp
  refine kq [0, 2, 3, 4] ?_
  refine s6 ?_
  refine kp [0, 2, 3, 4, 19] ?_
  refine W_cond rfl (fun hc3 => ?_) (fun hc3 => ?_)
  · replace hp := cond_t hc3 hp
    refine s6 ?_
    replace hp := ba hp; obtain ⟨y4, hy4, hp⟩ := hp
    refine L_callM [blk b0_ _ _] _ rfl fn59.h rfl pc (by exact fun w hw => s_l1Below_walk w b0_ (a0_1, v2_1, v2_2) 8 ((RdX.old h0_0) w hw) _ hy4) ?_
    rintro _ _ ⟨y4x0, ⟨y4y0_1, y4y0_2, y4y0_3⟩, rfl, rfl, rfl, hey4_0⟩
    obtain rfl : a0_1 = y4y0_1 := hey4_0.symm
    refine sc ?_
    replace hp := dd hp
    refine s2 ?_
    refine W_jn (σ := Bool) GT.dat (fun (v5_0 : Bool) => [(36, .bool v5_0)]) (fun (v5_0 : Bool) => []) [(0, .pointer (some ⟨b0_, 0, none⟩)), (2, .pointer (some ⟨bk2, 0, none⟩)), (3, .pointer (some ⟨bk3, 0, none⟩)), (4, .int .i64 v2_0), (23, .int .i64 y4x0)] [blk b0_ [(TL.hdr a0_1), .int .i64 y4y0_2, .int .i64 y4y0_3] 144, blk bk2 [.int .i64 0, .int .i64 0, (TL.hdr (TL.nil T_Sess 0))] 33, blk bk3 [.int .i64 v2_3, .int .i64 v2_4, (TL.hdr v2_5)] 33, treeH v2_5] hp ?_ ?_
    · clear hp
      intro x5 hp hx5
      refine s5 ?_
      refine kp [0, 2, 3, 4, 23, 36] ?_
      refine W_cond rfl (fun hc6 => ?_) (fun hc6 => ?_)
      · replace hp := cond_t hc6 hp
        refine s1 ?_
        exact ⟨decide (y4x0 = 0), sb, (.sub ms), some_eq hp⟩
      · replace hp := cond_f hc6 hp
        refine s5 ?_
        refine kp [0, 2, 3, 4, 23, 36] ?_
        refine W_cond rfl (fun hc7 => ?_) (fun hc7 => ?_)
        · replace hp := cond_t hc7 hp
          refine s1 ?_
          exact ⟨decide (y4x0 = 1), sb, (.sub ms), some_eq hp⟩
        · replace hp := cond_f hc7 hp
          refine s4 ?_
          exact ⟨decide (y4x0 = 2), sb, (.sub ms), some_eq hp⟩
    · clear hp
      rintro v5_0 hp
      replace hp := dd hp
      refine kq [0, 2, 3, 4, 23, 36] ?_
      refine kp [0, 2, 3, 4, 23, 36] ?_
      refine W_cond rfl (fun hc8 => ?_) (fun hc8 => ?_)
      · replace hp := cond_t hc8 hp
        refine s1 ?_
        refine W_AP [] 12 5 [.int .i64 0, .int .i64 0, .slice none 0 0] 33 15 mix rfl ?_
        refine AP_A [blk bk3 [.int .i64 v2_3, .int .i64 v2_4, (TL.hdr v2_5)] 33] trivial ?_
        refine AP_take 0 rfl (PU_loadW rfl rfl (RdC.blk mm) (by exact agg33.h)) (by kernel_rfl) (by kernel_rfl) (by kernel_rfl) (by kernel_rfl) (by kernel_rfl) rfl rfl rfl ⟨mm, trivial⟩ ?_
        refine AP_take 1 rfl (PU_move rfl rfl) (by kernel_rfl) (by kernel_rfl) (by kernel_rfl) (by kernel_rfl) (by kernel_rfl) rfl rfl rfl ⟨mm, trivial⟩ ?_
        refine AP_take 4 rfl (PU_move rfl rfl) (by kernel_rfl) (by kernel_rfl) (by kernel_rfl) (by kernel_rfl) (by kernel_rfl) rfl rfl rfl ⟨mm, trivial⟩ ?_
        refine AP_step 2 rfl rfl (by first | exact .inl (by kernel_rfl) | exact .inr (by kernel_rfl)) (by kernel_rfl) rfl rfl rfl rfl rfl (fun l M => L_alloc rfl zero33.h (fun b => L_nil ⟨b, rfl, rfl⟩)) ⟨mm, trivial⟩ (fun fr9 => ?_)
        replace hp := ba hp; obtain ⟨y10, hy10, hp⟩ := hp
        refine L_callM [blk b0_ _ _] _ rfl fn59.h rfl pc (by exact fun w hw => s_l1Below_walk w b0_ (a0_1, y4y0_2, y4y0_3) 3 ((RdX.old h0_0) w hw) _ hy10) ?_
        rintro _ _ ⟨y10x0, ⟨y10y0_1, y10y0_2, y10y0_3⟩, rfl, rfl, rfl, hey10_0⟩
        obtain rfl : a0_1 = y10y0_1 := hey10_0.symm
        refine sc ?_
        replace hp := dd hp
        refine L_nil ⟨_, pk, ⟨mm, trivial⟩, rfl, ?_⟩
        refine AP_take 3 rfl (PU_binV rfl rfl rfl bv_add) (by kernel_rfl) (by kernel_rfl) (by kernel_rfl) (by kernel_rfl) (by kernel_rfl) rfl rfl rfl ⟨mm, trivial⟩ ?_
        refine AP_step 5 rfl rfl (by first | exact .inl (by kernel_rfl) | exact .inr (by kernel_rfl)) (by kernel_rfl) rfl rfl rfl rfl rfl (fun l M => L_alloc rfl zero33.h (fun b => L_nil ⟨b, rfl, rfl⟩)) ⟨mm, trivial⟩ (fun fr11 => ?_)
        replace hp := ba hp; obtain ⟨y12, hy12, hp⟩ := hp
        refine L_callM [blk b0_ _ _] _ rfl fn59.h rfl pc (by exact fun w hw => s_l1Below_walk w b0_ (a0_1, y10y0_2, y10y0_3) 30 ((RdX.old h0_0) w hw) _ hy12) ?_
        rintro _ _ ⟨y12x0, ⟨y12y0_1, y12y0_2, y12y0_3⟩, rfl, rfl, rfl, hey12_0⟩
        obtain rfl : a0_1 = y12y0_1 := hey12_0.symm
        refine sc ?_
        replace hp := dd hp
        refine L_nil ⟨_, pk, ⟨mm, trivial⟩, rfl, ?_⟩
        refine AP_take 6 rfl (PU_binV rfl rfl rfl bv_add) (by kernel_rfl) (by kernel_rfl) (by kernel_rfl) (by kernel_rfl) (by kernel_rfl) rfl rfl rfl ⟨mm, trivial⟩ ?_
        refine AP_step 7 rfl rfl (by first | exact .inl (by kernel_rfl) | exact .inr (by kernel_rfl)) (by kernel_rfl) rfl rfl rfl rfl rfl (fun l M => L_alloc rfl zero33.h (fun b => L_nil ⟨b, rfl, rfl⟩)) ⟨mm, trivial⟩ (fun fr13 => ?_)
        replace hp := ba hp; obtain ⟨y14, hy14, hp⟩ := hp
        refine L_callR rfl fn128.h rfl (by exact fun w hw => s_SessOpen_walk w (v2_3, v2_4, v2_5) (IntKind.wrap .i64 (1 + y10x0)) (IntKind.wrap .i64 (1 + y12x0)) (RdT.now (RdT.pair RdT.int (RdT.pair RdT.int (RdT.tree mm))) hw) _ hy14) ?_
        rintro _ _ ⟨⟨y14x0_1, y14x0_2, y14x0_3⟩, y14x1, y14x2, rfl, rfl, rfl⟩
        refine sc ?_
        replace hp := dd hp
        refine xL ((y14x0_1, y14x0_2, y14x0_3) : T_Desks) ?_
        refine L_nil ⟨_, pk, ⟨mm, trivial⟩, rfl, ?_⟩
        refine AP_take 8 rfl (PU_move rfl rfl) (by kernel_rfl) (by kernel_rfl) (by kernel_rfl) (by kernel_rfl) (by kernel_rfl) rfl rfl rfl ⟨mm, trivial⟩ ?_
        refine AP_take 9 rfl (PU_extract rfl rfl rfl) (by kernel_rfl) (by kernel_rfl) (by kernel_rfl) (by kernel_rfl) (by kernel_rfl) rfl rfl rfl ⟨mm, trivial⟩ ?_
        refine AP_take 10 rfl (PU_extract rfl rfl rfl) (by kernel_rfl) (by kernel_rfl) (by kernel_rfl) (by kernel_rfl) (by kernel_rfl) rfl rfl rfl ⟨mm, trivial⟩ ?_
        refine AP_take 11 rfl (PU_extract rfl rfl rfl) (by kernel_rfl) (by kernel_rfl) (by kernel_rfl) (by kernel_rfl) (by kernel_rfl) rfl rfl rfl ⟨mm, trivial⟩ ?_
        refine AP_end (by kernel_rfl) rfl rfl (fun l M => L_alloc rfl zero33.h (fun b => L_nil ⟨b, rfl, rfl⟩)) ⟨mm, trivial⟩ (fun bk5 => ?_)
        refine AH_one 13 rfl rfl (by kernel_rfl) ?_
        refine s1 ?_
        refine L_nil ⟨⟨mm, trivial⟩, ?_⟩
        refine AH_one 14 rfl rfl (by kernel_rfl) ?_
        refine s1 ?_
        refine L_nil ⟨⟨mm, trivial⟩, ?_⟩
        refine AH_one 15 rfl rfl (by kernel_rfl) ?_
        refine s1 ?_
        refine L_nil ⟨⟨mm, trivial⟩, ?_⟩
        refine AH_done (by kernel_rfl) ?_
        refine s9 ?_
        exact ⟨(IntKind.wrap .i64 (v2_0 - 1), y12y0_2, y12y0_3, y14x0_1, y14x0_2, y14x0_3), sb, (.sub ms), some_eq hp⟩
      · replace hp := cond_f hc8 hp
        refine s5 ?_
        refine kp [0, 2, 3, 4, 23, 53] ?_
        refine W_cond rfl (fun hc15 => ?_) (fun hc15 => ?_)
        · replace hp := cond_t hc15 hp
          refine s1 ?_
          refine W_AP [] 8 8 [.int .i64 0, .int .i64 0, .slice none 0 0] 33 10 mix rfl ?_
          refine AP_A [blk bk3 [.int .i64 v2_3, .int .i64 v2_4, (TL.hdr v2_5)] 33] trivial ?_
          refine AP_take 0 rfl (PU_loadW rfl rfl (RdC.blk mm) (by exact agg33.h)) (by kernel_rfl) (by kernel_rfl) (by kernel_rfl) (by kernel_rfl) (by kernel_rfl) rfl rfl rfl ⟨mm, trivial⟩ ?_
          refine AP_take 1 rfl (PU_move rfl rfl) (by kernel_rfl) (by kernel_rfl) (by kernel_rfl) (by kernel_rfl) (by kernel_rfl) rfl rfl rfl ⟨mm, trivial⟩ ?_
          refine AP_step 2 rfl rfl (by first | exact .inl (by kernel_rfl) | exact .inr (by kernel_rfl)) (by kernel_rfl) rfl rfl rfl rfl rfl (fun l M => L_alloc rfl zero33.h (fun b => L_nil ⟨b, rfl, rfl⟩)) ⟨mm, trivial⟩ (fun fr16 => ?_)
          replace hp := ba hp; obtain ⟨y17, hy17, hp⟩ := hp
          refine L_callM [blk b0_ _ _] _ rfl fn59.h rfl pc (by exact fun w hw => s_l1Below_walk w b0_ (a0_1, y4y0_2, y4y0_3) 9 ((RdX.old h0_0) w hw) _ hy17) ?_
          rintro _ _ ⟨y17x0, ⟨y17y0_1, y17y0_2, y17y0_3⟩, rfl, rfl, rfl, hey17_0⟩
          obtain rfl : a0_1 = y17y0_1 := hey17_0.symm
          refine sc ?_
          replace hp := dd hp
          refine L_nil ⟨_, pk, ⟨mm, trivial⟩, rfl, ?_⟩
          refine AP_take 3 rfl (PU_binV rfl rfl rfl bv_add) (by kernel_rfl) (by kernel_rfl) (by kernel_rfl) (by kernel_rfl) (by kernel_rfl) rfl rfl rfl ⟨mm, trivial⟩ ?_
          refine AP_step 4 rfl rfl (by first | exact .inl (by kernel_rfl) | exact .inr (by kernel_rfl)) (by kernel_rfl) rfl rfl rfl rfl rfl (fun l M => L_alloc rfl zero33.h (fun b => L_nil ⟨b, rfl, rfl⟩)) ⟨mm, trivial⟩ (fun fr18 => ?_)
          replace hp := ba hp; obtain ⟨y19, hy19, hp⟩ := hp
          refine L_callR rfl fn129.h rfl (by exact fun w hw => s_SessTick_walk w (v2_3, v2_4, v2_5) (IntKind.wrap .i64 (1 + y17x0)) (RdT.now (RdT.pair RdT.int (RdT.pair RdT.int (RdT.tree mm))) hw) _ hy19) ?_
          rintro _ _ ⟨⟨y19x0_1, y19x0_2, y19x0_3⟩, y19x1, rfl, rfl, rfl⟩
          refine sc ?_
          replace hp := dd hp
          refine xL ((y19x0_1, y19x0_2, y19x0_3) : T_Desks) ?_
          refine L_nil ⟨_, pk, ⟨mm, trivial⟩, rfl, ?_⟩
          refine AP_take 5 rfl (PU_move rfl rfl) (by kernel_rfl) (by kernel_rfl) (by kernel_rfl) (by kernel_rfl) (by kernel_rfl) rfl rfl rfl ⟨mm, trivial⟩ ?_
          refine AP_take 6 rfl (PU_extract rfl rfl rfl) (by kernel_rfl) (by kernel_rfl) (by kernel_rfl) (by kernel_rfl) (by kernel_rfl) rfl rfl rfl ⟨mm, trivial⟩ ?_
          refine AP_take 7 rfl (PU_extract rfl rfl rfl) (by kernel_rfl) (by kernel_rfl) (by kernel_rfl) (by kernel_rfl) (by kernel_rfl) rfl rfl rfl ⟨mm, trivial⟩ ?_
          refine AP_end (by kernel_rfl) rfl rfl (fun l M => L_alloc rfl zero33.h (fun b => L_nil ⟨b, rfl, rfl⟩)) ⟨mm, trivial⟩ (fun bk8 => ?_)
          refine AH_one 9 rfl rfl (by kernel_rfl) ?_
          refine s1 ?_
          refine L_nil ⟨⟨mm, trivial⟩, ?_⟩
          refine AH_one 10 rfl rfl (by kernel_rfl) ?_
          refine s1 ?_
          refine L_nil ⟨⟨mm, trivial⟩, ?_⟩
          refine AH_done (by kernel_rfl) ?_
          refine s9 ?_
          exact ⟨(IntKind.wrap .i64 (v2_0 - 1), y17y0_2, y17y0_3, y19x0_1, y19x0_2, y19x0_3), sb, (.sub ms), some_eq hp⟩
        · replace hp := cond_f hc15 hp
          refine s5 ?_
          refine kp [0, 2, 3, 4, 64] ?_
          refine W_cond rfl (fun hc20 => ?_) (fun hc20 => ?_)
          · replace hp := cond_t hc20 hp
            refine s1 ?_
            replace hp := ba hp; obtain ⟨y21, hy21, hp⟩ := hp
            replace hp := ba hp; obtain ⟨y22, hy22, hp⟩ := hp
            refine W_DS (pre := [_, _, _, _, _, _, _, _, _, _, _, _, _]) (suf := []) [10, 69] [blk b0_ _ 144] _ pc mix (by kernel_rfl) (by kernel_rfl) rfl ?_
            refine s2 ?_
            refine D_callM (fun v M => ∃ (x0 : Int) (y0 : T_l1Cur), v = .int .i64 x0 ∧ (GT.dat x0, GT.dat y0) = y21 ∧ M = [blk b0_ (GT.cells y0) 144] ∧ y0.1 = a0_1) [blk b0_ _ 144] pc fn59.h (OpVs.cons (OpV.t rfl) (OpVs.cons OpV.c (OpVs.nil))) (by exact fun w F hw hM => s_l1Below_walk w b0_ (a0_1, y4y0_2, y4y0_3) 6 ((RdX.old h0_0) w hw) _ hy21) ?_
            refine D_bin GC.none OpV.c (show OpV _ _ _ (.int .i64 y21.1) from ⟨_, rfl, fun u M h hc => by obtain ⟨x0, z0, hv, hd, _⟩ := h; subst hd; exact hv⟩) (fun hg => bv_add) ?_
            refine D_call1R (fun v M => ∃ (x0 : T_Desks) (x1 : ByteArray) (x2 : Bool), v = .tuple #[.agg (GT.cells x0).toArray, .string x1, .bool x2] ∧ (GT.dat x0, GT.dat x1, GT.dat x2) = y22 ∧ M = [treeH x0]) fn130.h (OpVs.cons (OpV.t rfl) (OpVs.cons (OpV.t rfl) (OpVs.nil))) (by exact fun w F hF hM => s_SessEnd_walk w (v2_3, v2_4, v2_5) (IntKind.wrap .i64 (1 + y21.1)) (RdT.nowS (RdT.pair RdT.int (RdT.pair RdT.int (RdT.tree mm))) hF hM) _ hy22) ?_
            refine D_moveC (t := 71) rfl (by kernel_rfl) ?_
            refine D_extractC (t := 66) (AggV (τ := T_Desks) y22.1) rfl (by rintro v M ⟨x0, x1, x2, rfl, hd, rfl⟩; subst hd; exact ⟨_, _, rfl, rfl, x0, rfl, rfl, rfl⟩) (by kernel_rfl) ?_
            refine D_extractW (t := 66) (.string y22.2.1) rfl (by rintro v M ⟨-, M', x0, x1, x2, rfl, hd, -⟩; subst hd; exact ⟨_, rfl, rfl⟩) ?_
            refine D_extractW (t := 66) (.bool y22.2.2) rfl (by rintro v M ⟨-, M', x0, x1, x2, rfl, hd, -⟩; subst hd; exact ⟨_, rfl, rfl⟩) ?_
            refine D_alloc zero33.h ?_
            refine D_storeK (p := 10) (x := 72) rfl rfl (by exact agg33.h) rfl (by kernel_rfl) ?_
            refine s5 ?_
            refine Give_R rfl rfl ?_
            rintro _ _ ⟨bk10, X23, rfl, hdX23, rfl⟩
            try rw [← hdX23] at hp
            obtain ⟨X23_1, X23_2, X23_3⟩ := X23
            refine s7 ?_
            refine Give_R rfl rfl ?_
            rintro _ _ ⟨y21x0, ⟨y21y0_1, y21y0_2, y21y0_3⟩, rfl, rfl, rfl, hey21_0⟩
            obtain rfl : a0_1 = y21y0_1 := hey21_0.symm
            refine s3 ?_
            refine sc ?_
            replace hp := dd hp
            refine xL ((X23_1, X23_2, X23_3) : T_Desks) ?_
            refine s10 ?_
            exact ⟨(IntKind.wrap .i64 (v2_0 - 1), y21y0_2, y21y0_3, X23_1, X23_2, X23_3), sb, (.sub ms), some_eq hp⟩
          · replace hp := cond_f hc20 hp
            refine s1 ?_
            refine W_AP [] 11 13 [.int .i64 0, .int .i64 0, .slice none 0 0] 33 13 mix rfl ?_
            refine AP_A [blk bk3 [.int .i64 v2_3, .int .i64 v2_4, (TL.hdr v2_5)] 33] trivial ?_
            refine AP_take 0 rfl (PU_loadW rfl rfl (RdC.blk mm) (by exact agg33.h)) (by kernel_rfl) (by kernel_rfl) (by kernel_rfl) (by kernel_rfl) (by kernel_rfl) rfl rfl rfl ⟨mm, trivial⟩ ?_
            refine AP_take 1 rfl (PU_move rfl rfl) (by kernel_rfl) (by kernel_rfl) (by kernel_rfl) (by kernel_rfl) (by kernel_rfl) rfl rfl rfl ⟨mm, trivial⟩ ?_
            refine AP_take 4 rfl (PU_move rfl rfl) (by kernel_rfl) (by kernel_rfl) (by kernel_rfl) (by kernel_rfl) (by kernel_rfl) rfl rfl rfl ⟨mm, trivial⟩ ?_
            refine AP_step 2 rfl rfl (by first | exact .inl (by kernel_rfl) | exact .inr (by kernel_rfl)) (by kernel_rfl) rfl rfl rfl rfl rfl (fun l M => L_alloc rfl zero33.h (fun b => L_nil ⟨b, rfl, rfl⟩)) ⟨mm, trivial⟩ (fun fr24 => ?_)
            replace hp := ba hp; obtain ⟨y25, hy25, hp⟩ := hp
            refine L_callM [blk b0_ _ _] _ rfl fn59.h rfl pc (by exact fun w hw => s_l1Below_walk w b0_ (a0_1, y4y0_2, y4y0_3) 6 ((RdX.old h0_0) w hw) _ hy25) ?_
            rintro _ _ ⟨y25x0, ⟨y25y0_1, y25y0_2, y25y0_3⟩, rfl, rfl, rfl, hey25_0⟩
            obtain rfl : a0_1 = y25y0_1 := hey25_0.symm
            refine sc ?_
            replace hp := dd hp
            refine L_nil ⟨_, pk, ⟨mm, trivial⟩, rfl, ?_⟩
            refine AP_take 3 rfl (PU_binV rfl rfl rfl bv_add) (by kernel_rfl) (by kernel_rfl) (by kernel_rfl) (by kernel_rfl) (by kernel_rfl) rfl rfl rfl ⟨mm, trivial⟩ ?_
            refine AP_step 5 rfl rfl (by first | exact .inl (by kernel_rfl) | exact .inr (by kernel_rfl)) (by kernel_rfl) rfl rfl rfl rfl rfl (fun l M => L_alloc rfl zero33.h (fun b => L_nil ⟨b, rfl, rfl⟩)) ⟨mm, trivial⟩ (fun fr26 => ?_)
            replace hp := ba hp; obtain ⟨y27, hy27, hp⟩ := hp
            refine L_callM [blk b0_ _ _] _ rfl fn60.h rfl pc (by exact fun w hw => s_l1Text_walk w b0_ (a0_1, y25y0_2, y25y0_3) 5 ((RdX.old h0_0) w hw) _ hy27) ?_
            rintro _ _ ⟨y27x0, ⟨y27y0_1, y27y0_2, y27y0_3⟩, rfl, rfl, rfl, hey27_0⟩
            obtain rfl : a0_1 = y27y0_1 := hey27_0.symm
            refine sc ?_
            replace hp := dd hp
            refine L_nil ⟨_, pk, ⟨mm, trivial⟩, rfl, ?_⟩
            replace hp := ba hp; obtain ⟨y28, hy28, hp⟩ := hp
            refine AP_take 6 rfl (PU_binV rfl rfl rfl (bv_saddP hy28)) (by kernel_rfl) (by kernel_rfl) (by kernel_rfl) (by kernel_rfl) (by kernel_rfl) rfl rfl rfl ⟨mm, trivial⟩ ?_
            refine AP_step 7 rfl rfl (by first | exact .inl (by kernel_rfl) | exact .inr (by kernel_rfl)) (by kernel_rfl) rfl rfl rfl rfl rfl (fun l M => L_alloc rfl zero33.h (fun b => L_nil ⟨b, rfl, rfl⟩)) ⟨mm, trivial⟩ (fun fr29 => ?_)
            replace hp := ba hp; obtain ⟨y30, hy30, hp⟩ := hp
            refine L_callR rfl fn131.h rfl (by exact fun w hw => s_SessPut_walk w (v2_3, v2_4, v2_5) (IntKind.wrap .i64 (1 + y25x0)) y28 (RdT.now (RdT.pair RdT.int (RdT.pair RdT.int (RdT.tree mm))) hw) _ hy30) ?_
            rintro _ _ ⟨⟨y30x0_1, y30x0_2, y30x0_3⟩, y30x1, rfl, rfl, rfl⟩
            refine sc ?_
            replace hp := dd hp
            refine xL ((y30x0_1, y30x0_2, y30x0_3) : T_Desks) ?_
            refine L_nil ⟨_, pk, ⟨mm, trivial⟩, rfl, ?_⟩
            refine AP_take 8 rfl (PU_move rfl rfl) (by kernel_rfl) (by kernel_rfl) (by kernel_rfl) (by kernel_rfl) (by kernel_rfl) rfl rfl rfl ⟨mm, trivial⟩ ?_
            refine AP_take 9 rfl (PU_extract rfl rfl rfl) (by kernel_rfl) (by kernel_rfl) (by kernel_rfl) (by kernel_rfl) (by kernel_rfl) rfl rfl rfl ⟨mm, trivial⟩ ?_
            refine AP_take 10 rfl (PU_extract rfl rfl rfl) (by kernel_rfl) (by kernel_rfl) (by kernel_rfl) (by kernel_rfl) (by kernel_rfl) rfl rfl rfl ⟨mm, trivial⟩ ?_
            refine AP_end (by kernel_rfl) rfl rfl (fun l M => L_alloc rfl zero33.h (fun b => L_nil ⟨b, rfl, rfl⟩)) ⟨mm, trivial⟩ (fun bk13 => ?_)
            refine AH_one 12 rfl rfl (by kernel_rfl) ?_
            refine s1 ?_
            refine L_nil ⟨⟨mm, trivial⟩, ?_⟩
            refine AH_one 13 rfl rfl (by kernel_rfl) ?_
            refine s1 ?_
            refine L_nil ⟨⟨mm, trivial⟩, ?_⟩
            refine AH_done (by kernel_rfl) ?_
            refine s9 ?_
            exact ⟨(IntKind.wrap .i64 (v2_0 - 1), y27y0_2, y27y0_3, y30x0_1, y30x0_2, y30x0_3), sb, (.sub ms), some_eq hp⟩
  · replace hp := cond_f hc3 hp
    refine W_exit ?_
    replace hp := map_any hp; obtain ⟨a31, hp, hx_a31⟩ := hp
    obtain rfl := hx2 _ hx_a31
    refine s4 ?_
    replace hp := ba hp; obtain ⟨y32, hy32, hp⟩ := hp
    refine L_callM [blk b0_ _ _] _ rfl fn89.h rfl pc (by exact fun w hw => s_l1Once_walk w b0_ (a0_1, v2_1, v2_2) 10 ((RdX.old h0_0) w hw) _ hy32) ?_
    rintro _ _ ⟨y32x0, ⟨y32y0_1, y32y0_2, y32y0_3⟩, rfl, rfl, rfl, hey32_0⟩
    obtain rfl : a0_1 = y32y0_1 := hey32_0.symm
    refine sc ?_
    replace hp := dd hp
    refine s1 ?_
    refine kp [0, 2, 3, 77] ?_
    refine W_cond rfl (fun hc33 => ?_) (fun hc33 => ?_)
    · replace hp := cond_t hc33 hp
      refine s3 ?_
      replace hp := ba hp; obtain ⟨y34, hy34, hp⟩ := hp
      refine L_callM [blk b0_ _ _] _ rfl fn59.h rfl pc (by exact fun w hw => s_l1Below_walk w b0_ (a0_1, y32y0_2, y32y0_3) 4 ((RdX.old h0_0) w hw) _ hy34) ?_
      rintro _ _ ⟨y34x0, ⟨y34y0_1, y34y0_2, y34y0_3⟩, rfl, rfl, rfl, hey34_0⟩
      obtain rfl : a0_1 = y34y0_1 := hey34_0.symm
      refine sc ?_
      replace hp := dd hp
      refine s7 ?_
      refine kp [0, 2, 3, 79, 98] ?_
      refine W_cond rfl (fun hc35 => ?_) (fun hc35 => ?_)
      · replace hp := cond_t hc35 hp
        refine s2 ?_
        replace hp := ba hp; obtain ⟨y36, hy36, hp⟩ := hp
        refine L_bsN ([(-1), 0, 100000, 100001] : List Int) (xs := [(0, .const (.int .i64 (-1))), (1, .const (.int .i64 0)), (2, .const (.int .i64 100000)), (3, .const (.int .i64 100001))]) rfl rfl el34.h rfl rfl rfl rfl rfl rfl rfl hy36 (fun X37 hdX37 => ?_)
        subst hdX37
        replace hp := ba hp; obtain ⟨y38, hy38, hp⟩ := hp
        refine L_callM [blk b0_ _ _] _ rfl fn90.h rfl pc (by exact fun w hw => s_l1PickInt_walk w b0_ (a0_1, y34y0_2, y34y0_3) X37 ((RdX.tree mm) w hw) ((RdX.old h0_0) w hw) _ hy38) ?_
        rintro _ _ ⟨y38x0, ⟨y38y0_1, y38y0_2, y38y0_3⟩, rfl, rfl, rfl, hey38_0⟩
        obtain rfl : a0_1 = y38y0_1 := hey38_0.symm
        refine sc ?_
        replace hp := dd hp
        refine s8 ?_
        obtain rfl := Option.some.inj hp
        refine jW ((y38x0, v2_4, v2_5) : T_Desks) ?_
        refine s1 ?_
        refine res1 rfl (ResOK.cell rfl mm (by exact agg33.h)) ⟨(y38x0, v2_4, v2_5), (a0_1, y38y0_2, y38y0_3), rfl, rfl, rfl, rfl⟩ ms
      · replace hp := cond_f hc35 hp
        refine s5 ?_
        refine kp [0, 2, 3, 79, 104] ?_
        refine W_cond rfl (fun hc39 => ?_) (fun hc39 => ?_)
        · replace hp := cond_t hc39 hp
          refine s2 ?_
          replace hp := ba hp; obtain ⟨y40, hy40, hp⟩ := hp
          refine L_bsN ([0, 1, 1000, 1001] : List Int) (xs := [(0, .const (.int .i64 0)), (1, .const (.int .i64 1)), (2, .const (.int .i64 1000)), (3, .const (.int .i64 1001))]) rfl rfl el34.h rfl rfl rfl rfl rfl rfl rfl hy40 (fun X41 hdX41 => ?_)
          subst hdX41
          replace hp := ba hp; obtain ⟨y42, hy42, hp⟩ := hp
          refine L_callM [blk b0_ _ _] _ rfl fn90.h rfl pc (by exact fun w hw => s_l1PickInt_walk w b0_ (a0_1, y34y0_2, y34y0_3) X41 ((RdX.tree mm) w hw) ((RdX.old h0_0) w hw) _ hy42) ?_
          rintro _ _ ⟨y42x0, ⟨y42y0_1, y42y0_2, y42y0_3⟩, rfl, rfl, rfl, hey42_0⟩
          obtain rfl : a0_1 = y42y0_1 := hey42_0.symm
          refine sc ?_
          replace hp := dd hp
          refine s8 ?_
          obtain rfl := Option.some.inj hp
          refine jW ((v2_3, y42x0, v2_5) : T_Desks) ?_
          refine s1 ?_
          refine res1 rfl (ResOK.cell rfl mm (by exact agg33.h)) ⟨(v2_3, y42x0, v2_5), (a0_1, y42y0_2, y42y0_3), rfl, rfl, rfl, rfl⟩ ms
        · replace hp := cond_f hc39 hp
          refine s5 ?_
          refine kp [0, 2, 3, 110] ?_
          refine W_cond rfl (fun hc43 => ?_) (fun hc43 => ?_)
          · replace hp := cond_t hc43 hp
            refine W_AG [] 13 mix ?_
            refine AG_take 0 [] rfl (PU_fieldAddr rfl rfl fld33_2.h) (by kernel_rfl) (by kernel_rfl) (by kernel_rfl) (by kernel_rfl) rfl (by kernel_rfl) trivial ?_
            refine AG_A [blk bk3 [.int .i64 v2_3, .int .i64 v2_4, (TL.hdr v2_5)] 33] trivial ?_
            refine AG_take 1 [] rfl (PU_load rfl rfl (RdC.blk mm) one31.h rfl) (by kernel_rfl) (by kernel_rfl) (by kernel_rfl) (by kernel_rfl) rfl (by kernel_rfl) ⟨mm, trivial⟩ ?_
            refine AG_take 2 [] rfl (PU_move rfl rfl) (by kernel_rfl) (by kernel_rfl) (by kernel_rfl) (by kernel_rfl) rfl (by kernel_rfl) ⟨mm, trivial⟩ ?_
            refine AG_take 4 [] rfl (PU_move rfl rfl) (by kernel_rfl) (by kernel_rfl) (by kernel_rfl) (by kernel_rfl) rfl (by kernel_rfl) ⟨mm, trivial⟩ ?_
            refine AG_take 6 [] rfl (PU_fieldAddr rfl rfl fld33_0.h) (by kernel_rfl) (by kernel_rfl) (by kernel_rfl) (by kernel_rfl) rfl (by kernel_rfl) ⟨mm, trivial⟩ ?_
            refine AG_take 7 [] rfl (PU_load rfl rfl (RdC.blk mm) one3.h rfl) (by kernel_rfl) (by kernel_rfl) (by kernel_rfl) (by kernel_rfl) rfl (by kernel_rfl) ⟨mm, trivial⟩ ?_
            refine AG_take 8 [] rfl (PU_binV rfl rfl rfl bv_add) (by kernel_rfl) (by kernel_rfl) (by kernel_rfl) (by kernel_rfl) rfl (by kernel_rfl) ⟨mm, trivial⟩ ?_
            refine AG_one 3 rfl rfl (by kernel_rfl) ?_
            replace hp := ba hp; obtain ⟨y44, hy44, hp⟩ := hp
            refine L_callM [blk b0_ _ _] _ rfl fn59.h rfl pc (by exact fun w hw => s_l1Below_walk w b0_ (a0_1, y34y0_2, y34y0_3) 9 ((RdX.old h0_0) w hw) _ hy44) ?_
            rintro _ _ ⟨y44x0, ⟨y44y0_1, y44y0_2, y44y0_3⟩, rfl, rfl, rfl, hey44_0⟩
            obtain rfl : a0_1 = y44y0_1 := hey44_0.symm
            refine sc ?_
            replace hp := dd hp
            refine L_nil ⟨⟨mm, trivial⟩, ?_⟩
            refine AG_one 5 rfl rfl (by kernel_rfl) ?_
            replace hp := ba hp; obtain ⟨y45, hy45, hp⟩ := hp
            refine L_callM [blk b0_ _ _] _ rfl fn59.h rfl pc (by exact fun w hw => s_l1Below_walk w b0_ (a0_1, y44y0_2, y44y0_3) 11 ((RdX.old h0_0) w hw) _ hy45) ?_
            rintro _ _ ⟨y45x0, ⟨y45y0_1, y45y0_2, y45y0_3⟩, rfl, rfl, rfl, hey45_0⟩
            obtain rfl : a0_1 = y45y0_1 := hey45_0.symm
            refine sc ?_
            replace hp := dd hp
            refine L_nil ⟨⟨mm, trivial⟩, ?_⟩
            refine AG_one 9 rfl rfl (by kernel_rfl) ?_
            refine L_build (xs := [(0, .tmp 115), (1, .tmp 117), (2, .tmp 120)]) (cs := [.int .i64 y44x0, .int .i64 y45x0, .int .i64 (IntKind.wrap .i64 (v2_3 + 5)), (TL.hdr (TL.nil ByteArray 0))]) rfl rfl bld107.h rfl ?_
            refine L_nil ⟨⟨mm, trivial⟩, ?_⟩
            refine AG_one 10 rfl rfl (by kernel_rfl) ?_
            refine L_buildSlice1 rfl rfl el31.h rfl (by decide) (by decide) rfl (fun bb122 => ?_)
            refine L_nil ⟨⟨mm, trivial⟩, ?_⟩
            refine AG_one 11 rfl rfl (by kernel_rfl) ?_
            replace hp := ba hp; obtain ⟨y47, hy47, hp⟩ := hp
            refine L_conv (M' := treeH (TL.nil ByteArray 0) :: _) (fun w h => addNilT (τ := ByteArray) 0 h) ?_
            refine jL ((y44x0, y45x0, IntKind.wrap .i64 (v2_3 + 5), (TL.nil ByteArray 0)) : T_Sess) ?_
            refine L_app1 (X := v2_5) ((y44x0, y45x0, IntKind.wrap .i64 (v2_3 + 5), (TL.nil ByteArray 0)) : T_Sess) rfl rfl rfl el31.h rfl rfl pk mm pk hy47 (by decide) (fun X46 hdX46 => ?_)
            subst hdX46
            refine L_nil ⟨⟨mm, trivial⟩, ?_⟩
            refine AG_take 12 [] rfl (PU_fieldAddr rfl rfl fld33_2.h) (by kernel_rfl) (by kernel_rfl) (by kernel_rfl) (by kernel_rfl) rfl (by kernel_rfl) ⟨mm, trivial⟩ ?_
            refine AG_last 13 rfl rfl (by kernel_rfl) (by kernel_rfl) ?_
            refine s2 ?_
            refine AG_done (by kernel_rfl) ?_
            refine s5 ?_
            obtain rfl := Option.some.inj hp
            refine jW ((v2_3, v2_4, X46) : T_Desks) ?_
            refine s1 ?_
            refine res1 rfl (ResOK.cell rfl mm (by exact agg33.h)) ⟨(v2_3, v2_4, X46), (a0_1, y45y0_2, y45y0_3), rfl, rfl, rfl, rfl⟩ ms
          · replace hp := cond_f hc43 hp
            refine s7 ?_
            refine kp [0, 2, 3, 83] ?_
            refine W_cond rfl (fun hc48 => ?_) (fun hc48 => ?_)
            · replace hp := cond_t hc48 hp
              replace hp := idx_bind hp; obtain ⟨⟨u49_1, u49_2, u49_3, u49_4⟩, hy49, hp⟩ := hp
              refine W_conv (M' := treeH (u49_1, u49_2, u49_3, u49_4) :: holeH v2_5 ((0 : Int).toNat) (GT.cells (u49_1, u49_2, u49_3, u49_4)) :: _) (fun w h => hole_open hy49.2 pk h) ?_
              refine xW ((u49_1, u49_2, u49_3, u49_4) : T_Sess) ?_
              replace hp := ba hp; obtain ⟨y50, hy50, hp⟩ := hp
              replace hp := ba hp; obtain ⟨y52, hy52, hp⟩ := hp
              replace hp := ba hp; obtain ⟨y53, hy53, hp⟩ := hp
              refine W_DS (pre := [_, _, _, _, _, _, _, _, _, _, _, _]) (suf := [_, _, _]) [85, 93, 95] [blk b0_ _ 144, treeH u49_4] _ pc mix (by kernel_rfl) (by kernel_rfl) rfl ?_
              refine s4 ?_
              refine D_idxH (X := v2_5) GC.none (OpV.t rfl) OpV.c el31.h mm (fun hg => hy49) ?_
              refine s1 ?_
              refine D_load GC.none (OpV.t rfl) (fun hg => RdC.hole (X := v2_5) mm) one25.h rfl ?_
              refine s1 ?_
              refine D_bsN ([ByteArray.empty, (ByteArray.mk #[49, 50, 51, 52, 53, 54, 55, 56, 57, 48, 49]), (ByteArray.mk #[111, 107])] : List ByteArray) (xs := [(0, .const (.string ByteArray.empty)), (1, .const (.string (ByteArray.mk #[49, 50, 51, 52, 53, 54, 55, 56, 57, 48, 49]))), (2, .const (.string (ByteArray.mk #[111, 107])))]) (ps := [(0, .string ByteArray.empty), (1, .string (ByteArray.mk #[49, 50, 51, 52, 53, 54, 55, 56, 57, 48, 49])), (2, .string (ByteArray.mk #[111, 107]))]) (OpVp.cons OpV.c (OpVp.cons OpV.c (OpVp.cons OpV.c (OpVp.nil)))) el25.h rfl rfl rfl rfl rfl rfl rfl hy50 ?_
              refine D_callMR [_, _] (fun v M => ∃ (x0 : ByteArray) (y0 : T_l1Cur), v = .string x0 ∧ (GT.dat x0, GT.dat y0) = y52 ∧ M = [blk b0_ (GT.cells y0) 144] ∧ y0.1 = a0_1) [blk b0_ _ 144] pc fn132.h ⟨⟨_, rfl, fun _ _ h => h⟩, ⟨⟨_, rfl, fun _ _ h => h⟩, trivial⟩⟩ (by rintro w F vs hw hM ⟨v0, u0, M0, rfl, g0, hin0, ⟨v1, u1, M1, rfl, g1, hin1, rfl⟩⟩; obtain rfl := g0.2.1 trivial; obtain ⟨m1, rfl, hd1, rfl⟩ := g1; subst hd1; exact s_l1Pick_walk w b0_ (a0_1, y34y0_2, y34y0_3) m1 ((RdX.tree (hin1 _ (List.mem_singleton.2 rfl))) w hw) ((RdX.old h0_0) w hw) _ hy52) ?_
              refine D_bs1 (show OpV _ _ _ (.string y52.1) from ⟨_, rfl, fun u M h hc => by obtain ⟨x0, z0, hv, hd, _⟩ := h; subst hd; exact hv⟩) el25.h rfl (by decide) (by decide) rfl ?_
              refine D_app1F (X := u49_4) (t := 94) (y52.1 : ByteArray) (OpV.t rfl) rfl el25.h rfl rfl pk hy53 (by decide) (by kernel_rfl) ?_
              refine s1 ?_
              refine Give_R rfl rfl ?_
              rintro _ _ ⟨X54, rfl, rfl, rfl⟩
              simp only [List.cons_append, List.nil_append]
              refine s1 ?_
              refine Give_R rfl rfl ?_
              rintro _ _ ⟨y52x0, ⟨y52y0_1, y52y0_2, y52y0_3⟩, rfl, rfl, rfl, hey52_0⟩
              obtain rfl : a0_1 = y52y0_1 := hey52_0.symm
              refine s10 ?_
              refine sc ?_
              replace hp := dd hp
              replace hp := idx_bind hp; obtain ⟨u55, hy55, hp⟩ := hp
              obtain rfl : (u49_1, u49_2, u49_3, u49_4) = u55 := Option.some.inj (hy49.2.symm.trans hy55.2)
              refine L_idxH (X := v2_5) (cs := _) rfl rfl rfl el31.h mm hy49 ?_
              refine s1 ?_
              refine L_stH (X := v2_5) (i := (0 : Int).toNat) (sz := 4) (fo := 3) (n := 1) rfl rfl pk rfl (.inr ⟨one25.h, rfl⟩) rfl (allOne rfl) (Nat.le_of_ble_eq_true rfl) ?_
              refine jL ((u49_1, u49_2, u49_3, X54) : T_Sess) ?_
              replace hp := ba hp; obtain ⟨y56, hy56, hp⟩ := hp
              refine L_close (X := v2_5) ((u49_1, u49_2, u49_3, X54) : T_Sess) rfl pk pk hy56 (fun X57 hdX57 hhX57 => ?_)
              subst hdX57
              try rw [← hhX57]
              refine s6 ?_
              obtain rfl := Option.some.inj hp
              refine jW ((v2_3, v2_4, X57) : T_Desks) ?_
              refine s1 ?_
              refine res1 rfl (ResOK.cell rfl mm (by exact agg33.h)) ⟨(v2_3, v2_4, X57), (a0_1, y52y0_2, y52y0_3), rfl, rfl, rfl, rfl⟩ ms
            · replace hp := cond_f hc48 hp
              refine s6 ?_
              obtain rfl := Option.some.inj hp
              refine jW ((v2_3, v2_4, v2_5) : T_Desks) ?_
              refine s1 ?_
              refine res1 rfl (ResOK.cell rfl mm (by exact agg33.h)) ⟨(v2_3, v2_4, v2_5), (a0_1, y34y0_2, y34y0_3), rfl, rfl, rfl, rfl⟩ ms
    · replace hp := cond_f hc33 hp
      refine s6 ?_
      obtain rfl := Option.some.inj hp
      refine jW ((v2_3, v2_4, v2_5) : T_Desks) ?_
      refine s1 ?_
      refine res1 rfl (ResOK.cell rfl mm (by exact agg33.h)) ⟨(v2_3, v2_4, v2_5), (a0_1, y32y0_2, y32y0_3), rfl, rfl, rfl, rfl⟩ ms
noncomputable def s_DrawSessOf (a0 : List UInt8) : Option (D_Desks × Int) :=
  Option.bind (s_l1New a0) (fun y1 => Option.bind (s_l29Some (y1.1, y1.2.1, y1.2.2)) (fun y2 => Option.bind (s_l1Below (y2.2.1, y2.2.2.1, y2.2.2.2) 3) (fun y3 => some ((y2.1.1, y2.1.2.1, y2.1.2.2), IntKind.wrap .i64 (1 + y3.1)))))
theorem s_DrawSessOf_walk (w : World) (a0 : TL UInt8) (h0 : GT.rd w [] a0) (r : D_Desks × Int) (hp : s_DrawSessOf (GT.dat a0) = some r) : Spec Try.prog 22 [(TL.hdr a0)].toArray w [] (fun v M => ∃ (x0 : T_Desks) (x1 : Int), v = .tuple #[.agg (GT.cells x0).toArray, .int .i64 x1] ∧ (GT.dat x0, GT.dat x1) = r ∧ M = [treeH x0]) := by
  refine Spec.intro Try.func22 rfl Try.ntmps22 rfl ?_
  unfold s_DrawSessOf at hp
  replace hp := dd hp
  refine s2 ?_
  refine al fun bk2 => ?_
  refine s5 ?_
  replace hp := ba hp; obtain ⟨y1, hy1, hp⟩ := hp
  refine L_callR rfl fn58.h rfl (by exact fun w hw => s_l1New_walk w a0 (RdT.now (RdT.old h0) hw) _ hy1) ?_
  rintro _ _ ⟨bky1, ⟨y1x_1, y1x_2, y1x_3⟩, rfl, rfl, rfl, hey1_0⟩
  obtain rfl : a0 = y1x_1 := hey1_0.symm
  refine sc ?_
  replace hp := dd hp
  refine s5 ?_
  replace hp := ba hp; obtain ⟨y2, hy2, hp⟩ := hp
  refine L_callM [blk bky1 _ _] _ rfl fn78.h rfl pc (by exact fun w hw => s_l29Some_walk w bky1 (a0, y1x_2, y1x_3) ((RdX.old h0) w hw) _ hy2) ?_
  rintro _ _ ⟨⟨y2x0_1, y2x0_2, y2x0_3⟩, ⟨y2y0_1, y2y0_2, y2y0_3⟩, rfl, rfl, rfl, hey2_0⟩
  obtain rfl : a0 = y2y0_1 := hey2_0.symm
  refine sc ?_
  replace hp := dd hp
  refine xL ((y2x0_1, y2x0_2, y2x0_3) : T_Desks) ?_
  refine al fun bk5 => ?_
  refine s3 ?_
  replace hp := ba hp; obtain ⟨y3, hy3, hp⟩ := hp
  refine W_DS (pre := [_, _, _, _, _, _]) (suf := []) [3, 12] [blk bky1 _ 144, blk bk2 _ _] _ pc mix (by kernel_rfl) (by kernel_rfl) rfl ?_
  refine s2 ?_
  refine D_callM (fun v M => ∃ (x0 : Int) (y0 : T_l1Cur), v = .int .i64 x0 ∧ (GT.dat x0, GT.dat y0) = y3 ∧ M = [blk bky1 (GT.cells y0) 144] ∧ y0.1 = a0) [blk bky1 _ 144] pc fn59.h (OpVs.cons (OpV.t rfl) (OpVs.cons OpV.c (OpVs.nil))) (by exact fun w F hw hM => s_l1Below_walk w bky1 (a0, y2y0_2, y2y0_3) 3 ((RdX.old h0) w hw) _ hy3) ?_
  refine D_bin GC.none OpV.c (show OpV _ _ _ (.int .i64 y3.1) from ⟨_, rfl, fun u M h hc => by obtain ⟨x0, z0, hv, hd, _⟩ := h; subst hd; exact hv⟩) (fun hg => bv_add) ?_
  refine D_storeW (OpV.t rfl) (OpV.t rfl) pk (by exact agg33.h) (by rfl) ocs ?_
  refine s5 ?_
  refine Give_R rfl rfl ?_
  rintro _ _ ⟨y3x0, ⟨y3y0_1, y3y0_2, y3y0_3⟩, rfl, rfl, rfl, hey3_0⟩
  obtain rfl : a0 = y3y0_1 := hey3_0.symm
  refine s3 ?_
  refine sc ?_
  replace hp := dd hp
  refine s1 ?_
  obtain rfl := Option.some.inj hp
  refine jW ((y2x0_1, y2x0_2, y2x0_3) : T_Desks) ?_
  refine s1 ?_
  refine res2 rfl (ResOK.cell rfl mm (by exact agg33.h)) (ResOK.tmp rfl) ⟨(y2x0_1, y2x0_2, y2x0_3), IntKind.wrap .i64 (1 + y3x0), rfl, rfl, rfl⟩ ms
noncomputable def w_sameInts (a0 : List Int) (a1 : List Int) : Option Bool :=
  cond (!decide ((a0.length : Int) = (a1.length : Int))) (some false) (whileP (fun s2 : Int => cond (decide (s2 < (a0.length : Int))) (Option.bind (idx a0 s2) (fun y4 => Option.bind (idx a1 s2) (fun y5 => cond (!decide (y4 = y5)) (Option.map .inr (some false)) (some (.inl (IntKind.wrap .i64 (s2 + 1))))))) (Option.map .inr (some true))) 0)
theorem w_sameInts_walk (w : World) (a0 : TL Int) (a1 : TL Int) (h0 : GT.rd w [] a0) (h1 : GT.rd w [] a1) (r : Bool) (hp : w_sameInts (GT.dat a0) (GT.dat a1) = some r) : Spec Try.prog 23 [(TL.hdr a0), (TL.hdr a1)].toArray w [] (IsV (.bool r)) := by
  refine Spec.intro Try.func23 rfl Try.ntmps23 rfl ?_
  unfold w_sameInts at hp
  replace hp := dd hp
  refine s13 ?_
  refine kp [0, 1, 10] ?_
  refine W_cond rfl (fun hc1 => ?_) (fun hc1 => ?_)
  · replace hp := cond_t hc1 hp
    refine s4 ?_
    obtain rfl := Option.some.inj hp
    refine s1 ?_
    refine res1 rfl (ResOK.tmp rfl) ⟨rfl, rfl⟩ ms
  · replace hp := cond_f hc1 hp
    refine s7 ?_
    refine W_while (σ := Int) GT.dat (fun (v2_0 : Int) => [(5, .int .i64 v2_0)]) (fun (v2_0 : Int) => []) [(0, _), (1, _)] [] 0 hp sb ms ?_
    clear hp
    rintro v2_0 x2 hp hx2
    replace hp := dd hp
    refine kq [0, 1, 5] ?_
    refine s8 ?_
    refine kp [0, 1, 5, 14] ?_
    refine W_cond rfl (fun hc3 => ?_) (fun hc3 => ?_)
    · replace hp := cond_t hc3 hp
      refine s4 ?_
      replace hp := idx_bind hp; obtain ⟨u4, hy4, hp⟩ := hp
      replace hp := idx_bind hp; obtain ⟨u5, hy5, hp⟩ := hp
      refine W_D0 [25] mix (by kernel_rfl) rfl ?_
      refine s2 ?_
      refine D_idxA (X := a0) GC.none (OpV.t rfl) (OpV.t rfl) el34.h (RdT.old h0) (fun _ => hy4) ?_
      refine D_load0 GC.none (OpV.t rfl) (fun hg => RdT.at (RdT.old h0) (hy4).2) one3.h rfl ?_
      refine s2 ?_
      refine D_idxA (X := a1) GC.none (OpV.t rfl) (OpV.t rfl) el34.h (RdT.old h1) (fun _ => hy5) ?_
      refine D_load0 GC.none (OpV.t rfl) (fun hg => RdT.at (RdT.old h1) (hy5).2) one3.h rfl ?_
      refine s12 ?_
      refine kp [0, 1, 5, 25] ?_
      refine W_cond rfl (fun hc6 => ?_) (fun hc6 => ?_)
      · replace hp := cond_t hc6 hp
        refine s4 ?_
        replace hp := map_any hp; obtain ⟨a7, hp, hx_a7⟩ := hp
        obtain rfl := hx2 _ hx_a7
        obtain rfl := Option.some.inj hp
        refine s1 ?_
        refine res1 rfl (ResOK.tmp rfl) ⟨rfl, rfl⟩ ms
      · replace hp := cond_f hc6 hp
        refine s6 ?_
        exact ⟨IntKind.wrap .i64 (v2_0 + 1), sb, (.sub ms), some_eq hp⟩
    · replace hp := cond_f hc3 hp
      refine W_exit ?_
      replace hp := map_any hp; obtain ⟨a8, hp, hx_a8⟩ := hp
      obtain rfl := hx2 _ hx_a8
      refine s4 ?_
      obtain rfl := Option.some.inj hp
      refine s1 ?_
      refine res1 rfl (ResOK.tmp rfl) ⟨rfl, rfl⟩ ms
noncomputable def w_FnSessions (a0 : List UInt8) : Option Bool :=
  Option.bind (w_big a0) (fun y1 => cond y1 (some true) (Option.bind (mkP 16 100 (ByteArray.empty : ByteArray)) (fun y3 => Option.bind (mkP 8 100 (0 : Int)) (fun y5 => whileP (fun s7 : (List ByteArray) × (List Int) × Int × Int × Int × (List D_Sess) => cond (decide (s7.2.2.1 < 40)) (Option.bind (w_at a0 (IntKind.wrap .i64 (s7.2.2.1 + 1))) (fun y9 => Option.bind (w_at a0 s7.2.2.1) (fun y10 => jbind (cond (decide ((y10).tmod 6 = 0)) (some (.inl (decide ((y10).tmod 6 = 0)))) (some (.inl (decide ((y10).tmod 6 = 1))))) (fun s11 : Bool => cond s11 (Option.bind (w_at a0 (IntKind.wrap .i64 (s7.2.2.1 + 2))) (fun y14 => Option.bind (w_at a0 (IntKind.wrap .i64 (s7.2.2.1 + 3))) (fun y15 => Option.bind (i_SessOpen (s7.2.2.2.1, s7.2.2.2.2.1, s7.2.2.2.2.2) (IntKind.wrap .i64 (1 + (y15).tmod 3)) (IntKind.wrap .i64 (1 + (y14).tmod 20))) (fun y16 => cond y16.2.2 (cond ((decide (y16.2.1 < 1)) || (decide (99 < y16.2.1))) (Option.map .inr (some false)) (Option.bind (idx s7.2.1 y16.2.1) (fun y21 => Option.bind (some (s7.2.1.set (y16.2.1.toNat) (IntKind.wrap .i64 (y16.1.1 + IntKind.wrap .i64 (1 + (y14).tmod 20))))) (fun y22 => Option.bind (idx s7.1 y16.2.1) (fun y24 => Option.bind (some (s7.1.set (y16.2.1.toNat) ByteArray.empty)) (fun y25 => Option.bind (s_DesksOk (y16.1.1, y16.1.2.1, y16.1.2.2)) (fun y27 => cond (!y27) (Option.map .inr (some false)) (whileP (fun s30 : Int => cond (decide (s30 < 100)) (Option.bind (idx y22 s30) (fun y32 => gb (decide (0 < y32)) (idx y22 s30) (fun y33 => cond ((decide (0 < y32)) && (decide (y33 ≤ y16.1.1))) (Option.map .inr (Option.map .inr (some false))) (some (.inl (IntKind.wrap .i64 (s30 + 1))))))) (Option.map .inr (some (.inl ((y25, y22, IntKind.wrap .i64 (s7.2.2.1 + 1), y16.1.1, y16.1.2.1, y16.1.2.2)))))) 1)))))))) (Option.bind (s_DesksOk (y16.1.1, y16.1.2.1, y16.1.2.2)) (fun y38 => cond (!y38) (Option.map .inr (some false)) (whileP (fun s41 : Int => cond (decide (s41 < 100)) (Option.bind (idx s7.2.1 s41) (fun y43 => gb (decide (0 < y43)) (idx s7.2.1 s41) (fun y44 => cond ((decide (0 < y43)) && (decide (y44 ≤ y16.1.1))) (Option.map .inr (Option.map .inr (some false))) (some (.inl (IntKind.wrap .i64 (s41 + 1))))))) (Option.map .inr (some (.inl ((s7.1, s7.2.1, IntKind.wrap .i64 (s7.2.2.1 + 1), y16.1.1, y16.1.2.1, y16.1.2.2)))))) 1))))))) (cond (decide ((y10).tmod 6 = 2)) (Option.bind (w_at a0 (IntKind.wrap .i64 (s7.2.2.1 + 2))) (fun y51 => Option.bind (i_SessTick (s7.2.2.2.1, s7.2.2.2.2.1, s7.2.2.2.2.2) (IntKind.wrap .i64 (1 + (y51).tmod 6))) (fun y53 => whileP (fun s54 : (List Int) × Int => cond (decide (s54.2 < (y53.2.length : Int))) (Option.bind (idx y53.2 s54.2) (fun y56 => Option.bind (idx s54.1 y56) (fun y57 => gb (!(decide (y57 = 0))) (idx y53.2 s54.2) (fun y58 => gb (!(decide (y57 = 0))) (idx s54.1 y58) (fun y59 => cond ((decide (y57 = 0)) || (decide (y53.1.1 < y59))) (Option.map .inr (Option.map .inr (some false))) (Option.bind (idx y53.2 s54.2) (fun y63 => Option.bind (idx s54.1 y63) (fun y64 => Option.bind (some (s54.1.set (y63.toNat) 0)) (fun y65 => some (.inl ((y65, IntKind.wrap .i64 (s54.2 + 1))))))))))))) (Option.map .inr (Option.bind (s_DesksOk (y53.1.1, y53.1.2.1, y53.1.2.2)) (fun y68 => cond (!y68) (Option.map .inr (some false)) (whileP (fun s71 : Int => cond (decide (s71 < 100)) (Option.bind (idx s54.1 s71) (fun y73 => gb (decide (0 < y73)) (idx s54.1 s71) (fun y74 => cond ((decide (0 < y73)) && (decide (y74 ≤ y53.1.1))) (Option.map .inr (Option.map .inr (some false))) (some (.inl (IntKind.wrap .i64 (s71 + 1))))))) (Option.map .inr (some (.inl ((s7.1, s54.1, IntKind.wrap .i64 (s7.2.2.1 + 1), y53.1.1, y53.1.2.1, y53.1.2.2)))))) 1))))) (s7.2.1, 0)))) (cond (decide ((y10).tmod 6 = 3)) (Option.bind (i_SessEnd (s7.2.2.2.1, s7.2.2.2.2.1, s7.2.2.2.2.2) (IntKind.wrap .i64 (1 + (y9).tmod 8))) (fun y80 => Option.bind (idx s7.2.1 (IntKind.wrap .i64 (1 + (y9).tmod 8))) (fun y81 => gb (!(!(y80.2.2 == (decide (0 < y81))))) (idx s7.1 (IntKind.wrap .i64 (1 + (y9).tmod 8))) (fun y82 => cond ((!(y80.2.2 == (decide (0 < y81)))) || ((!decide (y80.2.1 = y82)) && y80.2.2)) (Option.map .inr (some false)) (Option.bind (idx s7.2.1 (IntKind.wrap .i64 (1 + (y9).tmod 8))) (fun y85 => Option.bind (some (s7.2.1.set ((IntKind.wrap .i64 (1 + (y9).tmod 8)).toNat) 0)) (fun y86 => Option.bind (s_DesksOk (y80.1.1, y80.1.2.1, y80.1.2.2)) (fun y88 => cond (!y88) (Option.map .inr (some false)) (whileP (fun s91 : Int => cond (decide (s91 < 100)) (Option.bind (idx y86 s91) (fun y93 => gb (decide (0 < y93)) (idx y86 s91) (fun y94 => cond ((decide (0 < y93)) && (decide (y94 ≤ y80.1.1))) (Option.map .inr (Option.map .inr (some false))) (some (.inl (IntKind.wrap .i64 (s91 + 1))))))) (Option.map .inr (some (.inl ((s7.1, y86, IntKind.wrap .i64 (s7.2.2.1 + 1), y80.1.1, y80.1.2.1, y80.1.2.2)))))) 1))))))))) (Option.bind (w_at a0 (IntKind.wrap .i64 (s7.2.2.1 + 4))) (fun y99 => Option.bind (u8P (IntKind.wrap .u8 y99)) (fun y100 => Option.bind (some ([y100, (112 : UInt8)] : List UInt8)) (fun y101 => Option.bind (i_SessPut (s7.2.2.2.1, s7.2.2.2.2.1, s7.2.2.2.2.2) (IntKind.wrap .i64 (1 + (y9).tmod 8)) (strP y101)) (fun y103 => cond y103.2 (Option.bind (idx s7.1 (IntKind.wrap .i64 (1 + (y9).tmod 8))) (fun y105 => Option.bind (catP y105 (strP y101)) (fun y106 => Option.bind (idx s7.1 (IntKind.wrap .i64 (1 + (y9).tmod 8))) (fun y107 => Option.bind (some (s7.1.set ((IntKind.wrap .i64 (1 + (y9).tmod 8)).toNat) y106)) (fun y108 => gb y103.2 (idx s7.2.1 (IntKind.wrap .i64 (1 + (y9).tmod 8))) (fun y110 => cond (y103.2 && (decide (y110 = 0))) (Option.map .inr (some false)) (Option.bind (s_DesksOk (y103.1.1, y103.1.2.1, y103.1.2.2)) (fun y113 => cond (!y113) (Option.map .inr (some false)) (whileP (fun s116 : Int => cond (decide (s116 < 100)) (Option.bind (idx s7.2.1 s116) (fun y118 => gb (decide (0 < y118)) (idx s7.2.1 s116) (fun y119 => cond ((decide (0 < y118)) && (decide (y119 ≤ y103.1.1))) (Option.map .inr (Option.map .inr (some false))) (some (.inl (IntKind.wrap .i64 (s116 + 1))))))) (Option.map .inr (some (.inl ((y108, s7.2.1, IntKind.wrap .i64 (s7.2.2.1 + 1), y103.1.1, y103.1.2.1, y103.1.2.2)))))) 1))))))))) (gb y103.2 (idx s7.2.1 (IntKind.wrap .i64 (1 + (y9).tmod 8))) (fun y124 => cond (y103.2 && (decide (y124 = 0))) (Option.map .inr (some false)) (Option.bind (s_DesksOk (y103.1.1, y103.1.2.1, y103.1.2.2)) (fun y127 => cond (!y127) (Option.map .inr (some false)) (whileP (fun s130 : Int => cond (decide (s130 < 100)) (Option.bind (idx s7.2.1 s130) (fun y132 => gb (decide (0 < y132)) (idx s7.2.1 s130) (fun y133 => cond ((decide (0 < y132)) && (decide (y133 ≤ y103.1.1))) (Option.map .inr (Option.map .inr (some false))) (some (.inl (IntKind.wrap .i64 (s130 + 1))))))) (Option.map .inr (some (.inl ((s7.1, s7.2.1, IntKind.wrap .i64 (s7.2.2.1 + 1), y103.1.1, y103.1.2.1, y103.1.2.2)))))) 1)))))))))))))))) (Option.map .inr (Option.bind (s_DrawSessOf a0) (fun y139 => Option.bind (i_SessOf (y139.1.1, y139.1.2.1, y139.1.2.2) y139.2) (fun y140 => Option.bind (s_SessOf (y139.1.1, y139.1.2.1, y139.1.2.2) y139.2) (fun y141 => Option.bind (w_sameInts y140 y141) (fun y142 => some y142))))))) (y3, y5, 0, 0, 1, ([] : List D_Sess))))))
theorem w_FnSessions_walk (w : World) (a0 : TL UInt8) (h0 : GT.rd w [] a0) (r : Bool) (hp : w_FnSessions (GT.dat a0) = some r) : Spec Try.prog 4 [(TL.hdr a0)].toArray w [] (IsV (.bool r)) := by
  refine Spec.intro Try.func4 rfl Try.ntmps4 rfl ?_
  unfold w_FnSessions at hp
  replace hp := dd hp
  refine s8 ?_
  replace hp := ba hp; obtain ⟨y1, hy1, hp⟩ := hp
  refine L_callX rfl fn9.h rfl (by exact fun w hw => w_big_walk w a0 (RdT.now (RdT.old h0) hw) _ hy1) ?_
  refine s1 ?_
  refine kp [0, 25] ?_
  refine W_cond rfl (fun hc2 => ?_) (fun hc2 => ?_)
  · replace hp := cond_t hc2 hp
    refine s4 ?_
    obtain rfl := Option.some.inj hp
    refine s1 ?_
    refine res1 rfl (ResOK.tmp rfl) ⟨rfl, rfl⟩ ms
  · replace hp := cond_f hc2 hp
    refine s3 ?_
    refine L_build (xs := [(1, .const (.int .i64 1))]) (cs := [.int .i64 0, .int .i64 1, (TL.hdr (TL.nil T_Sess 0))]) rfl rfl bld33.h rfl ?_
    refine al fun bk3 => ?_
    refine s4 ?_
    replace hp := ba hp; obtain ⟨y3, hy3, hp⟩ := hp
    refine L_mkP (ByteArray.empty : ByteArray) rfl rfl rfl el25.h rfl rfl (FlatT.flat _) hy3 (fun X4 hdX4 => ?_)
    subst hdX4
    refine s4 ?_
    replace hp := ba hp; obtain ⟨y5, hy5, hp⟩ := hp
    refine L_mkP (0 : Int) rfl rfl rfl el34.h rfl rfl (FlatT.flat _) hy5 (fun X6 hdX6 => ?_)
    subst hdX6
    refine s8 ?_
    refine W_conv (M' := treeH (TL.nil T_Sess 0) :: _) (fun w h => addNilT (τ := T_Sess) 0 h) ?_
    refine W_while (σ := (TL ByteArray) × (TL Int) × Int × Int × Int × (TL T_Sess)) GT.dat (fun ((v7_0, v7_1, v7_2, v7_3, v7_4, v7_5) : (TL ByteArray) × (TL Int) × Int × Int × Int × (TL T_Sess)) => [(4, (TL.hdr v7_0)), (5, (TL.hdr v7_1)), (6, .int .i64 v7_2)]) (fun ((v7_0, v7_1, v7_2, v7_3, v7_4, v7_5) : (TL ByteArray) × (TL Int) × Int × Int × Int × (TL T_Sess)) => [blk bk3 [.int .i64 v7_3, .int .i64 v7_4, (TL.hdr v7_5)] 33, treeH v7_0, treeH v7_1, treeH v7_5]) [(0, _), (3, _)] [] (X4, X6, 0, 0, 1, (TL.nil T_Sess 0)) hp sb ms ?_
    clear hp
    rintro ⟨v7_0, v7_1, v7_2, v7_3, v7_4, v7_5⟩ x7 hp hx7
    replace hp := dd hp
    refine kq [0, 3, 4, 5, 6] ?_
    refine s6 ?_
    refine kp [0, 3, 4, 5, 6, 30] ?_
    refine W_cond rfl (fun hc8 => ?_) (fun hc8 => ?_)
    · replace hp := cond_t hc8 hp
      refine s8 ?_
      replace hp := ba hp; obtain ⟨y9, hy9, hp⟩ := hp
      refine L_callX rfl fn15.h rfl (by exact fun w hw => w_at_walk w a0 (IntKind.wrap .i64 (v7_2 + 1)) (RdT.now (RdT.old h0) hw) _ hy9) ?_
      refine s9 ?_
      replace hp := ba hp; obtain ⟨y10, hy10, hp⟩ := hp
      refine L_callX rfl fn15.h rfl (by exact fun w hw => w_at_walk w a0 v7_2 (RdT.now (RdT.old h0) hw) _ hy10) ?_
      refine s3 ?_
      refine W_jn (σ := Bool) GT.dat (fun (v11_0 : Bool) => [(76, .bool v11_0)]) (fun (v11_0 : Bool) => []) [(0, (TL.hdr a0)), (3, .pointer (some ⟨bk3, 0, none⟩)), (4, (TL.hdr v7_0)), (5, (TL.hdr v7_1)), (6, .int .i64 v7_2), (7, .int .i64 (IntKind.wrap .i64 (1 + (y9).tmod 8))), (42, .int .i64 ((y10).tmod 6))] [blk bk3 [.int .i64 v7_3, .int .i64 v7_4, (TL.hdr v7_5)] 33, treeH v7_0, treeH v7_1, treeH v7_5] hp ?_ ?_
      · clear hp
        intro x11 hp hx11
        refine s5 ?_
        refine kp [0, 3, 4, 5, 6, 7, 42, 76] ?_
        refine W_cond rfl (fun hc12 => ?_) (fun hc12 => ?_)
        · replace hp := cond_t hc12 hp
          refine s1 ?_
          exact ⟨decide ((y10).tmod 6 = 0), sb, (.sub ms), some_eq hp⟩
        · replace hp := cond_f hc12 hp
          refine s4 ?_
          exact ⟨decide ((y10).tmod 6 = 1), sb, (.sub ms), some_eq hp⟩
      · clear hp
        rintro v11_0 hp
        replace hp := dd hp
        refine kq [0, 3, 4, 5, 6, 7, 42, 76] ?_
        refine kp [0, 3, 4, 5, 6, 7, 42, 76] ?_
        refine W_cond rfl (fun hc13 => ?_) (fun hc13 => ?_)
        · replace hp := cond_t hc13 hp
          refine s5 ?_
          replace hp := ba hp; obtain ⟨y14, hy14, hp⟩ := hp
          refine L_callX rfl fn15.h rfl (by exact fun w hw => w_at_walk w a0 (IntKind.wrap .i64 (v7_2 + 2)) (RdT.now (RdT.old h0) hw) _ hy14) ?_
          refine s5 ?_
          replace hp := ba hp; obtain ⟨y15, hy15, hp⟩ := hp
          replace hp := ba hp; obtain ⟨y16, hy16, hp⟩ := hp
          refine W_D0 [9, 10, 11] mix (by kernel_rfl) rfl ?_
          refine s4 ?_
          refine D_callX GC.none fn15.h (OpVs.cons (OpV.t rfl) (OpVs.cons (OpV.t rfl) (OpVs.nil))) (by exact fun hg w F hF hM => w_at_walk w a0 (IntKind.wrap .i64 (v7_2 + 3)) (RdT.nowS (RdT.old h0) hF hM) _ hy15) ?_
          refine s3 ?_
          refine D_call1R (fun v M => ∃ (x0 : T_Desks) (x1 : Int) (x2 : Bool), v = .tuple #[.agg (GT.cells x0).toArray, .int .i64 x1, .bool x2] ∧ (GT.dat x0, GT.dat x1, GT.dat x2) = y16 ∧ M = [treeH x0]) fn17.h (OpVs.cons (OpV.t rfl) (OpVs.cons (OpV.t rfl) (OpVs.cons (OpV.t rfl) (OpVs.nil)))) (by exact fun w F hF hM => i_SessOpen_walk w (v7_3, v7_4, v7_5) (IntKind.wrap .i64 (1 + (y15).tmod 3)) (IntKind.wrap .i64 (1 + (y14).tmod 20)) (RdT.nowS (RdT.pair RdT.int (RdT.pair RdT.int (RdT.tree mm))) hF hM) _ hy16) ?_
          refine D_moveC (t := 94) rfl (by kernel_rfl) ?_
          refine D_extractC (t := 85) (AggV (τ := T_Desks) y16.1) rfl (by rintro v M ⟨x0, x1, x2, rfl, hd, rfl⟩; subst hd; exact ⟨_, _, rfl, rfl, x0, rfl, rfl, rfl⟩) (by kernel_rfl) ?_
          refine D_extractW (t := 85) (.int .i64 y16.2.1) rfl (by rintro v M ⟨-, M', x0, x1, x2, rfl, hd, -⟩; subst hd; exact ⟨_, rfl, rfl⟩) ?_
          refine D_extractW (t := 85) (.bool y16.2.2) rfl (by rintro v M ⟨-, M', x0, x1, x2, rfl, hd, -⟩; subst hd; exact ⟨_, rfl, rfl⟩) ?_
          refine D_alloc zero33.h ?_
          refine D_storeK (p := 9) (x := 95) rfl rfl (by exact agg33.h) rfl (by kernel_rfl) ?_
          refine s5 ?_
          refine Give_R rfl rfl ?_
          rintro _ _ ⟨bk9, X17, rfl, hdX17, rfl⟩
          try rw [← hdX17] at hp
          obtain ⟨X17_1, X17_2, X17_3⟩ := X17
          refine s15 ?_
          refine sc ?_
          replace hp := dd hp
          refine xW ((X17_1, X17_2, X17_3) : T_Desks) ?_
          refine s5 ?_
          refine kp [0, 3, 4, 5, 6, 8, 9, 10, 98] ?_
          refine W_cond rfl (fun hc18 => ?_) (fun hc18 => ?_)
          · replace hp := cond_t hc18 hp
            refine s2 ?_
            refine W_D0 [104] mix (by kernel_rfl) rfl ?_
            refine s14 ?_
            refine kp [0, 3, 4, 5, 6, 8, 9, 10, 104] ?_
            refine W_cond rfl (fun hc19 => ?_) (fun hc19 => ?_)
            · replace hp := cond_t hc19 hp
              refine s4 ?_
              replace hp := map_any hp; obtain ⟨a20, hp, hx_a20⟩ := hp
              obtain rfl := hx7 _ hx_a20
              obtain rfl := Option.some.inj hp
              refine s1 ?_
              refine res1 rfl (ResOK.tmp rfl) ⟨rfl, rfl⟩ ms
            · replace hp := cond_f hc19 hp
              refine s9 ?_
              replace hp := idx_bind hp; obtain ⟨u21, hy21, hp⟩ := hp
              refine L_idxA (X := v7_1) rfl rfl rfl el34.h (RdT.tree mm) hy21 ?_
              refine L_conv (M' := treeH u21 :: holeH v7_1 (y16.2.1.toNat) (GT.cells u21) :: _) (fun w h => hole_open hy21.2 pk h) ?_
              refine L_stH (X := v7_1) (i := y16.2.1.toNat) (sz := 1) (fo := 0) (n := 1) rfl rfl pk rfl (.inr ⟨one3.h, rfl⟩) rfl (allOne rfl) (Nat.le_of_ble_eq_true rfl) ?_
              refine L_conv (M' := treeH (IntKind.wrap .i64 (X17_1 + IntKind.wrap .i64 (1 + (y14).tmod 20)) : Int) :: _) (fun w h => addF (IntKind.wrap .i64 (X17_1 + IntKind.wrap .i64 (1 + (y14).tmod 20)) : Int) h) ?_
              replace hp := ba hp; obtain ⟨y22, hy22, hp⟩ := hp
              refine L_close (X := v7_1) (IntKind.wrap .i64 (X17_1 + IntKind.wrap .i64 (1 + (y14).tmod 20)) : Int) rfl pk pk hy22 (fun X23 hdX23 hhX23 => ?_)
              subst hdX23
              try rw [← hhX23]
              refine s4 ?_
              replace hp := idx_bind hp; obtain ⟨u24, hy24, hp⟩ := hp
              refine L_idxA (X := v7_0) rfl rfl rfl el25.h (RdT.tree mm) hy24 ?_
              refine L_conv (M' := treeH u24 :: holeH v7_0 (y16.2.1.toNat) (GT.cells u24) :: _) (fun w h => hole_open hy24.2 pk h) ?_
              refine L_stH (X := v7_0) (i := y16.2.1.toNat) (sz := 1) (fo := 0) (n := 1) rfl rfl pk rfl (.inr ⟨one9.h, rfl⟩) rfl (allOne rfl) (Nat.le_of_ble_eq_true rfl) ?_
              refine L_conv (M' := treeH (ByteArray.empty : ByteArray) :: _) (fun w h => addF (ByteArray.empty : ByteArray) h) ?_
              replace hp := ba hp; obtain ⟨y25, hy25, hp⟩ := hp
              refine L_close (X := v7_0) (ByteArray.empty : ByteArray) rfl pk pk hy25 (fun X26 hdX26 hhX26 => ?_)
              subst hdX26
              try rw [← hhX26]
              refine s9 ?_
              replace hp := ba hp; obtain ⟨y27, hy27, hp⟩ := hp
              refine L_callX rfl fn21.h rfl (by exact fun w hw => s_DesksOk_walk w (X17_1, X17_2, X17_3) (RdT.now (RdT.pair RdT.int (RdT.pair RdT.int (RdT.tree mm))) hw) _ hy27) ?_
              refine s2 ?_
              refine kp [0, 3, 4, 5, 6, 195] ?_
              refine W_cond rfl (fun hc28 => ?_) (fun hc28 => ?_)
              · replace hp := cond_t hc28 hp
                refine s4 ?_
                replace hp := map_any hp; obtain ⟨a29, hp, hx_a29⟩ := hp
                obtain rfl := hx7 _ hx_a29
                obtain rfl := Option.some.inj hp
                refine s1 ?_
                refine res1 rfl (ResOK.tmp rfl) ⟨rfl, rfl⟩ ms
              · replace hp := cond_f hc28 hp
                refine s6 ?_
                refine W_while (σ := Int) GT.dat (fun (v30_0 : Int) => [(21, .int .i64 v30_0)]) (fun (v30_0 : Int) => []) [(0, _), (3, _), (4, _), (5, _), (6, _)] [blk bk3 _ _, treeH X26, treeH X23, treeH X17_3] 1 hp sb ms ?_
                clear hp
                rintro v30_0 x30 hp hx30
                replace hp := dd hp
                refine kq [0, 3, 4, 5, 6, 21] ?_
                refine s6 ?_
                refine kp [0, 3, 4, 5, 6, 21, 197] ?_
                refine W_cond rfl (fun hc31 => ?_) (fun hc31 => ?_)
                · replace hp := cond_t hc31 hp
                  refine s4 ?_
                  replace hp := idx_bind hp; obtain ⟨u32, hy32, hp⟩ := hp
                  replace hp := idx_gb hp; obtain ⟨u33, hy33, hp⟩ := hp
                  refine W_D0 [213] mix (by kernel_rfl) rfl ?_
                  refine s2 ?_
                  refine D_idxA (X := X23) GC.none (OpV.t rfl) (OpV.t rfl) el34.h (RdT.tree mm) (fun _ => hy32) ?_
                  refine D_load0 GC.none (OpV.t rfl) (fun hg => RdT.at (RdT.tree mm) (hy32).2) one3.h rfl ?_
                  refine s4 ?_
                  refine D_idxA (X := X23) (GC.some rfl rfl) (OpV.s rfl) (OpV.s rfl) el34.h (RdT.tree mm) (fun hg => hy33 hg.2) ?_
                  refine D_load0 (GC.some rfl rfl) (OpV.s rfl) (fun hg => RdT.at (RdT.tree mm) (hy33 hg.2).2) one3.h rfl ?_
                  refine s20 ?_
                  refine kp [0, 3, 4, 5, 6, 21, 213] ?_
                  refine W_cond rfl (fun hc34 => ?_) (fun hc34 => ?_)
                  · replace hp := cond_t hc34 hp
                    refine s4 ?_
                    replace hp := map_any hp; obtain ⟨a35, hp, hx_a35⟩ := hp
                    obtain rfl := hx30 _ hx_a35
                    replace hp := map_any hp; obtain ⟨a36, hp, hx_a36⟩ := hp
                    obtain rfl := hx7 _ hx_a36
                    obtain rfl := Option.some.inj hp
                    refine s1 ?_
                    refine res1 rfl (ResOK.tmp rfl) ⟨rfl, rfl⟩ ms
                  · replace hp := cond_f hc34 hp
                    refine s6 ?_
                    exact ⟨IntKind.wrap .i64 (v30_0 + 1), sb, (.sub ms), some_eq hp⟩
                · replace hp := cond_f hc31 hp
                  refine W_exit ?_
                  replace hp := map_any hp; obtain ⟨a37, hp, hx_a37⟩ := hp
                  obtain rfl := hx30 _ hx_a37
                  refine s5 ?_
                  exact ⟨(X26, X23, IntKind.wrap .i64 (v7_2 + 1), X17_1, X17_2, X17_3), sb, (.sub ms), some_eq hp⟩
          · replace hp := cond_f hc18 hp
            refine s9 ?_
            replace hp := ba hp; obtain ⟨y38, hy38, hp⟩ := hp
            refine L_callX rfl fn21.h rfl (by exact fun w hw => s_DesksOk_walk w (X17_1, X17_2, X17_3) (RdT.now (RdT.pair RdT.int (RdT.pair RdT.int (RdT.tree mm))) hw) _ hy38) ?_
            refine s2 ?_
            refine kp [0, 3, 4, 5, 6, 195] ?_
            refine W_cond rfl (fun hc39 => ?_) (fun hc39 => ?_)
            · replace hp := cond_t hc39 hp
              refine s4 ?_
              replace hp := map_any hp; obtain ⟨a40, hp, hx_a40⟩ := hp
              obtain rfl := hx7 _ hx_a40
              obtain rfl := Option.some.inj hp
              refine s1 ?_
              refine res1 rfl (ResOK.tmp rfl) ⟨rfl, rfl⟩ ms
            · replace hp := cond_f hc39 hp
              refine s6 ?_
              refine W_while (σ := Int) GT.dat (fun (v41_0 : Int) => [(21, .int .i64 v41_0)]) (fun (v41_0 : Int) => []) [(0, _), (3, _), (4, _), (5, _), (6, _)] [blk bk3 _ _, treeH v7_0, treeH v7_1, treeH X17_3] 1 hp sb ms ?_
              clear hp
              rintro v41_0 x41 hp hx41
              replace hp := dd hp
              refine kq [0, 3, 4, 5, 6, 21] ?_
              refine s6 ?_
              refine kp [0, 3, 4, 5, 6, 21, 197] ?_
              refine W_cond rfl (fun hc42 => ?_) (fun hc42 => ?_)
              · replace hp := cond_t hc42 hp
                refine s4 ?_
                replace hp := idx_bind hp; obtain ⟨u43, hy43, hp⟩ := hp
                replace hp := idx_gb hp; obtain ⟨u44, hy44, hp⟩ := hp
                refine W_D0 [213] mix (by kernel_rfl) rfl ?_
                refine s2 ?_
                refine D_idxA (X := v7_1) GC.none (OpV.t rfl) (OpV.t rfl) el34.h (RdT.tree mm) (fun _ => hy43) ?_
                refine D_load0 GC.none (OpV.t rfl) (fun hg => RdT.at (RdT.tree mm) (hy43).2) one3.h rfl ?_
                refine s4 ?_
                refine D_idxA (X := v7_1) (GC.some rfl rfl) (OpV.s rfl) (OpV.s rfl) el34.h (RdT.tree mm) (fun hg => hy44 hg.2) ?_
                refine D_load0 (GC.some rfl rfl) (OpV.s rfl) (fun hg => RdT.at (RdT.tree mm) (hy44 hg.2).2) one3.h rfl ?_
                refine s20 ?_
                refine kp [0, 3, 4, 5, 6, 21, 213] ?_
                refine W_cond rfl (fun hc45 => ?_) (fun hc45 => ?_)
                · replace hp := cond_t hc45 hp
                  refine s4 ?_
                  replace hp := map_any hp; obtain ⟨a46, hp, hx_a46⟩ := hp
                  obtain rfl := hx41 _ hx_a46
                  replace hp := map_any hp; obtain ⟨a47, hp, hx_a47⟩ := hp
                  obtain rfl := hx7 _ hx_a47
                  obtain rfl := Option.some.inj hp
                  refine s1 ?_
                  refine res1 rfl (ResOK.tmp rfl) ⟨rfl, rfl⟩ ms
                · replace hp := cond_f hc45 hp
                  refine s6 ?_
                  exact ⟨IntKind.wrap .i64 (v41_0 + 1), sb, (.sub ms), some_eq hp⟩
              · replace hp := cond_f hc42 hp
                refine W_exit ?_
                replace hp := map_any hp; obtain ⟨a48, hp, hx_a48⟩ := hp
                obtain rfl := hx41 _ hx_a48
                refine s5 ?_
                exact ⟨(v7_0, v7_1, IntKind.wrap .i64 (v7_2 + 1), X17_1, X17_2, X17_3), sb, (.sub ms), some_eq hp⟩
        · replace hp := cond_f hc13 hp
          refine s5 ?_
          refine kp [0, 3, 4, 5, 6, 7, 42, 116] ?_
          refine W_cond rfl (fun hc49 => ?_) (fun hc49 => ?_)
          · replace hp := cond_t hc49 hp
            refine s1 ?_
            refine W_AP [] 11 12 [.int .i64 0, .int .i64 0, .slice none 0 0] 33 13 mix rfl ?_
            refine AP_A [blk bk3 [.int .i64 v7_3, .int .i64 v7_4, (TL.hdr v7_5)] 33] trivial ?_
            refine AP_take 0 rfl (PU_loadW rfl rfl (RdC.blk mm) (by exact agg33.h)) (by kernel_rfl) (by kernel_rfl) (by kernel_rfl) (by kernel_rfl) (by kernel_rfl) rfl rfl rfl ⟨mm, trivial⟩ ?_
            refine AP_take 1 rfl (PU_move rfl rfl) (by kernel_rfl) (by kernel_rfl) (by kernel_rfl) (by kernel_rfl) (by kernel_rfl) rfl rfl rfl ⟨mm, trivial⟩ ?_
            refine AP_take 2 rfl (PU_move rfl rfl) (by kernel_rfl) (by kernel_rfl) (by kernel_rfl) (by kernel_rfl) (by kernel_rfl) rfl rfl rfl ⟨mm, trivial⟩ ?_
            refine AP_take 3 rfl (PU_binV rfl rfl rfl bv_add) (by kernel_rfl) (by kernel_rfl) (by kernel_rfl) (by kernel_rfl) (by kernel_rfl) rfl rfl rfl ⟨mm, trivial⟩ ?_
            refine AP_step 4 rfl rfl (by first | exact .inl (by kernel_rfl) | exact .inr (by kernel_rfl)) (by kernel_rfl) rfl rfl rfl rfl rfl (fun l M => L_alloc rfl zero33.h (fun b => L_nil ⟨b, rfl, rfl⟩)) ⟨mm, trivial⟩ (fun fr50 => ?_)
            replace hp := ba hp; obtain ⟨y51, hy51, hp⟩ := hp
            refine L_callX rfl fn15.h rfl (by exact fun w hw => w_at_walk w a0 (IntKind.wrap .i64 (v7_2 + 2)) (RdT.now (RdT.old h0) hw) _ hy51) ?_
            refine L_nil ⟨_, pk, ⟨mm, trivial⟩, rfl, ?_⟩
            refine AP_take 5 rfl (PU_binV rfl rfl rfl (bv_rem (by decide))) (by kernel_rfl) (by kernel_rfl) (by kernel_rfl) (by kernel_rfl) (by kernel_rfl) rfl rfl rfl ⟨mm, trivial⟩ ?_
            refine AP_take 6 rfl (PU_binV rfl rfl rfl bv_add) (by kernel_rfl) (by kernel_rfl) (by kernel_rfl) (by kernel_rfl) (by kernel_rfl) rfl rfl rfl ⟨mm, trivial⟩ ?_
            refine AP_step 7 rfl rfl (by first | exact .inl (by kernel_rfl) | exact .inr (by kernel_rfl)) (by kernel_rfl) rfl rfl rfl rfl rfl (fun l M => L_alloc rfl zero33.h (fun b => L_nil ⟨b, rfl, rfl⟩)) ⟨mm, trivial⟩ (fun fr52 => ?_)
            replace hp := ba hp; obtain ⟨y53, hy53, hp⟩ := hp
            refine L_callR rfl fn18.h rfl (by exact fun w hw => i_SessTick_walk w (v7_3, v7_4, v7_5) (IntKind.wrap .i64 (1 + (y51).tmod 6)) (RdT.now (RdT.pair RdT.int (RdT.pair RdT.int (RdT.tree mm))) hw) _ hy53) ?_
            rintro _ _ ⟨⟨y53x0_1, y53x0_2, y53x0_3⟩, y53x1, rfl, rfl, rfl⟩
            refine sc ?_
            replace hp := dd hp
            refine xL ((y53x0_1, y53x0_2, y53x0_3) : T_Desks) ?_
            refine L_nil ⟨_, pk, ⟨mm, trivial⟩, rfl, ?_⟩
            refine AP_take 8 rfl (PU_move rfl rfl) (by kernel_rfl) (by kernel_rfl) (by kernel_rfl) (by kernel_rfl) (by kernel_rfl) rfl rfl rfl ⟨mm, trivial⟩ ?_
            refine AP_take 9 rfl (PU_extract rfl rfl rfl) (by kernel_rfl) (by kernel_rfl) (by kernel_rfl) (by kernel_rfl) (by kernel_rfl) rfl rfl rfl ⟨mm, trivial⟩ ?_
            refine AP_take 10 rfl (PU_extract rfl rfl rfl) (by kernel_rfl) (by kernel_rfl) (by kernel_rfl) (by kernel_rfl) (by kernel_rfl) rfl rfl rfl ⟨mm, trivial⟩ ?_
            refine AP_end (by kernel_rfl) rfl rfl (fun l M => L_alloc rfl zero33.h (fun b => L_nil ⟨b, rfl, rfl⟩)) ⟨mm, trivial⟩ (fun bk12 => ?_)
            refine AH_one 12 rfl rfl (by kernel_rfl) ?_
            refine s1 ?_
            refine L_nil ⟨⟨mm, trivial⟩, ?_⟩
            refine AH_one 13 rfl rfl (by kernel_rfl) ?_
            refine s1 ?_
            refine L_nil ⟨⟨mm, trivial⟩, ?_⟩
            refine AH_done (by kernel_rfl) ?_
            refine s6 ?_
            refine W_while (σ := (TL Int) × Int) GT.dat (fun ((v54_0, v54_1) : (TL Int) × Int) => [(5, (TL.hdr v54_0)), (14, .int .i64 v54_1)]) (fun ((v54_0, v54_1) : (TL Int) × Int) => [treeH v54_0]) [(0, _), (3, _), (4, _), (6, _), (12, _), (13, _)] [blk bk3 _ _, blk bk12 _ _, treeH v7_0, treeH y53x1, treeH v7_5, treeH y53x0_3] (v7_1, 0) hp sb ms ?_
            clear hp
            rintro ⟨v54_0, v54_1⟩ x54 hp hx54
            replace hp := dd hp
            refine kq [0, 3, 4, 5, 6, 12, 13, 14] ?_
            refine s8 ?_
            refine kp [0, 3, 4, 5, 6, 12, 13, 14, 132] ?_
            refine W_cond rfl (fun hc55 => ?_) (fun hc55 => ?_)
            · replace hp := cond_t hc55 hp
              refine s5 ?_
              replace hp := idx_bind hp; obtain ⟨u56, hy56, hp⟩ := hp
              replace hp := idx_bind hp; obtain ⟨u57, hy57, hp⟩ := hp
              replace hp := idx_gb hp; obtain ⟨u58, hy58, hp⟩ := hp
              replace hp := idx_gb hp; obtain ⟨u59, hy59, hp⟩ := hp
              refine W_D0 [154] mix (by kernel_rfl) rfl ?_
              refine s3 ?_
              refine D_idxA (X := y53x1) GC.none (OpV.t rfl) (OpV.t rfl) el34.h (RdT.tree mm) (fun _ => hy56) ?_
              refine D_load0 GC.none (OpV.t rfl) (fun hg => RdT.at (RdT.tree mm) (hy56).2) one3.h rfl ?_
              refine D_idxA (X := v54_0) GC.none (OpV.t rfl) (OpV.t rfl) el34.h (RdT.tree mm) (fun _ => hy57) ?_
              refine D_load0 GC.none (OpV.t rfl) (fun hg => RdT.at (RdT.tree mm) (hy57).2) one3.h rfl ?_
              refine s5 ?_
              refine D_idxA (X := y53x1) (GC.some rfl rfl) (OpV.s rfl) (OpV.s rfl) el34.h (RdT.tree mm) (fun hg => hy58 (gnot hg.2)) ?_
              refine D_load0 (GC.some rfl rfl) (OpV.s rfl) (fun hg => RdT.at (RdT.tree mm) (hy58 (gnot hg.2)).2) one3.h rfl ?_
              refine D_idxA (X := v54_0) (GC.some rfl rfl) (OpV.s rfl) (OpV.s rfl) el34.h (RdT.tree mm) (fun hg => hy59 (gnot hg.2)) ?_
              refine D_load0 (GC.some rfl rfl) (OpV.s rfl) (fun hg => RdT.at (RdT.tree mm) (hy59 (gnot hg.2)).2) one3.h rfl ?_
              refine s20 ?_
              refine s6 ?_
              refine kp [0, 3, 4, 5, 6, 12, 13, 14, 154] ?_
              refine W_cond rfl (fun hc60 => ?_) (fun hc60 => ?_)
              · replace hp := cond_t hc60 hp
                refine s4 ?_
                replace hp := map_any hp; obtain ⟨a61, hp, hx_a61⟩ := hp
                obtain rfl := hx54 _ hx_a61
                replace hp := map_any hp; obtain ⟨a62, hp, hx_a62⟩ := hp
                obtain rfl := hx7 _ hx_a62
                obtain rfl := Option.some.inj hp
                refine s1 ?_
                refine res1 rfl (ResOK.tmp rfl) ⟨rfl, rfl⟩ ms
              · replace hp := cond_f hc60 hp
                refine s5 ?_
                replace hp := idx_bind hp; obtain ⟨u63, hy63, hp⟩ := hp
                obtain rfl : u56 = u63 := Option.some.inj (hy56.2.symm.trans hy63.2)
                refine L_idxA (X := y53x1) rfl rfl rfl el34.h (RdT.tree mm) hy56 ?_
                refine L_load0 rfl rfl (RdT.at (RdT.tree mm) (hy56).2) one3.h rfl ?_
                replace hp := idx_bind hp; obtain ⟨u64, hy64, hp⟩ := hp
                obtain rfl : u57 = u64 := Option.some.inj (hy57.2.symm.trans hy64.2)
                refine L_idxA (X := v54_0) rfl rfl rfl el34.h (RdT.tree mm) hy57 ?_
                refine L_conv (M' := treeH u57 :: holeH v54_0 (u56.toNat) (GT.cells u57) :: _) (fun w h => hole_open hy57.2 pk h) ?_
                refine L_stH (X := v54_0) (i := u56.toNat) (sz := 1) (fo := 0) (n := 1) rfl rfl pk rfl (.inr ⟨one3.h, rfl⟩) rfl (allOne rfl) (Nat.le_of_ble_eq_true rfl) ?_
                refine L_conv (M' := treeH (0 : Int) :: _) (fun w h => addF (0 : Int) h) ?_
                replace hp := ba hp; obtain ⟨y65, hy65, hp⟩ := hp
                refine L_close (X := v54_0) (0 : Int) rfl pk pk hy65 (fun X66 hdX66 hhX66 => ?_)
                subst hdX66
                try rw [← hhX66]
                refine s6 ?_
                exact ⟨(X66, IntKind.wrap .i64 (v54_1 + 1)), sb, (.sub ms), some_eq hp⟩
            · replace hp := cond_f hc55 hp
              refine W_exit ?_
              replace hp := map_any hp; obtain ⟨a67, hp, hx_a67⟩ := hp
              obtain rfl := hx54 _ hx_a67
              refine s8 ?_
              replace hp := ba hp; obtain ⟨y68, hy68, hp⟩ := hp
              refine L_callX rfl fn21.h rfl (by exact fun w hw => s_DesksOk_walk w (y53x0_1, y53x0_2, y53x0_3) (RdT.now (RdT.pair RdT.int (RdT.pair RdT.int (RdT.tree mm))) hw) _ hy68) ?_
              refine s2 ?_
              refine kp [0, 3, 4, 5, 6, 195] ?_
              refine W_cond rfl (fun hc69 => ?_) (fun hc69 => ?_)
              · replace hp := cond_t hc69 hp
                refine s4 ?_
                replace hp := map_any hp; obtain ⟨a70, hp, hx_a70⟩ := hp
                obtain rfl := hx7 _ hx_a70
                obtain rfl := Option.some.inj hp
                refine s1 ?_
                refine res1 rfl (ResOK.tmp rfl) ⟨rfl, rfl⟩ ms
              · replace hp := cond_f hc69 hp
                refine s6 ?_
                refine W_while (σ := Int) GT.dat (fun (v71_0 : Int) => [(21, .int .i64 v71_0)]) (fun (v71_0 : Int) => []) [(0, _), (3, _), (4, _), (5, _), (6, _)] [blk bk3 _ _, treeH v7_0, treeH v54_0, treeH y53x0_3] 1 hp sb ms ?_
                clear hp
                rintro v71_0 x71 hp hx71
                replace hp := dd hp
                refine kq [0, 3, 4, 5, 6, 21] ?_
                refine s6 ?_
                refine kp [0, 3, 4, 5, 6, 21, 197] ?_
                refine W_cond rfl (fun hc72 => ?_) (fun hc72 => ?_)
                · replace hp := cond_t hc72 hp
                  refine s4 ?_
                  replace hp := idx_bind hp; obtain ⟨u73, hy73, hp⟩ := hp
                  replace hp := idx_gb hp; obtain ⟨u74, hy74, hp⟩ := hp
                  refine W_D0 [213] mix (by kernel_rfl) rfl ?_
                  refine s2 ?_
                  refine D_idxA (X := v54_0) GC.none (OpV.t rfl) (OpV.t rfl) el34.h (RdT.tree mm) (fun _ => hy73) ?_
                  refine D_load0 GC.none (OpV.t rfl) (fun hg => RdT.at (RdT.tree mm) (hy73).2) one3.h rfl ?_
                  refine s4 ?_
                  refine D_idxA (X := v54_0) (GC.some rfl rfl) (OpV.s rfl) (OpV.s rfl) el34.h (RdT.tree mm) (fun hg => hy74 hg.2) ?_
                  refine D_load0 (GC.some rfl rfl) (OpV.s rfl) (fun hg => RdT.at (RdT.tree mm) (hy74 hg.2).2) one3.h rfl ?_
                  refine s20 ?_
                  refine kp [0, 3, 4, 5, 6, 21, 213] ?_
                  refine W_cond rfl (fun hc75 => ?_) (fun hc75 => ?_)
                  · replace hp := cond_t hc75 hp
                    refine s4 ?_
                    replace hp := map_any hp; obtain ⟨a76, hp, hx_a76⟩ := hp
                    obtain rfl := hx71 _ hx_a76
                    replace hp := map_any hp; obtain ⟨a77, hp, hx_a77⟩ := hp
                    obtain rfl := hx7 _ hx_a77
                    obtain rfl := Option.some.inj hp
                    refine s1 ?_
                    refine res1 rfl (ResOK.tmp rfl) ⟨rfl, rfl⟩ ms
                  · replace hp := cond_f hc75 hp
                    refine s6 ?_
                    exact ⟨IntKind.wrap .i64 (v71_0 + 1), sb, (.sub ms), some_eq hp⟩
                · replace hp := cond_f hc72 hp
                  refine W_exit ?_
                  replace hp := map_any hp; obtain ⟨a78, hp, hx_a78⟩ := hp
                  obtain rfl := hx71 _ hx_a78
                  refine s5 ?_
                  exact ⟨(v7_0, v54_0, IntKind.wrap .i64 (v7_2 + 1), y53x0_1, y53x0_2, y53x0_3), sb, (.sub ms), some_eq hp⟩
          · replace hp := cond_f hc49 hp
            refine s5 ?_
            refine kp [0, 3, 4, 5, 6, 7, 162] ?_
            refine W_cond rfl (fun hc79 => ?_) (fun hc79 => ?_)
            · replace hp := cond_t hc79 hp
              refine s4 ?_
              replace hp := ba hp; obtain ⟨y80, hy80, hp⟩ := hp
              refine L_callR rfl fn19.h rfl (by exact fun w hw => i_SessEnd_walk w (v7_3, v7_4, v7_5) (IntKind.wrap .i64 (1 + (y9).tmod 8)) (RdT.now (RdT.pair RdT.int (RdT.pair RdT.int (RdT.tree mm))) hw) _ hy80) ?_
              rintro _ _ ⟨⟨y80x0_1, y80x0_2, y80x0_3⟩, y80x1, y80x2, rfl, rfl, rfl⟩
              refine sc ?_
              replace hp := dd hp
              refine xL ((y80x0_1, y80x0_2, y80x0_3) : T_Desks) ?_
              refine s4 ?_
              refine al fun bk15 => ?_
              refine s6 ?_
              replace hp := idx_bind hp; obtain ⟨u81, hy81, hp⟩ := hp
              replace hp := idx_gb hp; obtain ⟨u82, hy82, hp⟩ := hp
              refine W_D0 [188] mix (by kernel_rfl) rfl ?_
              refine s3 ?_
              refine D_idxA (X := v7_1) GC.none (OpV.t rfl) (OpV.t rfl) el34.h (RdT.tree mm) (fun _ => hy81) ?_
              refine D_load0 GC.none (OpV.t rfl) (fun hg => RdT.at (RdT.tree mm) (hy81).2) one3.h rfl ?_
              refine s6 ?_
              refine D_idxA (X := v7_0) (GC.some rfl rfl) (OpV.s rfl) (OpV.s rfl) el25.h (RdT.tree mm) (fun hg => hy82 (gnot hg.2)) ?_
              refine D_load0 (GC.some rfl rfl) (OpV.s rfl) (fun hg => RdT.at (RdT.tree mm) (hy82 (gnot hg.2)).2) one9.h rfl ?_
              refine s20 ?_
              refine s5 ?_
              refine kp [0, 3, 4, 5, 6, 7, 15, 188] ?_
              refine W_cond rfl (fun hc83 => ?_) (fun hc83 => ?_)
              · replace hp := cond_t hc83 hp
                refine s4 ?_
                replace hp := map_any hp; obtain ⟨a84, hp, hx_a84⟩ := hp
                obtain rfl := hx7 _ hx_a84
                obtain rfl := Option.some.inj hp
                refine s1 ?_
                refine res1 rfl (ResOK.tmp rfl) ⟨rfl, rfl⟩ ms
              · replace hp := cond_f hc83 hp
                refine s5 ?_
                replace hp := idx_bind hp; obtain ⟨u85, hy85, hp⟩ := hp
                obtain rfl : u81 = u85 := Option.some.inj (hy81.2.symm.trans hy85.2)
                refine L_idxA (X := v7_1) rfl rfl rfl el34.h (RdT.tree mm) hy81 ?_
                refine L_conv (M' := treeH u81 :: holeH v7_1 ((IntKind.wrap .i64 (1 + (y9).tmod 8)).toNat) (GT.cells u81) :: _) (fun w h => hole_open hy81.2 pk h) ?_
                refine L_stH (X := v7_1) (i := (IntKind.wrap .i64 (1 + (y9).tmod 8)).toNat) (sz := 1) (fo := 0) (n := 1) rfl rfl pk rfl (.inr ⟨one3.h, rfl⟩) rfl (allOne rfl) (Nat.le_of_ble_eq_true rfl) ?_
                refine L_conv (M' := treeH (0 : Int) :: _) (fun w h => addF (0 : Int) h) ?_
                replace hp := ba hp; obtain ⟨y86, hy86, hp⟩ := hp
                refine L_close (X := v7_1) (0 : Int) rfl pk pk hy86 (fun X87 hdX87 hhX87 => ?_)
                subst hdX87
                try rw [← hhX87]
                refine s9 ?_
                replace hp := ba hp; obtain ⟨y88, hy88, hp⟩ := hp
                refine L_callX rfl fn21.h rfl (by exact fun w hw => s_DesksOk_walk w (y80x0_1, y80x0_2, y80x0_3) (RdT.now (RdT.pair RdT.int (RdT.pair RdT.int (RdT.tree mm))) hw) _ hy88) ?_
                refine s2 ?_
                refine kp [0, 3, 4, 5, 6, 195] ?_
                refine W_cond rfl (fun hc89 => ?_) (fun hc89 => ?_)
                · replace hp := cond_t hc89 hp
                  refine s4 ?_
                  replace hp := map_any hp; obtain ⟨a90, hp, hx_a90⟩ := hp
                  obtain rfl := hx7 _ hx_a90
                  obtain rfl := Option.some.inj hp
                  refine s1 ?_
                  refine res1 rfl (ResOK.tmp rfl) ⟨rfl, rfl⟩ ms
                · replace hp := cond_f hc89 hp
                  refine s6 ?_
                  refine W_while (σ := Int) GT.dat (fun (v91_0 : Int) => [(21, .int .i64 v91_0)]) (fun (v91_0 : Int) => []) [(0, _), (3, _), (4, _), (5, _), (6, _)] [blk bk3 _ _, treeH v7_0, treeH X87, treeH y80x0_3] 1 hp sb ms ?_
                  clear hp
                  rintro v91_0 x91 hp hx91
                  replace hp := dd hp
                  refine kq [0, 3, 4, 5, 6, 21] ?_
                  refine s6 ?_
                  refine kp [0, 3, 4, 5, 6, 21, 197] ?_
                  refine W_cond rfl (fun hc92 => ?_) (fun hc92 => ?_)
                  · replace hp := cond_t hc92 hp
                    refine s4 ?_
                    replace hp := idx_bind hp; obtain ⟨u93, hy93, hp⟩ := hp
                    replace hp := idx_gb hp; obtain ⟨u94, hy94, hp⟩ := hp
                    refine W_D0 [213] mix (by kernel_rfl) rfl ?_
                    refine s2 ?_
                    refine D_idxA (X := X87) GC.none (OpV.t rfl) (OpV.t rfl) el34.h (RdT.tree mm) (fun _ => hy93) ?_
                    refine D_load0 GC.none (OpV.t rfl) (fun hg => RdT.at (RdT.tree mm) (hy93).2) one3.h rfl ?_
                    refine s4 ?_
                    refine D_idxA (X := X87) (GC.some rfl rfl) (OpV.s rfl) (OpV.s rfl) el34.h (RdT.tree mm) (fun hg => hy94 hg.2) ?_
                    refine D_load0 (GC.some rfl rfl) (OpV.s rfl) (fun hg => RdT.at (RdT.tree mm) (hy94 hg.2).2) one3.h rfl ?_
                    refine s20 ?_
                    refine kp [0, 3, 4, 5, 6, 21, 213] ?_
                    refine W_cond rfl (fun hc95 => ?_) (fun hc95 => ?_)
                    · replace hp := cond_t hc95 hp
                      refine s4 ?_
                      replace hp := map_any hp; obtain ⟨a96, hp, hx_a96⟩ := hp
                      obtain rfl := hx91 _ hx_a96
                      replace hp := map_any hp; obtain ⟨a97, hp, hx_a97⟩ := hp
                      obtain rfl := hx7 _ hx_a97
                      obtain rfl := Option.some.inj hp
                      refine s1 ?_
                      refine res1 rfl (ResOK.tmp rfl) ⟨rfl, rfl⟩ ms
                    · replace hp := cond_f hc95 hp
                      refine s6 ?_
                      exact ⟨IntKind.wrap .i64 (v91_0 + 1), sb, (.sub ms), some_eq hp⟩
                  · replace hp := cond_f hc92 hp
                    refine W_exit ?_
                    replace hp := map_any hp; obtain ⟨a98, hp, hx_a98⟩ := hp
                    obtain rfl := hx91 _ hx_a98
                    refine s5 ?_
                    exact ⟨(v7_0, X87, IntKind.wrap .i64 (v7_2 + 1), y80x0_1, y80x0_2, y80x0_3), sb, (.sub ms), some_eq hp⟩
            · replace hp := cond_f hc79 hp
              refine s5 ?_
              replace hp := ba hp; obtain ⟨y99, hy99, hp⟩ := hp
              refine L_callX rfl fn15.h rfl (by exact fun w hw => w_at_walk w a0 (IntKind.wrap .i64 (v7_2 + 4)) (RdT.now (RdT.old h0) hw) _ hy99) ?_
              refine L_convInt rfl rfl und5.h (by rw [und3.h]; rfl) ?_
              replace hp := ba hp; obtain ⟨y100, hy100, hp⟩ := hp
              have ey100 := u8P_some hy100
              try simp only [ey100]
              replace hp := ba hp; obtain ⟨y101, hy101, hp⟩ := hp
              refine L_bsN ([y100, (112 : UInt8)] : List UInt8) (xs := [(0, .tmp 47), (1, .const (.int .u8 112))]) rfl rfl el22.h rfl rfl rfl rfl rfl rfl rfl hy101 (fun X102 hdX102 => ?_)
              subst hdX102
              refine L_toStr (X := X102) rfl rfl und22.h und5.h und9.h (RdT.tree mm) ?_
              refine s7 ?_
              replace hp := ba hp; obtain ⟨y103, hy103, hp⟩ := hp
              refine L_callR rfl fn20.h rfl (by exact fun w hw => i_SessPut_walk w (v7_3, v7_4, v7_5) (IntKind.wrap .i64 (1 + (y9).tmod 8)) (strP (GT.dat X102)) (RdT.now (RdT.pair RdT.int (RdT.pair RdT.int (RdT.tree mm))) hw) _ hy103) ?_
              rintro _ _ ⟨⟨y103x0_1, y103x0_2, y103x0_3⟩, y103x1, rfl, rfl, rfl⟩
              refine sc ?_
              replace hp := dd hp
              refine xL ((y103x0_1, y103x0_2, y103x0_3) : T_Desks) ?_
              refine s3 ?_
              refine al fun bk19 => ?_
              refine s8 ?_
              refine kp [0, 3, 4, 5, 6, 7, 18, 19, 20, 57] ?_
              refine W_cond rfl (fun hc104 => ?_) (fun hc104 => ?_)
              · replace hp := cond_t hc104 hp
                refine s5 ?_
                replace hp := idx_bind hp; obtain ⟨u105, hy105, hp⟩ := hp
                refine L_idxA (X := v7_0) rfl rfl rfl el25.h (RdT.tree mm) hy105 ?_
                refine L_load0 rfl rfl (RdT.at (RdT.tree mm) (hy105).2) one9.h rfl ?_
                refine s1 ?_
                replace hp := ba hp; obtain ⟨y106, hy106, hp⟩ := hp
                refine L_binV rfl rfl rfl (bv_saddP hy106) ?_
                replace hp := idx_bind hp; obtain ⟨u107, hy107, hp⟩ := hp
                obtain rfl : u105 = u107 := Option.some.inj (hy105.2.symm.trans hy107.2)
                refine L_idxA (X := v7_0) rfl rfl rfl el25.h (RdT.tree mm) hy105 ?_
                refine L_conv (M' := treeH u105 :: holeH v7_0 ((IntKind.wrap .i64 (1 + (y9).tmod 8)).toNat) (GT.cells u105) :: _) (fun w h => hole_open hy105.2 pk h) ?_
                refine L_stH (X := v7_0) (i := (IntKind.wrap .i64 (1 + (y9).tmod 8)).toNat) (sz := 1) (fo := 0) (n := 1) rfl rfl pk rfl (.inr ⟨one9.h, rfl⟩) rfl (allOne rfl) (Nat.le_of_ble_eq_true rfl) ?_
                refine L_conv (M' := treeH (y106 : ByteArray) :: _) (fun w h => addF (y106 : ByteArray) h) ?_
                replace hp := ba hp; obtain ⟨y108, hy108, hp⟩ := hp
                refine L_close (X := v7_0) (y106 : ByteArray) rfl pk pk hy108 (fun X109 hdX109 hhX109 => ?_)
                subst hdX109
                try rw [← hhX109]
                refine s3 ?_
                replace hp := idx_gb hp; obtain ⟨u110, hy110, hp⟩ := hp
                refine W_D0 [74] mix (by kernel_rfl) rfl ?_
                refine s4 ?_
                refine D_idxA (X := v7_1) (GC.some rfl rfl) (OpV.s rfl) (OpV.s rfl) el34.h (RdT.tree mm) (fun hg => hy110 hg.2) ?_
                refine D_load0 (GC.some rfl rfl) (OpV.s rfl) (fun hg => RdT.at (RdT.tree mm) (hy110 hg.2).2) one3.h rfl ?_
                refine s12 ?_
                refine kp [0, 3, 4, 5, 6, 19, 74] ?_
                refine W_cond rfl (fun hc111 => ?_) (fun hc111 => ?_)
                · replace hp := cond_t hc111 hp
                  refine s4 ?_
                  replace hp := map_any hp; obtain ⟨a112, hp, hx_a112⟩ := hp
                  obtain rfl := hx7 _ hx_a112
                  obtain rfl := Option.some.inj hp
                  refine s1 ?_
                  refine res1 rfl (ResOK.tmp rfl) ⟨rfl, rfl⟩ ms
                · replace hp := cond_f hc111 hp
                  refine s9 ?_
                  replace hp := ba hp; obtain ⟨y113, hy113, hp⟩ := hp
                  refine L_callX rfl fn21.h rfl (by exact fun w hw => s_DesksOk_walk w (y103x0_1, y103x0_2, y103x0_3) (RdT.now (RdT.pair RdT.int (RdT.pair RdT.int (RdT.tree mm))) hw) _ hy113) ?_
                  refine s2 ?_
                  refine kp [0, 3, 4, 5, 6, 195] ?_
                  refine W_cond rfl (fun hc114 => ?_) (fun hc114 => ?_)
                  · replace hp := cond_t hc114 hp
                    refine s4 ?_
                    replace hp := map_any hp; obtain ⟨a115, hp, hx_a115⟩ := hp
                    obtain rfl := hx7 _ hx_a115
                    obtain rfl := Option.some.inj hp
                    refine s1 ?_
                    refine res1 rfl (ResOK.tmp rfl) ⟨rfl, rfl⟩ ms
                  · replace hp := cond_f hc114 hp
                    refine s6 ?_
                    refine W_while (σ := Int) GT.dat (fun (v116_0 : Int) => [(21, .int .i64 v116_0)]) (fun (v116_0 : Int) => []) [(0, _), (3, _), (4, _), (5, _), (6, _)] [blk bk3 _ _, treeH X109, treeH v7_1, treeH y103x0_3] 1 hp sb ms ?_
                    clear hp
                    rintro v116_0 x116 hp hx116
                    replace hp := dd hp
                    refine kq [0, 3, 4, 5, 6, 21] ?_
                    refine s6 ?_
                    refine kp [0, 3, 4, 5, 6, 21, 197] ?_
                    refine W_cond rfl (fun hc117 => ?_) (fun hc117 => ?_)
                    · replace hp := cond_t hc117 hp
                      refine s4 ?_
                      replace hp := idx_bind hp; obtain ⟨u118, hy118, hp⟩ := hp
                      replace hp := idx_gb hp; obtain ⟨u119, hy119, hp⟩ := hp
                      refine W_D0 [213] mix (by kernel_rfl) rfl ?_
                      refine s2 ?_
                      refine D_idxA (X := v7_1) GC.none (OpV.t rfl) (OpV.t rfl) el34.h (RdT.tree mm) (fun _ => hy118) ?_
                      refine D_load0 GC.none (OpV.t rfl) (fun hg => RdT.at (RdT.tree mm) (hy118).2) one3.h rfl ?_
                      refine s4 ?_
                      refine D_idxA (X := v7_1) (GC.some rfl rfl) (OpV.s rfl) (OpV.s rfl) el34.h (RdT.tree mm) (fun hg => hy119 hg.2) ?_
                      refine D_load0 (GC.some rfl rfl) (OpV.s rfl) (fun hg => RdT.at (RdT.tree mm) (hy119 hg.2).2) one3.h rfl ?_
                      refine s20 ?_
                      refine kp [0, 3, 4, 5, 6, 21, 213] ?_
                      refine W_cond rfl (fun hc120 => ?_) (fun hc120 => ?_)
                      · replace hp := cond_t hc120 hp
                        refine s4 ?_
                        replace hp := map_any hp; obtain ⟨a121, hp, hx_a121⟩ := hp
                        obtain rfl := hx116 _ hx_a121
                        replace hp := map_any hp; obtain ⟨a122, hp, hx_a122⟩ := hp
                        obtain rfl := hx7 _ hx_a122
                        obtain rfl := Option.some.inj hp
                        refine s1 ?_
                        refine res1 rfl (ResOK.tmp rfl) ⟨rfl, rfl⟩ ms
                      · replace hp := cond_f hc120 hp
                        refine s6 ?_
                        exact ⟨IntKind.wrap .i64 (v116_0 + 1), sb, (.sub ms), some_eq hp⟩
                    · replace hp := cond_f hc117 hp
                      refine W_exit ?_
                      replace hp := map_any hp; obtain ⟨a123, hp, hx_a123⟩ := hp
                      obtain rfl := hx116 _ hx_a123
                      refine s5 ?_
                      exact ⟨(X109, v7_1, IntKind.wrap .i64 (v7_2 + 1), y103x0_1, y103x0_2, y103x0_3), sb, (.sub ms), some_eq hp⟩
              · replace hp := cond_f hc104 hp
                refine s3 ?_
                replace hp := idx_gb hp; obtain ⟨u124, hy124, hp⟩ := hp
                refine W_D0 [74] mix (by kernel_rfl) rfl ?_
                refine s4 ?_
                refine D_idxA (X := v7_1) (GC.some rfl rfl) (OpV.s rfl) (OpV.s rfl) el34.h (RdT.tree mm) (fun hg => hy124 hg.2) ?_
                refine D_load0 (GC.some rfl rfl) (OpV.s rfl) (fun hg => RdT.at (RdT.tree mm) (hy124 hg.2).2) one3.h rfl ?_
                refine s12 ?_
                refine kp [0, 3, 4, 5, 6, 19, 74] ?_
                refine W_cond rfl (fun hc125 => ?_) (fun hc125 => ?_)
                · replace hp := cond_t hc125 hp
                  refine s4 ?_
                  replace hp := map_any hp; obtain ⟨a126, hp, hx_a126⟩ := hp
                  obtain rfl := hx7 _ hx_a126
                  obtain rfl := Option.some.inj hp
                  refine s1 ?_
                  refine res1 rfl (ResOK.tmp rfl) ⟨rfl, rfl⟩ ms
                · replace hp := cond_f hc125 hp
                  refine s9 ?_
                  replace hp := ba hp; obtain ⟨y127, hy127, hp⟩ := hp
                  refine L_callX rfl fn21.h rfl (by exact fun w hw => s_DesksOk_walk w (y103x0_1, y103x0_2, y103x0_3) (RdT.now (RdT.pair RdT.int (RdT.pair RdT.int (RdT.tree mm))) hw) _ hy127) ?_
                  refine s2 ?_
                  refine kp [0, 3, 4, 5, 6, 195] ?_
                  refine W_cond rfl (fun hc128 => ?_) (fun hc128 => ?_)
                  · replace hp := cond_t hc128 hp
                    refine s4 ?_
                    replace hp := map_any hp; obtain ⟨a129, hp, hx_a129⟩ := hp
                    obtain rfl := hx7 _ hx_a129
                    obtain rfl := Option.some.inj hp
                    refine s1 ?_
                    refine res1 rfl (ResOK.tmp rfl) ⟨rfl, rfl⟩ ms
                  · replace hp := cond_f hc128 hp
                    refine s6 ?_
                    refine W_while (σ := Int) GT.dat (fun (v130_0 : Int) => [(21, .int .i64 v130_0)]) (fun (v130_0 : Int) => []) [(0, _), (3, _), (4, _), (5, _), (6, _)] [blk bk3 _ _, treeH v7_0, treeH v7_1, treeH y103x0_3] 1 hp sb ms ?_
                    clear hp
                    rintro v130_0 x130 hp hx130
                    replace hp := dd hp
                    refine kq [0, 3, 4, 5, 6, 21] ?_
                    refine s6 ?_
                    refine kp [0, 3, 4, 5, 6, 21, 197] ?_
                    refine W_cond rfl (fun hc131 => ?_) (fun hc131 => ?_)
                    · replace hp := cond_t hc131 hp
                      refine s4 ?_
                      replace hp := idx_bind hp; obtain ⟨u132, hy132, hp⟩ := hp
                      replace hp := idx_gb hp; obtain ⟨u133, hy133, hp⟩ := hp
                      refine W_D0 [213] mix (by kernel_rfl) rfl ?_
                      refine s2 ?_
                      refine D_idxA (X := v7_1) GC.none (OpV.t rfl) (OpV.t rfl) el34.h (RdT.tree mm) (fun _ => hy132) ?_
                      refine D_load0 GC.none (OpV.t rfl) (fun hg => RdT.at (RdT.tree mm) (hy132).2) one3.h rfl ?_
                      refine s4 ?_
                      refine D_idxA (X := v7_1) (GC.some rfl rfl) (OpV.s rfl) (OpV.s rfl) el34.h (RdT.tree mm) (fun hg => hy133 hg.2) ?_
                      refine D_load0 (GC.some rfl rfl) (OpV.s rfl) (fun hg => RdT.at (RdT.tree mm) (hy133 hg.2).2) one3.h rfl ?_
                      refine s20 ?_
                      refine kp [0, 3, 4, 5, 6, 21, 213] ?_
                      refine W_cond rfl (fun hc134 => ?_) (fun hc134 => ?_)
                      · replace hp := cond_t hc134 hp
                        refine s4 ?_
                        replace hp := map_any hp; obtain ⟨a135, hp, hx_a135⟩ := hp
                        obtain rfl := hx130 _ hx_a135
                        replace hp := map_any hp; obtain ⟨a136, hp, hx_a136⟩ := hp
                        obtain rfl := hx7 _ hx_a136
                        obtain rfl := Option.some.inj hp
                        refine s1 ?_
                        refine res1 rfl (ResOK.tmp rfl) ⟨rfl, rfl⟩ ms
                      · replace hp := cond_f hc134 hp
                        refine s6 ?_
                        exact ⟨IntKind.wrap .i64 (v130_0 + 1), sb, (.sub ms), some_eq hp⟩
                    · replace hp := cond_f hc131 hp
                      refine W_exit ?_
                      replace hp := map_any hp; obtain ⟨a137, hp, hx_a137⟩ := hp
                      obtain rfl := hx130 _ hx_a137
                      refine s5 ?_
                      exact ⟨(v7_0, v7_1, IntKind.wrap .i64 (v7_2 + 1), y103x0_1, y103x0_2, y103x0_3), sb, (.sub ms), some_eq hp⟩
    · replace hp := cond_f hc8 hp
      refine W_exit ?_
      replace hp := map_any hp; obtain ⟨a138, hp, hx_a138⟩ := hp
      obtain rfl := hx7 _ hx_a138
      refine s3 ?_
      replace hp := ba hp; obtain ⟨y139, hy139, hp⟩ := hp
      refine L_callR rfl fn22.h rfl (by exact fun w hw => s_DrawSessOf_walk w a0 (RdT.now (RdT.old h0) hw) _ hy139) ?_
      rintro _ _ ⟨⟨y139x0_1, y139x0_2, y139x0_3⟩, y139x1, rfl, rfl, rfl⟩
      refine sc ?_
      replace hp := dd hp
      refine xL ((y139x0_1, y139x0_2, y139x0_3) : T_Desks) ?_
      refine s3 ?_
      refine al fun bk22 => ?_
      refine s4 ?_
      replace hp := ba hp; obtain ⟨y140, hy140, hp⟩ := hp
      refine W_DS (pre := [_, _, _, _, _]) (suf := [_, _, _]) [221, 222, 223] [] _ pc mix (by kernel_rfl) (by kernel_rfl) rfl ?_
      refine s2 ?_
      refine D_call1R (fun v M => ∃ (x0 : TL Int), v = (TL.hdr x0) ∧ GT.dat x0 = y140 ∧ M = [treeH x0]) fn24.h (OpVs.cons (OpV.t rfl) (OpVs.cons (OpV.t rfl) (OpVs.nil))) (by exact fun w F hF hM => i_SessOf_walk w (y139x0_1, y139x0_2, y139x0_3) y139x1 (RdT.nowS (RdT.pair RdT.int (RdT.pair RdT.int (RdT.tree mm))) hF hM) _ hy140) ?_
      refine s5 ?_
      refine Give_R rfl rfl ?_
      rintro _ _ ⟨y140x0, rfl, rfl, rfl⟩
      refine s3 ?_
      refine sc ?_
      replace hp := dd hp
      replace hp := ba hp; obtain ⟨y141, hy141, hp⟩ := hp
      refine L_callR rfl fn25.h rfl (by exact fun w hw => s_SessOf_walk w (y139x0_1, y139x0_2, y139x0_3) y139x1 (RdT.now (RdT.pair RdT.int (RdT.pair RdT.int (RdT.tree mm))) hw) _ hy141) ?_
      rintro _ _ ⟨y141x0, rfl, rfl, rfl⟩
      refine sc ?_
      replace hp := dd hp
      replace hp := ba hp; obtain ⟨y142, hy142, hp⟩ := hp
      refine L_callX rfl fn23.h rfl (by exact fun w hw => w_sameInts_walk w y140x0 y141x0 (RdT.now (RdT.tree mm) hw) (RdT.now (RdT.tree mm) hw) _ hy142) ?_
      refine s2 ?_
      obtain rfl := Option.some.inj hp
      refine s1 ?_
      refine res1 rfl (ResOK.tmp rfl) ⟨rfl, rfl⟩ ms
end Go.Proofs.SL
namespace Go.Proofs.SL
open Go
/-- What a draw may hand out. -/
def SFit (d : D_Desks) : Prop := Ok.ok d ∧ d.2.2.length ≤ 1000
theorem sfit_si {d : D_Desks} (h : SI d) : SFit d := ⟨okd_of h, by have := h.2.2.1; omega⟩
theorem si_nil : SI (0, 1, []) := ⟨by simp, by simp, by simp, fun s hs => (by cases hs), List.Pairwise.nil⟩
theorem ok_mk {d : D_Desks} (h : SI d) {a b : Int} (ha : inR a) (hb : inR b) : SFit (a, b, d.2.2) :=
  ⟨⟨ha, hb, (okd_of h).2.2⟩, (sfit_si h).2⟩
theorem ok_app {d : D_Desks} (h : SI d) {s : D_Sess} (hs : Ok.ok s) : SFit (d.1, d.2.1, d.2.2 ++ [s]) := by
  have ho := okd_of h
  have hl := h.2.2.1
  refine ⟨⟨ho.1, ho.2.1, by dsimp only; simp; omega, fun x hx => ?_⟩, by dsimp only; simp; omega⟩
  rcases List.mem_append.1 hx with hx | hx
  · exact ho.2.2.2 x hx
  · obtain rfl := List.mem_singleton.1 hx; exact hs
theorem ok_set {d : D_Desks} (h : SI d) {s : D_Sess} (k : Nat) (hs : Ok.ok s) : SFit (d.1, d.2.1, d.2.2.set k s) := by
  have ho := okd_of h
  have hl := h.2.2.1
  refine ⟨⟨ho.1, ho.2.1, by dsimp only; simp; omega, fun x hx => ?_⟩, by dsimp only; simp; omega⟩
  rcases List.mem_or_eq_of_mem_set hx with hx | rfl
  · exact ho.2.2.2 x hx
  · exact hs
theorem pick_ok {d : D_l1Cur} (h : CurOk d) {l : List ByteArray} (hl : 0 < l.length) : ∃ x d', s_l1Pick d l = some (x, d') ∧ x ∈ l ∧ CurOk d' := by
  unfold s_l1Pick
  simp only [Prod.eta]
  obtain ⟨y, d1, e1, g1, c1⟩ := below_ok h (l.length : Int)
  rw [e1, Option.bind_some]
  dsimp only
  obtain ⟨k, rfl⟩ := Int.eq_ofNat_of_zero_le g1.1
  have hk : k < l.length := by have := g1.2.1 (by omega); omega
  rw [idx_nat, List.getElem?_eq_getElem hk, Option.bind_some]
  exact ⟨_, _, rfl, List.getElem_mem hk, c1⟩
theorem whileP_to {σ α : Type} {f : σ → Option (σ ⊕ α)} {s : σ} (G : Option α → Prop) (I : σ → Prop) (μ : σ → Nat) (Q : α → Prop) (hg : ∀ a, Q a → G (some a)) (hs : I s)
    (h : ∀ s, I s → (∃ s', f s = some (.inl s') ∧ I s' ∧ μ s' < μ s) ∨ ∃ a, f s = some (.inr a) ∧ Q a) : G (whileP f s) := by
  obtain ⟨a, ha, hq⟩ := whileP_rule I μ Q h s hs
  rw [ha]; exact hg a hq
theorem jb3 {σ α : Type} (a b : Bool) (u v t : σ) (k : σ → Option α) : jbind (cond a (some (.inl u)) (cond b (some (.inl v)) (some (.inl t)))) k = k (cond a u (cond b v t)) := by cases a <;> cases b <;> rfl
theorem some_sess_ok {c : D_l1Cur} (hc : CurOk c) : ∃ d c', s_l29Some c = some (d, c') ∧ SFit d ∧ CurOk c' := by
  unfold s_l29Some
  simp only [Prod.eta]
  obtain ⟨n, c1, e1, g1, hc1⟩ := below_ok hc 18
  rw [e1, Option.bind_some]
  dsimp only
  refine whileP_to (fun o => ∃ d c', o = some (d, c') ∧ SFit d ∧ CurOk c') (fun s : Int × Int × Int × Int × Int × (List D_Sess) => CurOk (c1.1, s.2.1, s.2.2.1) ∧ SI (s.2.2.2.1, s.2.2.2.2.1, s.2.2.2.2.2) ∧ s.1 ≤ 18) (fun s => s.1.toNat) (fun r : D_Desks × D_l1Cur => SFit r.1 ∧ CurOk r.2)
    (fun a ha => ⟨a.1, a.2, rfl, ha.1, ha.2⟩) ⟨hc1, si_nil, by have := g1.2.1 (by omega); dsimp only; omega⟩ ?_
  · rintro ⟨n, p, q, now, nxt, l⟩ ⟨hcur, hsi, hn⟩
    dsimp only at hcur hsi hn ⊢
    by_cases h0 : 0 < n
    · left
      simp only [decide_eq_true h0, cond_true]
      have hw : IntKind.wrap .i64 (n - 1) = n - 1 := wrap64_in (by unfold inR; omega)
      have fin : ∀ (c' : D_l1Cur) (d : D_Desks), CurOk c' → c'.1 = c1.1 → SI d → ∃ s' : Int × Int × Int × Int × Int × (List D_Sess), some (Sum.inl (IntKind.wrap .i64 (n - 1), c'.2.1, c'.2.2, d.1, d.2.1, d.2.2) : (Int × Int × Int × Int × Int × (List D_Sess)) ⊕ (D_Desks × D_l1Cur)) = some (.inl s') ∧ (CurOk (c1.1, s'.2.1, s'.2.2.1) ∧ SI (s'.2.2.2.1, s'.2.2.2.2.1, s'.2.2.2.2.2) ∧ s'.1 ≤ 18) ∧ s'.1.toNat < n.toNat := by
        intro c' d h1 h2 h3
        refine ⟨_, rfl, ⟨by rw [← h2]; exact h1, h3, ?_⟩, ?_⟩ <;> dsimp only <;> omega
      obtain ⟨x, c2, e2, g2, hc2, k2⟩ := below_ok' hcur 8
      rw [e2, Option.bind_some]
      dsimp only
      rw [jb3]
      generalize cond (decide (x = 0)) _ _ = b
      have w1 : ∀ {y k : Int}, 0 ≤ y → y < k → k ≤ 100 → IntKind.wrap .i64 (1 + y) = 1 + y := fun h1 h2 h3 => wrap64_in (by unfold inR; omega)
      cases b with
      | true =>
        simp only [cond_true]
        obtain ⟨y, c3, e3, g3, hc3, k3⟩ := below_ok' hc2 3
        rw [e3, Option.bind_some]
        dsimp only
        obtain ⟨z, c4, e4, g4, hc4, k4⟩ := below_ok' hc3 30
        rw [e4, Option.bind_some]
        dsimp only
        rw [s_SessOpen_eq hsi, Option.bind_some]
        exact fin c4 _ hc4 (by rw [k4, k3, k2]) (open_si hsi)
      | false =>
        simp only [cond_false]
        cases decide (x = 3) with
        | true =>
          simp only [cond_true]
          obtain ⟨y, c3, e3, g3, hc3, k3⟩ := below_ok' hc2 9
          rw [e3, Option.bind_some]
          dsimp only
          rw [w1 g3.1 (g3.2.1 (by omega)) (by omega), s_SessTick_eq (okd_of hsi) (by have := g3.2.1 (by omega); unfold inR; omega), Option.bind_some]
          exact fin c3 _ hc3 (by rw [k3, k2]) (tick_si hsi)
        | false =>
          simp only [cond_false]
          cases decide (x = 4) with
          | true =>
            simp only [cond_true]
            obtain ⟨y, c3, e3, g3, hc3, k3⟩ := below_ok' hc2 6
            rw [e3, Option.bind_some]
            dsimp only
            rw [s_SessEnd_eq (okd_of hsi), Option.bind_some]
            exact fin c3 _ hc3 (by rw [k3, k2]) (end_si hsi)
          | false =>
            simp only [cond_false]
            obtain ⟨y, c3, e3, g3, hc3, k3⟩ := below_ok' hc2 6
            rw [e3, Option.bind_some]
            dsimp only
            obtain ⟨t, c4, e4, g4, hc4, k4⟩ := text_ok' hc3 (n := 5) (by omega) (by omega)
            rw [e4, Option.bind_some]
            dsimp only
            rw [catP_ok (by have : (ByteArray.mk #[112]).size = 1 := rfl; omega), Option.bind_some, s_SessPut_eq (okd_of hsi), Option.bind_some]
            exact fin c4 _ hc4 (by rw [k4, k3, k2]) (put_si hsi)
    · right
      simp only [decide_eq_false h0, cond_false]
      obtain ⟨b, c2, e2, hc2⟩ := once_ok hcur 10
      rw [e2, Option.bind_some]
      dsimp only
      cases b with
      | false =>
        simp only [cond_false]
        exact ⟨_, rfl, sfit_si hsi, hc2⟩
      | true =>
        simp only [cond_true]
        obtain ⟨x, c3, e3, g3, hc3⟩ := below_ok hc2 4
        rw [e3, Option.bind_some]
        dsimp only
        cases decide (x = 0) with
        | true =>
          simp only [cond_true, Option.bind_some]
          obtain ⟨y, c4, e4, m4, hc4⟩ := pickint_ok hc3 (l := [(-1), 0, 100000, 100001]) (by simp)
          rw [e4, Option.bind_some]
          refine ⟨_, rfl, ok_mk hsi ?_ (okd_of hsi).2.1, hc4⟩
          simp only [List.mem_cons, List.not_mem_nil, or_false] at m4
          unfold inR; omega
        | false =>
          simp only [cond_false]
          cases decide (x = 1) with
          | true =>
            simp only [cond_true, Option.bind_some]
            obtain ⟨y, c4, e4, m4, hc4⟩ := pickint_ok hc3 (l := [0, 1, 1000, 1001]) (by simp)
            rw [e4, Option.bind_some]
            refine ⟨_, rfl, ok_mk hsi (okd_of hsi).1 ?_, hc4⟩
            simp only [List.mem_cons, List.not_mem_nil, or_false] at m4
            unfold inR; omega
          | false =>
            simp only [cond_false]
            cases decide (x = 2) with
            | true =>
              simp only [cond_true]
              obtain ⟨y, c4, e4, g4, hc4⟩ := below_ok hc3 9
              rw [e4, Option.bind_some]
              dsimp only
              obtain ⟨z, c5, e5, g5, hc5⟩ := below_ok hc4 11
              rw [e5, Option.bind_some]
              dsimp only
              have hb := hsi.1
              dsimp only at hb
              rw [appP_ok (by have := hsi.2.2.1; dsimp only at this; simp; omega), Option.bind_some, wrap64_in (show inR (now + 5) by unfold inR; omega)]
              refine ⟨_, rfl, ok_app hsi ⟨show inR y by have := g4.2.1 (by omega); unfold inR; omega, show inR z by have := g5.2.1 (by omega); unfold inR; omega, show inR (now + 5) by unfold inR; omega, by simp, fun p hp => by cases hp⟩, hc5⟩
            | false =>
              simp only [cond_false]
              cases l with
              | nil => exact ⟨_, rfl, sfit_si hsi, hc3⟩
              | cons s l =>
                have hd : decide (0 < ((s :: l).length : Int)) = true := by simp
                have hx : idx (s :: l) 0 = some s := by rw [show (0 : Int) = ((0 : Nat) : Int) from rfl, idx_nat]; rfl
                rw [hd]
                simp only [cond_true, hx, Option.bind_some]
                obtain ⟨y, c4, e4, m4, hc4⟩ := pick_ok hc3 (l := [ByteArray.empty, (ByteArray.mk #[49, 50, 51, 52, 53, 54, 55, 56, 57, 48, 49]), (ByteArray.mk #[111, 107])]) (by simp)
                rw [e4, Option.bind_some]
                dsimp only
                obtain ⟨a, c, e, f, g⟩ := hsi.2.2.2.1 s (List.mem_cons_self)
                rw [appP_ok (by simp; omega), Option.bind_some]
                have ho := (okd_of hsi).2.2.2 s (List.mem_cons_self)
                refine ⟨_, rfl, ok_set hsi 0 ⟨ho.1, ho.2.1, ho.2.2.1, by dsimp only; simp; omega, fun p hp => ?_⟩, hc4⟩
                rcases List.mem_append.1 hp with hp | hp
                · exact ho.2.2.2.2 p hp
                · obtain rfl := List.mem_singleton.1 hp
                  simp only [List.mem_cons, List.not_mem_nil, or_false] at m4
                  show ByteArray.size _ ≤ _
                  rcases m4 with rfl | rfl | rfl <;> decide
end Go.Proofs.SL
namespace Go.Proofs.SL
open Go
/-- The last look: nothing that is over stands. -/
theorem scan_loop {γ : Type} {U : List Int} {now : Int} {no : Option γ} {r : γ} (hU : U.length = 100) (h : ∀ u, u ∈ U → ¬(0 < u ∧ u ≤ now)) :
    whileP (fun s : Int => cond (decide (s < 100)) (Option.bind (idx U s) (fun y => gb (decide (0 < y)) (idx U s) (fun z => cond ((decide (0 < y)) && (decide (z ≤ now))) (Option.map .inr no) (some (.inl (IntKind.wrap .i64 (s + 1))))))) (Option.map .inr (some r))) 1 = some r := by
  refine whileP_is (fun s => 1 ≤ s ∧ s ≤ 100) (fun s => (100 - s).toNat) (fun s hs => ?_) (by omega)
  by_cases h1 : s < 100
  · left
    obtain ⟨k, rfl⟩ := Int.eq_ofNat_of_zero_le (show 0 ≤ s by omega)
    have hk : U[k]? = some (U[k]'(by omega)) := List.getElem?_eq_getElem _
    have hm := h (U[k]'(by omega)) (List.getElem_mem _)
    generalize U[k]'(by omega) = u at hk hm
    have hc : ((decide (0 < u)) && (decide (u ≤ now))) = false := by simp; omega
    rw [decide_eq_true h1, cond_true, idx_nat, hk, Option.bind_some]
    refine ⟨((k : Int) + 1), ?_, by omega, by omega⟩
    have hw : IntKind.wrap .i64 ((k : Int) + 1) = (k : Int) + 1 := wrap64_in (by unfold inR; omega)
    rw [gbs, hw]
    cases h0 : decide (0 < u) with
    | true => rw [h0] at hc; simp only [Bool.true_and] at hc; simp [hc]
    | false => simp
  · right
    rw [decide_eq_false h1, cond_false]; rfl
/-- What is remembered: until when each session holds, and what stands in it. -/
def TI (want : List ByteArray) (U : List Int) (d : D_Desks) : Prop := want.length = 100 ∧ U.length = 100 ∧ SI d ∧
  ∀ (n : Nat) (u : Int) (v : ByteArray), U[n]? = some u → want[n]? = some v → (∀ s, s ∈ d.2.2 → s.1 = (n : Int) → u = s.2.2.1 ∧ v = joined s.2.2.2) ∧ ((∀ s, s ∈ d.2.2 → s.1 ≠ (n : Int)) → u = 0)
theorem ti_nil : TI (List.replicate 100 ByteArray.empty) (List.replicate 100 0) (0, 1, []) := by
  refine ⟨by simp, by simp, si_nil, fun n u v h1 h2 => ⟨fun s hs => (by cases hs), fun _ => ?_⟩⟩
  rw [List.getElem?_replicate] at h1
  split at h1
  · exact (Option.some.inj h1).symm
  · cases h1
theorem ti_scan {want : List ByteArray} {U : List Int} {d : D_Desks} (h : TI want U d) (u : Int) (hu : u ∈ U) : ¬(0 < u ∧ u ≤ d.1) := by
  obtain ⟨n, hn⟩ := List.getElem?_of_mem hu
  have hlt := (List.getElem?_eq_some_iff.1 hn).1
  have hw : want[n]? = some (want[n]'(by rw [h.1, ← h.2.1]; exact hlt)) := List.getElem?_eq_getElem _
  obtain ⟨h1, h2⟩ := h.2.2.2 n u _ hn hw
  by_cases he : ∃ s, s ∈ d.2.2 ∧ s.1 = (n : Int)
  · obtain ⟨s, hs, e⟩ := he
    have := (h1 s hs e).1
    have := (h.2.2.1.2.2.2.1 s hs).2.2.1
    omega
  · have := h2 fun s hs e => he ⟨s, hs, e⟩
    omega
theorem ti_get {want : List ByteArray} {U : List Int} {d : D_Desks} (h : TI want U d) {n : Int} (h0 : 0 ≤ n) (h1 : n < 100) : ∃ u v, idx U n = some u ∧ idx want n = some v ∧ U[n.toNat]? = some u ∧ want[n.toNat]? = some v := by
  obtain ⟨k, rfl⟩ := Int.eq_ofNat_of_zero_le h0
  have e1 : U[k]? = some (U[k]'(by have := h.2.1; omega)) := List.getElem?_eq_getElem _
  have e2 : want[k]? = some (want[k]'(by have := h.1; omega)) := List.getElem?_eq_getElem _
  exact ⟨_, _, by rw [idx_nat]; exact e1, by rw [idx_nat]; exact e2, e1, e2⟩
theorem get_set {α : Type} {l : List α} {k n : Nat} {x u : α} (h : (l.set k x)[n]? = some u) : (n = k ∧ u = x) ∨ (n ≠ k ∧ l[n]? = some u) := by
  rw [List.getElem?_set] at h
  split at h
  · rename_i e
    split at h
    · exact .inl ⟨e.symm, (Option.some.inj h).symm⟩
    · cases h
  · rename_i e
    exact .inr ⟨fun h => e h.symm, h⟩
theorem ti_open {want : List ByteArray} {U : List Int} {d : D_Desks} {c w : Int} (h : TI want U d) (hy : (sessOpenD d c w).2.2 = true) : (sessOpenD d c w).2.1 = d.2.1 ∧ TI (want.set d.2.1.toNat ByteArray.empty) (U.set d.2.1.toNat (d.1 + w)) (sessOpenD d c w).1 ∧ (sessOpenD d c w).1.1 = d.1 ∧ (sessOpenD d c w).1.2.1 ≤ d.2.1 + 1 ∧ (1 ≤ w ∧ w ≤ 100) := by
  have hsi := open_si (c := c) (w := w) h.2.2.1
  unfold sessOpenD at hy hsi ⊢
  split at hy
  · rename_i a
    rw [if_pos a] at hsi ⊢
    refine ⟨rfl, ⟨by rw [List.length_set]; exact h.1, by rw [List.length_set]; exact h.2.1, hsi, fun n u v hu hv => ?_⟩, rfl, by dsimp only; omega, a.2.1⟩
    have hb := h.2.2.1.2.1
    rcases get_set hu with ⟨e1, e2⟩ | ⟨e1, e2⟩ <;> rcases get_set hv with ⟨e3, e4⟩ | ⟨e3, e4⟩
    · refine ⟨fun s hs e => ?_, fun h0 => ?_⟩
      · rcases List.mem_append.1 hs with hs | hs
        · have := (h.2.2.1.2.2.2.1 s hs).1; omega
        · obtain rfl := List.mem_singleton.1 hs
          exact ⟨e2, e4⟩
      · exact (h0 _ (List.mem_append_right _ (List.mem_singleton.2 rfl)) (by dsimp only; omega)).elim
    · exact (e3 e1).elim
    · exact (e1 e3).elim
    · obtain ⟨f1, f2⟩ := h.2.2.2 n u v e2 e4
      refine ⟨fun s hs e => ?_, fun h0 => f2 fun s hs => h0 s (List.mem_append_left _ hs)⟩
      rcases List.mem_append.1 hs with hs | hs
      · exact f1 s hs e
      · obtain rfl := List.mem_singleton.1 hs
        exact (e1 (by dsimp only at e; omega)).elim
  · cases hy
theorem open_no {d : D_Desks} {c w : Int} (hy : (sessOpenD d c w).2.2 = false) : (sessOpenD d c w).1 = d := by
  unfold sessOpenD at hy ⊢
  split
  · rename_i a; rw [if_pos a] at hy; cases hy
  · rfl
/-- Zeros at some places. -/
def zeroed (U : List Int) (g : List Int) : List Int := g.foldl (fun U x => U.set x.toNat 0) U
theorem zeroed_len (U g : List Int) : (zeroed U g).length = U.length := by
  unfold zeroed
  induction g generalizing U with
  | nil => rfl
  | cons x g ih => rw [List.foldl_cons, ih, List.length_set]
theorem zeroed_snoc (U g : List Int) (x : Int) : zeroed U (g ++ [x]) = (zeroed U g).set x.toNat 0 := by unfold zeroed; rw [List.foldl_append]; rfl
theorem zeroed_get {U : List Int} : ∀ {g : List Int} {n : Nat} {u : Int}, (∀ x, x ∈ g → 0 ≤ x) → (zeroed U g)[n]? = some u → ((n : Int) ∈ g ∧ u = 0) ∨ ((n : Int) ∉ g ∧ U[n]? = some u) := by
  intro g
  induction g generalizing U with
  | nil => intro n u _ h; exact .inr ⟨by simp, h⟩
  | cons x g ih =>
    intro n u hg h
    have h1 : zeroed U (x :: g) = zeroed (U.set x.toNat 0) g := rfl
    rw [h1] at h
    have hx := hg x (List.mem_cons_self)
    rcases ih (fun y hy => hg y (List.mem_cons_of_mem _ hy)) h with ⟨h2, h3⟩ | ⟨h2, h3⟩
    · exact .inl ⟨List.mem_cons_of_mem _ h2, h3⟩
    · rcases get_set h3 with ⟨e1, e2⟩ | ⟨e1, e2⟩
      · exact .inl ⟨by rw [List.mem_cons]; left; omega, e2⟩
      · refine .inr ⟨fun hm => ?_, e2⟩
        rcases List.mem_cons.1 hm with hm | hm
        · exact e1 (by omega)
        · exact h2 hm
theorem tick_cases {d : D_Desks} {n : Int} (h : SI d) : sessTickD d n = (d, []) ∨ (1 ≤ n ∧ sessTickD d n = ((d.1 + n, d.2.1, d.2.2.filter fun s => decide (d.1 + n < s.2.2.1)), (d.2.2.filter fun s => !decide (d.1 + n < s.2.2.1)).map fun s => s.1)) := by
  unfold sessTickD
  rw [if_pos (ok_of h)]
  split
  · rename_i a; exact .inr ⟨a.1.1, rfl⟩
  · exact .inl rfl
theorem ti_tick {want : List ByteArray} {U : List Int} {d : D_Desks} {n : Int} (h : TI want U d) : TI want (zeroed U (sessTickD d n).2) (sessTickD d n).1 ∧ (sessTickD d n).1.2.1 = d.2.1 ∧ (sessTickD d n).2.length ≤ 4 ∧ (∀ g, g ∈ (sessTickD d n).2 → 1 ≤ g ∧ g < d.2.1 ∧ ∀ u, U[g.toNat]? = some u → 0 < u ∧ u ≤ (sessTickD d n).1.1) ∧ (sessTickD d n).2.Nodup := by
  have hsi := tick_si (n := n) h.2.2.1
  rcases tick_cases (n := n) h.2.2.1 with e | ⟨e0, e⟩
  · rw [e]; exact ⟨h, rfl, by simp, fun g hg => (by cases hg), List.nodup_nil⟩
  · rw [e] at hsi ⊢
    have hp := h.2.2.1.2.2.2.2
    have hm : ∀ g, g ∈ (d.2.2.filter fun s => !decide (d.1 + n < s.2.2.1)).map (fun s => s.1) → ∃ s, s ∈ d.2.2 ∧ s.2.2.1 ≤ d.1 + n ∧ s.1 = g := fun g hg => by
      obtain ⟨s, hs, e⟩ := List.mem_map.1 hg
      obtain ⟨h1, h2⟩ := List.mem_filter.1 hs
      exact ⟨s, h1, by simpa using h2, e⟩
    refine ⟨⟨h.1, by rw [zeroed_len]; exact h.2.1, hsi, fun k u v hu hv => ?_⟩, rfl, ?_, fun g hg => ?_, ?_⟩
    · dsimp only at hu ⊢
      rcases zeroed_get (fun x hx => by obtain ⟨s, hs, _, e⟩ := hm x hx; have := (h.2.2.1.2.2.2.1 s hs).1; omega) hu with ⟨h1, h2⟩ | ⟨h1, h2⟩
      · refine ⟨fun s hs e => ?_, fun _ => h2⟩
        obtain ⟨t, ht, h3, h4⟩ := hm _ h1
        obtain ⟨m1, m2⟩ := List.mem_filter.1 hs
        have := uniq hp m1 ht (by omega)
        subst this
        have := of_decide_eq_true m2
        omega
      · obtain ⟨f1, f2⟩ := h.2.2.2 k u v h2 hv
        refine ⟨fun s hs e => f1 s (List.mem_filter.1 hs).1 e, fun h0 => f2 fun s hs e => ?_⟩
        cases hc : decide (d.1 + n < s.2.2.1) with
        | true => exact h0 s (List.mem_filter.2 ⟨hs, hc⟩) e
        | false => exact h1 (List.mem_map.2 ⟨s, List.mem_filter.2 ⟨hs, by rw [hc]; rfl⟩, e⟩)
    · dsimp only
      rw [List.length_map]
      exact Nat.le_trans (List.length_filter_le _ _) h.2.2.1.2.2.1
    · obtain ⟨s, hs, h3, h4⟩ := hm g hg
      have ha := h.2.2.1.2.2.2.1 s hs
      have hb := h.2.2.1.1
      refine ⟨by have := ha.1; omega, by have := ha.1; omega, fun u hu => ?_⟩
      have hlt := (List.getElem?_eq_some_iff.1 hu).1
      have hw : want[g.toNat]? = some (want[g.toNat]'(by rw [h.1, ← h.2.1]; exact hlt)) := List.getElem?_eq_getElem _
      have := (h.2.2.2 g.toNat u _ hu hw).1 s hs (by have := ha.1; omega)
      have := ha.2.2.1
      dsimp only
      omega
    · dsimp only
      refine List.pairwise_map.2 ((List.Pairwise.filter _ hp).imp fun {a b} hab => ?_)
      omega
theorem ti_end {want : List ByteArray} {U : List Int} {d : D_Desks} {id u : Int} {v : ByteArray} (h : TI want U d) (h0 : 0 ≤ id) (hu : U[id.toNat]? = some u) (hv : want[id.toNat]? = some v) :
    (sessEndD d id).2.2 = decide (0 < u) ∧ ((sessEndD d id).2.2 = true → (sessEndD d id).2.1 = v) ∧ TI want (U.set id.toNat 0) (sessEndD d id).1 ∧ (sessEndD d id).1.2.1 = d.2.1 := by
  have hsi := end_si (id := id) h.2.2.1
  obtain ⟨f1, f2⟩ := h.2.2.2 _ u v hu hv
  rw [show ((id.toNat : Nat) : Int) = id by omega] at f1 f2
  rcases end_cases (id := id) h.2.2.1 with ⟨e, e0⟩ | ⟨s, m, e1, e⟩
  · rw [e] at hsi ⊢
    have hz := f2 e0
    subst hz
    refine ⟨rfl, fun h => (by cases h), ⟨h.1, by rw [List.length_set]; exact h.2.1, hsi, fun n u v hu hv => ?_⟩, rfl⟩
    rcases get_set hu with ⟨e1, e2⟩ | ⟨e1, e2⟩
    · exact ⟨fun s hs e => (e0 s hs (by omega)).elim, fun _ => e2⟩
    · exact h.2.2.2 n u v e2 hv
  · rw [e] at hsi ⊢
    have hb := (h.2.2.1.2.2.2.1 s m).2.2.1
    have hb2 := h.2.2.1.1
    have f3 := f1 s m e1
    refine ⟨(decide_eq_true (by omega)).symm, fun _ => f3.2.symm, ⟨h.1, by rw [List.length_set]; exact h.2.1, hsi, fun n u v hu hv => ?_⟩, rfl⟩
    dsimp only
    rcases get_set hu with ⟨e1, e2⟩ | ⟨e1, e2⟩
    · refine ⟨fun s hs e => ?_, fun _ => e2⟩
      have := of_decide_eq_true (List.mem_filter.1 hs).2
      omega
    · obtain ⟨f1, f2⟩ := h.2.2.2 n u v e2 hv
      refine ⟨fun s hs e => f1 s (List.mem_filter.1 hs).1 e, fun h0 => f2 fun s hs e => ?_⟩
      exact h0 s (List.mem_filter.2 ⟨hs, decide_eq_true (by omega)⟩) e
theorem ti_put {want : List ByteArray} {U : List Int} {d : D_Desks} {id u : Int} {v p : ByteArray} (h : TI want U d) (h0 : 0 ≤ id) (hu : U[id.toNat]? = some u) (hv : want[id.toNat]? = some v) (hy : (sessPutD d id p).2 = true) :
    0 < u ∧ v.size ≤ 60 ∧ TI (want.set id.toNat (v ++ p)) U (sessPutD d id p).1 ∧ (sessPutD d id p).1.2.1 = d.2.1 := by
  have hsi := put_si (id := id) (p := p) h.2.2.1
  obtain ⟨f1, f2⟩ := h.2.2.2 _ u v hu hv
  rw [show ((id.toNat : Nat) : Int) = id by omega] at f1 f2
  rcases put_cases (id := id) (p := p) h.2.2.1 with e | ⟨s, m, e1, e2, e3, e⟩
  · rw [e] at hy; cases hy
  · rw [e] at hsi ⊢
    have ha := h.2.2.1.2.2.2.1 s m
    have hb2 := h.2.2.1.1
    obtain ⟨f3, f4⟩ := f1 s m e1
    refine ⟨by have := ha.2.2.1; omega, ?_, ⟨by rw [List.length_set]; exact h.1, h.2.1, hsi, fun n u v hu hv => ?_⟩, rfl⟩
    · rw [f4]
      have := joined_le fun q hq => (ha.2.2.2.2 q hq).2
      have := ha.2.2.2.1
      omega
    · dsimp only
      rcases get_set hv with ⟨g1, g2⟩ | ⟨g1, g2⟩
      · subst g1
        obtain ⟨k1, k2⟩ := h.2.2.2 id.toNat u _ hu ‹_›
        rw [show ((id.toNat : Nat) : Int) = id by omega] at k1 k2 ⊢
        refine ⟨fun t ht e => ?_, fun h0 => k2 fun t ht e => ?_⟩
        · obtain ⟨y, hy, rfl⟩ := List.mem_map.1 ht
          try dsimp only at e ⊢
          by_cases hc : y.1 = id
          · rw [if_pos hc] at e ⊢
            have := k1 s m e1
            exact ⟨this.1, by rw [g2, joined_snoc, f4]⟩
          · rw [if_neg hc] at e; exact (hc e).elim
        · refine h0 _ (List.mem_map.2 ⟨s, m, rfl⟩) ?_
          rw [if_pos e1]; exact e1
      · obtain ⟨k1, k2⟩ := h.2.2.2 n u v hu g2
        refine ⟨fun t ht e => ?_, fun h0 => k2 fun t ht e => ?_⟩
        · obtain ⟨y, hy, rfl⟩ := List.mem_map.1 ht
          try dsimp only at e ⊢
          by_cases hc : y.1 = id
          · rw [if_pos hc] at e; exact (g1 (by dsimp only at e; omega)).elim
          · rw [if_neg hc] at e ⊢; exact k1 y hy e
        · refine h0 _ (List.mem_map.2 ⟨t, ht, rfl⟩) ?_
          rw [if_neg (by omega)]; exact e
theorem put_no {d : D_Desks} {id : Int} {p : ByteArray} (h : SI d) (hy : (sessPutD d id p).2 = false) : (sessPutD d id p).1 = d := by
  rcases put_cases (id := id) (p := p) h with e | ⟨s, m, e1, e2, e3, e⟩
  · rw [e]
  · rw [e] at hy; cases hy
end Go.Proofs.SL
namespace Go.Proofs.SL
open Go
theorem sameInts_refl {l : List Int} (hl : l.length ≤ 1000000) : w_sameInts l l = some true := by
  unfold w_sameInts
  rw [decide_eq_true rfl]
  simp only [Bool.not_true, cond_false]
  refine whileP_is (fun s => 0 ≤ s ∧ s ≤ l.length) (fun s => (l.length - s).toNat) (fun s hs => ?_) (by omega)
  by_cases h1 : s < (l.length : Int)
  · left
    obtain ⟨k, rfl⟩ := Int.eq_ofNat_of_zero_le hs.1
    have hk : l[k]? = some (l[k]'(by omega)) := List.getElem?_eq_getElem _
    rw [decide_eq_true h1, cond_true, idx_nat, hk]
    simp only [Option.bind_some, decide_true, Bool.not_true, cond_false]
    refine ⟨((k : Int) + 1), ?_, by omega, by omega⟩
    rw [wrap64_in (by unfold inR; omega)]
  · right
    rw [decide_eq_false h1, cond_false]; rfl
theorem jb2 {σ α : Type} (a : Bool) (u v : σ) (k : σ → Option α) : jbind (cond a (some (.inl u)) (some (.inl v))) k = k (cond a u v) := by cases a <;> rfl
/-- The look at the end of each round, and the round's state. -/
theorem round_end {α : Type} {want : List ByteArray} {U : List Int} {d : D_Desks} {no1 : Option (α ⊕ Bool)} {no : Option Bool} {r : α} (h : TI want U d) :
    Option.bind (s_DesksOk d) (fun y => cond (!y) no1 (whileP (fun s : Int => cond (decide (s < 100)) (Option.bind (idx U s) (fun y => gb (decide (0 < y)) (idx U s) (fun z => cond ((decide (0 < y)) && (decide (z ≤ d.1))) (Option.map .inr (Option.map .inr no)) (some (.inl (IntKind.wrap .i64 (s + 1))))))) (Option.map .inr (some (.inl r : α ⊕ Bool)))) 1)) = some (.inl r) := by
  rw [s_DesksOk_eq d (okd_of h.2.2.1), ok_of h.2.2.1, Option.bind_some]
  simp only [Bool.not_true, cond_false]
  exact scan_loop h.2.1 (ti_scan h)
abbrev St : Type := List ByteArray × List Int × Int × Int × Int × List D_Sess
theorem fnSessions_true (l : List UInt8) : w_FnSessions l = some true := by
  unfold w_FnSessions w_big
  rw [Option.bind_some]
  by_cases hl : 1048576 < (l.length : Int)
  · rw [decide_eq_true hl, cond_true]
  rw [decide_eq_false hl, cond_false]
  have hl : l.length ≤ 1048576 := by omega
  have e3 : mkP 16 100 (ByteArray.empty : ByteArray) = some (List.replicate 100 ByteArray.empty) := rfl
  have e5 : mkP 8 100 (0 : Int) = some (List.replicate 100 0) := rfl
  rw [e3, e5, Option.bind_some, Option.bind_some]
  refine whileP_is (fun s : St => TI s.1 s.2.1 (s.2.2.2.1, s.2.2.2.2.1, s.2.2.2.2.2) ∧ (0 ≤ s.2.2.1 ∧ s.2.2.1 ≤ 40) ∧ s.2.2.2.2.1 ≤ s.2.2.1 + 1) (fun s => (40 - s.2.2.1).toNat) (fun s hs => ?_) ⟨ti_nil, by simp, by simp⟩
  obtain ⟨want, U, i, now, nxt, li⟩ := s
  obtain ⟨hT, hi, hn⟩ := hs
  dsimp only at hT hi hn ⊢
  generalize hd : ((now, nxt, li) : D_Desks) = d at hT ⊢
  by_cases h1 : i < 40
  · left
    rw [decide_eq_true h1, cond_true]
    have wi : ∀ k : Int, 0 ≤ k → k ≤ 10 → IntKind.wrap .i64 (i + k) = i + k := fun k _ _ => wrap64_in (by unfold inR; omega)
    have fin : ∀ (want' : List ByteArray) (U' : List Int) (d' : D_Desks), TI want' U' d' → d'.2.1 ≤ i + 2 → ∀ (no1 : Option (St ⊕ Bool)) (no : Option Bool), ∃ s' : St, Option.bind (s_DesksOk d') (fun y => cond (!y) no1 (whileP (fun s : Int => cond (decide (s < 100)) (Option.bind (idx U' s) (fun y => gb (decide (0 < y)) (idx U' s) (fun z => cond ((decide (0 < y)) && (decide (z ≤ d'.1))) (Option.map .inr (Option.map .inr no)) (some (.inl (IntKind.wrap .i64 (s + 1))))))) (Option.map .inr (some (.inl (want', U', i + 1, d'.1, d'.2.1, d'.2.2) : St ⊕ Bool)))) 1)) = some (.inl s')
        ∧ (TI s'.1 s'.2.1 (s'.2.2.2.1, s'.2.2.2.2.1, s'.2.2.2.2.2) ∧ (0 ≤ s'.2.2.1 ∧ s'.2.2.1 ≤ 40) ∧ s'.2.2.2.2.1 ≤ s'.2.2.1 + 1) ∧ (40 - s'.2.2.1).toNat < (40 - i).toNat := by
      intro want' U' d' h2 h3 no1 no
      refine ⟨_, round_end h2, ⟨h2, ?_, ?_⟩, ?_⟩ <;> dsimp only <;> omega
    obtain ⟨y9, e9, g9⟩ := at_ok hl (show (0 : Int) ≤ i + 1 by omega) (by omega)
    obtain ⟨y10, e10, g10⟩ := at_ok hl (show (0 : Int) ≤ i by omega) (by omega)
    rw [wi 1 (by omega) (by omega), e9, Option.bind_some, e10, Option.bind_some, jb2]
    generalize cond (decide (y10.tmod 6 = 0)) _ _ = b
    have hn' : d.2.1 ≤ i + 1 := by rw [← hd]; exact hn
    have hb := hT.2.2.1.2.1
    have hb1 := hT.2.2.1.1
    have hid := tmod_lt g9 (show (0 : Int) < 8 by omega)
    have wid : IntKind.wrap .i64 (1 + y9.tmod 8) = 1 + y9.tmod 8 := wrap64_in (by unfold inR; omega)
    obtain ⟨u, v, i1, i2, i3, i4⟩ := ti_get hT (n := 1 + y9.tmod 8) (by omega) (by omega)
    cases b with
    | true =>
      rw [cond_true]
      obtain ⟨y14, e14, g14⟩ := at_ok hl (show (0 : Int) ≤ i + 2 by omega) (by omega)
      obtain ⟨y15, e15, g15⟩ := at_ok hl (show (0 : Int) ≤ i + 3 by omega) (by omega)
      rw [wi 2 (by omega) (by omega), e14, Option.bind_some, wi 3 (by omega) (by omega), e15, Option.bind_some]
      have h14 := tmod_lt g14 (show (0 : Int) < 20 by omega)
      have h15 := tmod_lt g15 (show (0 : Int) < 3 by omega)
      rw [wrap64_in (n := 1 + y15.tmod 3) (by unfold inR; omega), wrap64_in (n := 1 + y14.tmod 20) (by unfold inR; omega), i_SessOpen_eq hT.2.2.1, Option.bind_some]
      generalize hx : sessOpenD d (1 + y15.tmod 3) (1 + y14.tmod 20) = X
      cases hy : X.2.2 with
      | true =>
        obtain ⟨o1, o2, o3, o4, o5⟩ := ti_open (c := 1 + y15.tmod 3) (w := 1 + y14.tmod 20) hT (by rw [hx]; exact hy)
        rw [hx] at o1 o2 o3 o4
        obtain ⟨u', v', j1, j2, j3, j4⟩ := ti_get hT (n := d.2.1) (by omega) (by omega)
        rw [cond_true, o1, decide_eq_false (show ¬ d.2.1 < 1 by omega), decide_eq_false (show ¬ 99 < d.2.1 by omega), j1, j2, o3, wrap64_in (n := d.1 + (1 + y14.tmod 20)) (by unfold inR; omega)]
        simp only [Bool.or_self, cond_false, Option.bind_some]
        rw [← o3] at o2 ⊢
        exact fin _ _ _ o2 (by omega) _ _
      | false =>
        have o1 := open_no (d := d) (c := 1 + y15.tmod 3) (w := 1 + y14.tmod 20) (by rw [hx]; exact hy)
        rw [hx] at o1
        rw [cond_false]
        exact fin want U X.1 (by rw [o1]; exact hT) (by rw [o1]; omega) _ _
    | false =>
      rw [cond_false]
      cases decide (y10.tmod 6 = 2) with
      | true =>
        rw [cond_true]
        obtain ⟨y51, e51, g51⟩ := at_ok hl (show (0 : Int) ≤ i + 2 by omega) (by omega)
        have h51 := tmod_lt g51 (show (0 : Int) < 6 by omega)
        rw [wi 2 (by omega) (by omega), e51, Option.bind_some, wrap64_in (n := 1 + y51.tmod 6) (by unfold inR; omega), i_SessTick_eq (okd_of hT.2.2.1) (by unfold inR; omega), Option.bind_some]
        obtain ⟨o1, o2, o3, o4, o5⟩ := ti_tick (n := 1 + y51.tmod 6) hT
        generalize sessTickD d (1 + y51.tmod 6) = X at o1 o2 o3 o4 o5 ⊢
        refine whileP_to (fun o => ∃ s' : St, o = some (.inl s') ∧ (TI s'.1 s'.2.1 (s'.2.2.2.1, s'.2.2.2.2.1, s'.2.2.2.2.2) ∧ (0 ≤ s'.2.2.1 ∧ s'.2.2.1 ≤ 40) ∧ s'.2.2.2.2.1 ≤ s'.2.2.1 + 1) ∧ (40 - s'.2.2.1).toNat < (40 - i).toNat)
          (fun s : List Int × Int => ∃ k : Nat, s = (zeroed U (X.2.take k), (k : Int)) ∧ k ≤ X.2.length) (fun s => X.2.length - s.2.toNat) (fun a : St ⊕ Bool => ∃ s' : St, a = .inl s' ∧ (TI s'.1 s'.2.1 (s'.2.2.2.1, s'.2.2.2.2.1, s'.2.2.2.2.2) ∧ (0 ≤ s'.2.2.1 ∧ s'.2.2.1 ≤ 40) ∧ s'.2.2.2.2.1 ≤ s'.2.2.1 + 1) ∧ (40 - s'.2.2.1).toNat < (40 - i).toNat)
          (fun a ha => by obtain ⟨s', h1, h2⟩ := ha; exact ⟨s', by rw [h1], h2⟩) ⟨0, rfl, Nat.zero_le _⟩ ?_
        rintro _ ⟨k, rfl, hk⟩
        dsimp only
        by_cases hk2 : k < X.2.length
        · left
          have hg : X.2[k]? = some X.2[k] := List.getElem?_eq_getElem hk2
          have hmem : X.2[k] ∈ X.2 := List.getElem_mem hk2
          obtain ⟨q1, q2, q3⟩ := o4 _ hmem
          have hnot : X.2[k] ∉ X.2.take k := fun hm => by
            obtain ⟨j, hj, e⟩ := List.getElem_of_mem hm
            rw [List.length_take] at hj
            rw [List.getElem_take] at e
            exact List.pairwise_iff_getElem.1 o5 j k (by omega) hk2 (by omega) e
          have htk : X.2.take (k + 1) = X.2.take k ++ [X.2[k]] := by rw [List.take_append_getElem]
          generalize X.2[k] = g at hg hmem q1 q2 q3 hnot htk
          have hl2 : (zeroed U (X.2.take k)).length = 100 := by rw [zeroed_len]; exact hT.2.1
          obtain ⟨u', hu'⟩ : ∃ u', (zeroed U (X.2.take k))[g.toNat]? = some u' := ⟨_, List.getElem?_eq_getElem (by omega)⟩
          have hu2 : U[g.toNat]? = some u' := by
            rcases zeroed_get (fun x hx => by have := (o4 x (List.mem_of_mem_take hx)).1; omega) hu' with ⟨h1, h2⟩ | ⟨h1, h2⟩
            · rw [show ((g.toNat : Nat) : Int) = g by omega] at h1; exact (hnot h1).elim
            · exact h2
          have hid2 : idx (zeroed U (X.2.take k)) g = some u' := by
            obtain ⟨m, rfl⟩ := Int.eq_ofNat_of_zero_le (show 0 ≤ g by omega)
            rw [idx_nat]; simpa using hu'
          have q4 := q3 u' hu2
          have hc : ((decide (u' = 0)) || (decide (X.1.1 < u'))) = false := by simp; omega
          rw [decide_eq_true (show (k : Int) < (X.2.length : Int) by omega), cond_true, idx_nat, hg]
          simp only [Option.bind_some, hid2, gbs]
          have hne : (!(decide (u' = 0))) = true := by simp; omega
          rw [hne, if_pos rfl, if_pos rfl, hc, cond_false]
          refine ⟨_, rfl, ⟨k + 1, ?_, hk2⟩, ?_⟩
          · rw [htk, zeroed_snoc, wrap64_in (by unfold inR; omega)]; rfl
          · dsimp only; rw [wrap64_in (by unfold inR; omega)]; omega
        · right
          have hkk : k = X.2.length := by omega
          rw [decide_eq_false (show ¬ (k : Int) < (X.2.length : Int) by omega), cond_false, hkk, List.take_length]
          obtain ⟨s', hs1, hs2⟩ := fin want (zeroed U X.2) X.1 o1 (by omega) (Option.map .inr (some false)) (some false)
          refine ⟨.inl s', ?_, s', rfl, hs2⟩
          exact (congrArg (Option.map Sum.inr) hs1)
      | false =>
        rw [cond_false]
        cases decide (y10.tmod 6 = 3) with
        | true =>
          rw [cond_true, wid, i_SessEnd_eq (okd_of hT.2.2.1), Option.bind_some]
          obtain ⟨o1, o2, o3, o4⟩ := ti_end (id := 1 + y9.tmod 8) hT (by omega) i3 i4
          generalize sessEndD d (1 + y9.tmod 8) = X at o1 o2 o3 o4 ⊢
          rw [i1, Option.bind_some, i2, gbs, o1]
          have hc : ((!decide (X.2.1 = v)) && decide (0 < u)) = false := by
            cases hz : decide (0 < u) with
            | false => simp
            | true => rw [o1, hz] at o2; simp [o2 rfl]
          simp only [beq_self_eq_true, Bool.not_true, Bool.not_false, if_true, Bool.false_or, hc, cond_false, Option.bind_some]
          exact fin _ _ _ o3 (by omega) _ _
        | false =>
          rw [cond_false]
          obtain ⟨y99, e99, g99⟩ := at_ok hl (show (0 : Int) ≤ i + 4 by omega) (by omega)
          obtain ⟨b, e100⟩ := u8P_wrap y99
          rw [wi 4 (by omega) (by omega), e99, Option.bind_some, e100, Option.bind_some, Option.bind_some, wid, i_SessPut_eq (okd_of hT.2.2.1), Option.bind_some]
          have hsz : (strP [b, (112 : UInt8)]).size = 2 := rfl
          generalize strP [b, (112 : UInt8)] = p at hsz ⊢
          generalize hx : sessPutD d (1 + y9.tmod 8) p = X
          cases hy : X.2 with
          | true =>
            obtain ⟨o1, o2, o3, o4⟩ := ti_put (id := 1 + y9.tmod 8) (p := p) hT (by omega) i3 i4 (by rw [hx]; exact hy)
            rw [hx] at o3 o4
            rw [cond_true, i2, Option.bind_some, catP_ok (by omega), Option.bind_some, Option.bind_some, Option.bind_some, i1, gbs, if_pos rfl]
            have hc : (true && decide (u = 0)) = false := by simp; omega
            rw [hc, cond_false]
            exact fin _ _ _ o3 (by omega) _ _
          | false =>
            have o1 := put_no (id := 1 + y9.tmod 8) (p := p) hT.2.2.1 (by rw [hx]; exact hy)
            rw [hx] at o1
            rw [cond_false, i1, gbs, if_neg (by simp)]
            simp only [Bool.false_and, cond_false]
            exact fin want U X.1 (by rw [o1]; exact hT) (by rw [o1]; omega) _ _
  · right
    rw [decide_eq_false h1, cond_false]
    unfold s_DrawSessOf
    obtain ⟨c0, en, hc0⟩ := new_ok hl
    rw [en, Option.bind_some]
    obtain ⟨dd, c1, e1, hf, hc1⟩ := some_sess_ok (c := (c0.1, c0.2.1, c0.2.2)) hc0
    rw [e1, Option.bind_some]
    obtain ⟨x, c2, e2, g2, hc2⟩ := below_ok (d := (c1.1, c1.2.1, c1.2.2)) hc1 3
    dsimp only
    rw [e2]
    dsimp only [Option.bind_some]
    rw [i_SessOf_eq (d := (dd.1, dd.2.1, dd.2.2)) hf.1 hf.2, s_SessOf_eq (d := (dd.1, dd.2.1, dd.2.2)) hf.1 hf.2]
    dsimp only [Option.bind_some]
    rw [sameInts_refl]
    · rfl
    · have := hf.2
      unfold sessOfD
      split
      · rw [List.length_map]
        exact Nat.le_trans (List.length_filter_le _ _) (by dsimp only; omega)
      · simp
end Go.Proofs.SL
namespace Go.Proofs.SL
open Go
theorem lawFnSessions (w : World) (t1 : TL UInt8) (h1 : GT.rd w [] t1) (ho1 : Ok.ok (GT.dat t1)) : Spec Try.prog 4 [t1.hdr].toArray w [] (IsV (.bool true)) := w_FnSessions_walk w t1 h1 true (fnSessions_true _)
end Go.Proofs.SL
